/- For the law FnExactProveKey (laid by merge.py). -/
import Derived.Test.YtnplghcbdaiogaaMFnExactProveKeye
section
namespace Go.Proofs.Ytnplghcbdaiogaa.QP
open Go.RowKit Go.Proofs.YtnplghcbdaiogaaW.PrintWords Go.Proofs.YtnplghcbdaiogaaW.PrintLast Go.Proofs.YtnplghcbdaiogaaW.PrintMore Go.Proofs.Ytnplghcbdaiogaa.PB Go.Proofs.Ytnplghcbdaiogaa.PD Go.Proofs.Ytnplghcbdaiogaa.PK Go.Proofs.Ytnplghcbdaiogaa.PL Go.Proofs.Ytnplghcbdaiogaa.PT Go.Proofs.Ytnplghcbdaiogaa.PU Go.Proofs.Ytnplghcbdaiogaa.PG Go.Proofs.Ytnplghcbdaiogaa.PW Go.Proofs.Ytnplghcbdaiogaa.QW Go.Proofs.Ytnplghcbdaiogaa.PA
set_option linter.unusedVariables false
mutual
def keysT : T → List ByteArray
 | ⟨K, _, l⟩ => wvK l K
def wvK : List T → List ByteArray → List ByteArray
 | [], K => K
 | t :: l, [] => keysT t ++ wvK l []
 | t :: l, k :: K => keysT t ++ k :: wvK l K
end
mutual
def valsT : T → List ByteArray
 | ⟨_, V, l⟩ => wvV l V
def wvV : List T → List ByteArray → List ByteArray
 | [], V => V
 | t :: l, [] => valsT t ++ wvV l []
 | t :: l, k :: V => valsT t ++ k :: wvV l V
end
mutual
def levT : T → Option Nat
 | ⟨_, _, l⟩ => levH l
def levH : List T → Option Nat
 | [] => some 1
 | t :: l => match levT t with
  | none => none
  | some d => if (decide (2 ≤ t.f0.length) && levL d l) = true then some (d + 1) else none
def levL : Nat → List T → Bool
 | _, [] => true
 | d, t :: l => decide (levT t = some d) && (decide (2 ≤ t.f0.length) && levL d l)
end
mutual
def hT : T → Nat
 | ⟨_, _, l⟩ => hL l + 1
def hL : List T → Nat
 | [] => 0
 | t :: l => max (hT t) (hL l)
end
def pairsP : ByteArray → List ByteArray → List ByteArray → ByteArray
 | s, k :: K, v :: V => pairsP (s ++ (((one k.size ++ k) ++ one v.size) ++ v)) K V
 | s, _, _ => s
def kidsP : ByteArray → List ByteArray → ByteArray
 | s, [] => s
 | s, d :: C => kidsP (s ++ d) C
def digP (K V C : List ByteArray) : ByteArray := dig 103 (kidsP (pairsP (one K.length) K V ++ one C.length) C)
mutual
def digT : T → ByteArray
 | ⟨K, V, l⟩ => digP K V (digL l)
def digL : List T → List ByteArray
 | [] => []
 | t :: l => digT t :: digL l
end
theorem digL_map (l : List T) : digL l = l.map digT := by
 induction l with
 | nil => rfl
 | cons x l ih => rw [digL, List.map_cons, ih]
def okT (t : T) : Prop := T.rec (motive_1 := fun _ => Prop) (motive_2 := fun _ => Prop) (fun K V l h => K.length ≤ 4 ∧ V.length = K.length ∧ (l.length = 0 ∨ l.length = K.length + 1) ∧ h) True (fun _ _ h1 h2 => h1 ∧ h2) t
def okL (l : List T) : Prop := ∀ t ∈ l, okT t
theorem okT_eq (t : T) : okT t ↔ (t.f0.length ≤ 4 ∧ t.f1.length = t.f0.length ∧ (t.f2.length = 0 ∨ t.f2.length = t.f0.length + 1) ∧ okL t.f2) := by
 obtain ⟨K, V, l⟩ := t
 have key : ∀ l : List T, (T.rec_1 (motive_1 := fun _ => Prop) (motive_2 := fun _ => Prop) (fun K V l h => K.length ≤ 4 ∧ V.length = K.length ∧ (l.length = 0 ∨ l.length = K.length + 1) ∧ h) True (fun _ _ h1 h2 => h1 ∧ h2) l) ↔ okL l := by
  intro l
  induction l with
  | nil => exact ⟨fun _ => fun t h => absurd h List.not_mem_nil, fun _ => trivial⟩
  | cons t l ih =>
   constructor
   ·rintro ⟨h1, h2⟩ u hu
    rcases List.mem_cons.1 hu with rfl | hu
    ·exact h1
    ·exact ih.1 h2 u hu
   ·intro h
    exact ⟨h t List.mem_cons_self, ih.2 (fun u hu => h u (List.mem_cons_of_mem _ hu))⟩
 show (K.length ≤ 4 ∧ V.length = K.length ∧ (l.length = 0 ∨ l.length = K.length + 1) ∧ _) ↔ _
 rw [key l]
theorem wvK_nil (K : List ByteArray) : wvK [] K = K := by cases K <;> rfl
theorem wvV_nil (K : List ByteArray) : wvV [] K = K := by cases K <;> rfl
theorem keysT_eq (t : T) : keysT t = wvK t.f2 t.f0 := by obtain ⟨K, V, l⟩ := t; rw [keysT]
theorem valsT_eq (t : T) : valsT t = wvV t.f2 t.f1 := by obtain ⟨K, V, l⟩ := t; rw [valsT]
theorem levT_eq (t : T) : levT t = levH t.f2 := by obtain ⟨K, V, l⟩ := t; rw [levT]
theorem hT_eq (t : T) : hT t = hL t.f2 + 1 := by obtain ⟨K, V, l⟩ := t; rw [hT]
theorem digT_eq (t : T) : digT t = digP t.f0 t.f1 (t.f2.map digT) := by obtain ⟨K, V, l⟩ := t; rw [digT, digL_map]
theorem hL_mem (l : List T) : ∀ t ∈ l, hT t ≤ hL l := by
 induction l with
 | nil => intro t h; cases h
 | cons a l ih =>
  intro t h
  rw [hL]
  rcases List.mem_cons.1 h with rfl | h
  ·omega
  ·have := ih t h; omega
theorem readK_len {rd : Nat → Option (T × Nat)} : ∀ (ks : List Int) (a : Nat) (l : List T) (e : Nat), readK rd ks a = some (l, e) → l.length = ks.length := by
 intro ks
 induction ks with
 | nil => intro a l e h; simp only [readK, Option.some.injEq, Prod.mk.injEq] at h; rw [← h.1]; rfl
 | cons k ks ih =>
  intro a l e h
  rw [readK] at h
  by_cases c : k = (a : Int)
  ·rw [if_pos c] at h
   cases hr : rd a with
   | none => rw [hr] at h; cases h
   | some te =>
    obtain ⟨t, e1⟩ := te
    rw [hr] at h
    dsimp only at h
    cases hk : readK rd ks e1 with
    | none => rw [hk] at h; cases h
    | some le =>
     obtain ⟨l1, e2⟩ := le
     rw [hk] at h
     simp only [Option.some.injEq, Prod.mk.injEq] at h
     rw [← h.1, List.length_cons, List.length_cons, ih e1 l1 e2 hk]
  ·rw [if_neg c] at h; cases h
theorem readK_mem {rd : Nat → Option (T × Nat)} : ∀ (ks : List Int) (a : Nat) (l : List T) (e : Nat), readK rd ks a = some (l, e) → ∀ t ∈ l, ∃ b e', rd b = some (t, e') := by
 intro ks
 induction ks with
 | nil => intro a l e h t ht; simp only [readK, Option.some.injEq, Prod.mk.injEq] at h; rw [← h.1] at ht; cases ht
 | cons k ks ih =>
  intro a l e h t ht
  rw [readK] at h
  by_cases c : k = (a : Int)
  ·rw [if_pos c] at h
   cases hr : rd a with
   | none => rw [hr] at h; cases h
   | some te =>
    obtain ⟨t1, e1⟩ := te
    rw [hr] at h
    dsimp only at h
    cases hk : readK rd ks e1 with
    | none => rw [hk] at h; cases h
    | some le =>
     obtain ⟨l1, e2⟩ := le
     rw [hk] at h
     simp only [Option.some.injEq, Prod.mk.injEq] at h
     rw [← h.1] at ht
     rcases List.mem_cons.1 ht with rfl | ht
     ·exact ⟨a, e1, hr⟩
     ·exact ih e1 l1 e2 hk t ht
  ·rw [if_neg c] at h; cases h
theorem readF_open (ps : List S97) (n a : Nat) (t : T) (e : Nat) (h : readF ps (n + 1) a = some (t, e)) : ∃ p l, ps[a]? = some p ∧ okP p ∧ readK (readF ps n) p.f2 (a + 1) = some (l, e) ∧ t = ⟨p.f0, p.f1, l⟩ := by
 rw [readF] at h
 cases hp : ps[a]? with
 | none => rw [hp] at h; cases h
 | some p =>
  rw [hp] at h
  dsimp only at h
  by_cases c : okP p
  ·rw [if_pos c] at h
   cases hk : readK (readF ps n) p.f2 (a + 1) with
   | none => rw [hk] at h; cases h
   | some le =>
    obtain ⟨l, e1⟩ := le
    rw [hk] at h
    simp only [Option.some.injEq, Prod.mk.injEq] at h
    exact ⟨p, l, rfl, c, by rw [hk, h.2], h.1.symm⟩
  ·rw [if_neg c] at h; cases h
theorem readF_ok (ps : List S97) : ∀ (n a : Nat) (t : T) (e : Nat), readF ps n a = some (t, e) → okT t ∧ hT t ≤ n := by
 intro n
 induction n with
 | zero => intro a t e h; cases h
 | succ n ih =>
  intro a t e h
  obtain ⟨p, l, hp, hok, hk, rfl⟩ := readF_open ps n a t e h
  have hl := readK_len _ _ _ _ hk
  have hm := readK_mem _ _ _ _ hk
  refine ⟨(okT_eq _).2 ⟨hok.1, hok.2.1, ?_, fun u hu => ?_⟩, ?_⟩
  ·show l.length = 0 ∨ l.length = p.f0.length + 1
   rw [hl]; exact hok.2.2
  ·obtain ⟨b, e', hb⟩ := hm u hu
   exact (ih b u e' hb).1
  ·rw [hT_eq]
   show hL l + 1 ≤ n + 1
   have : ∀ m : List T, (∀ u ∈ m, hT u ≤ n) → hL m ≤ n := by
    intro m
    induction m with
    | nil => intro _; exact Nat.zero_le _
    | cons u m ih2 =>
     intro hu
     rw [hL]
     have := hu u List.mem_cons_self
     have := ih2 (fun v hv => hu v (List.mem_cons_of_mem _ hv))
     omega
   have := this l (fun u hu => by
    obtain ⟨b, e', hb⟩ := hm u hu
    exact (ih b u e' hb).2)
   omega
theorem wv_len : ∀ (l : List T) (K V : List ByteArray), K.length = V.length → (∀ t ∈ l, (keysT t).length = (valsT t).length) → (wvK l K).length = (wvV l V).length := by
 intro l
 induction l with
 | nil => intro K V h _; rw [wvK_nil, wvV_nil]; exact h
 | cons t l ih =>
  intro K V h ht
  have h1 := ht t List.mem_cons_self
  have h2 := fun u hu => ht u (List.mem_cons_of_mem _ hu)
  cases K with
  | nil =>
   cases V with
   | nil => rw [wvK, wvV, List.length_append, List.length_append, h1, ih [] [] rfl h2]
   | cons v V => cases h
  | cons k K =>
   cases V with
   | nil => cases h
   | cons v V => rw [wvK, wvV, List.length_append, List.length_append, List.length_cons, List.length_cons, h1, ih K V (by simpa using h) h2]
theorem kv_len (t : T) : okT t → (keysT t).length = (valsT t).length := by
 refine indT (P := fun t => okT t → (keysT t).length = (valsT t).length) (fun x ih h => ?_) t
 obtain ⟨h1, h2, h3, h4⟩ := (okT_eq x).1 h
 rw [keysT_eq, valsT_eq]
 exact wv_len x.f2 x.f0 x.f1 h2.symm (fun u hu => ih u hu (h4 u hu))
theorem wvK_len : ∀ (l : List T) (K : List ByteArray) (w : Nat), (l.map fun t => (keysT t).length).sum ≤ w → (wvK l K).length ≤ w + K.length := by
 intro l
 induction l with
 | nil => intro K w h; rw [wvK_nil]; omega
 | cons t l ih =>
  intro K w h
  rw [List.map_cons, List.sum_cons] at h
  cases K with
  | nil =>
   have := ih [] (w - (keysT t).length) (by omega)
   rw [wvK, List.length_append]; omega
  | cons k K =>
   have := ih K (w - (keysT t).length) (by omega)
   rw [wvK, List.length_append, List.length_cons, List.length_cons]; omega
theorem readK_cnt {rd : Nat → Option (T × Nat)} (hrd : ∀ a t e, rd a = some (t, e) → (keysT t).length + 4 * a ≤ 4 * e) : ∀ (ks : List Int) (a : Nat) (l : List T) (e : Nat), readK rd ks a = some (l, e) → (l.map fun t => (keysT t).length).sum + 4 * a ≤ 4 * e := by
 intro ks
 induction ks with
 | nil => intro a l e h; simp only [readK, Option.some.injEq, Prod.mk.injEq] at h; rw [← h.1, ← h.2]; simp
 | cons k ks ih =>
  intro a l e h
  rw [readK] at h
  by_cases c : k = (a : Int)
  ·rw [if_pos c] at h
   cases hr : rd a with
   | none => rw [hr] at h; cases h
   | some te =>
    obtain ⟨t1, e1⟩ := te
    rw [hr] at h
    dsimp only at h
    cases hk : readK rd ks e1 with
    | none => rw [hk] at h; cases h
    | some le =>
     obtain ⟨l1, e2⟩ := le
     rw [hk] at h
     simp only [Option.some.injEq, Prod.mk.injEq] at h
     have h1 := hrd a t1 e1 hr
     have h2 := ih e1 l1 e2 hk
     rw [← h.1, ← h.2, List.map_cons, List.sum_cons]
     omega
  ·rw [if_neg c] at h; cases h
theorem readF_cnt (ps : List S97) : ∀ (n a : Nat) (t : T) (e : Nat), readF ps n a = some (t, e) → (keysT t).length + 4 * a ≤ 4 * e := by
 intro n
 induction n with
 | zero => intro a t e h; cases h
 | succ n ih =>
  intro a t e h
  obtain ⟨p, l, hp, hok, hk, rfl⟩ := readF_open ps n a t e h
  have h1 := readK_cnt ih _ _ _ _ hk
  have h2 := wvK_len l p.f0 _ (Nat.le_refl _)
  have h3 := hok.1
  rw [keysT_eq]
  show (wvK l p.f0).length + 4 * a ≤ 4 * e
  omega
end Go.Proofs.Ytnplghcbdaiogaa.QP
end
section
namespace Go.Proofs.Ytnplghcbdaiogaa.QO
open Go.RowKit Go.Proofs.YtnplghcbdaiogaaW.PrintWords Go.Proofs.YtnplghcbdaiogaaW.PrintLast Go.Proofs.YtnplghcbdaiogaaW.PrintMore Go.Proofs.Ytnplghcbdaiogaa.PB Go.Proofs.Ytnplghcbdaiogaa.PD Go.Proofs.Ytnplghcbdaiogaa.PK Go.Proofs.Ytnplghcbdaiogaa.PL Go.Proofs.Ytnplghcbdaiogaa.PT Go.Proofs.Ytnplghcbdaiogaa.PU Go.Proofs.Ytnplghcbdaiogaa.PG Go.Proofs.Ytnplghcbdaiogaa.PW Go.Proofs.Ytnplghcbdaiogaa.QW Go.Proofs.Ytnplghcbdaiogaa.PA Go.Proofs.Ytnplghcbdaiogaa.QP
set_option linter.unusedVariables false
theorem rdS_at (l : List S95) (i : Nat) (h : i < l.length) : rd_N95 l (i : Int) = l[i] := by
 unfold rd_N95; rw [Int.toNat_natCast, List.getD_eq_getElem?_getD, List.getElem?_eq_getElem h]; rfl
theorem rdI_at (l : List S74) (i : Nat) (h : i < l.length) : rd_N74 l (i : Int) = l[i] := by
 unfold rd_N74; rw [Int.toNat_natCast, List.getD_eq_getElem?_getD, List.getElem?_eq_getElem h]; rfl
theorem er95_f (x : S95) : (er95 x).f0 = x.f0 ∧ (er95 x).f1 = x.f1 ∧ (er95 x).f2 = x.f2.map er95 := by rw [er95_eq]; exact ⟨rfl, rfl, rfl⟩
theorem er74_f (x : S74) : (er74 x).f0 = x.f0 ∧ (er74 x).f1 = x.f1 ∧ (er74 x).f2 = x.f2.map er74 := by rw [er74_eq]; exact ⟨rfl, rfl, rfl⟩
theorem wvK_mid (t : T) (l : List T) (k : ByteArray) (K : List ByteArray) : wvK (t :: l) (k :: K) = keysT t ++ k :: wvK l K := by rw [wvK]
theorem wvV_mid (t : T) (l : List T) (k : ByteArray) (K : List ByteArray) : wvV (t :: l) (k :: K) = valsT t ++ k :: wvV l K := by rw [wvV]
theorem wvK_last (t : T) : wvK [t] [] = keysT t := by rw [wvK, wvK_nil, List.append_nil]
theorem wvV_last (t : T) : wvV [t] [] = valsT t := by rw [wvV, wvV_nil, List.append_nil]
theorem allS (x : S95) : okT (er95 x) → ∀ l1 l2 : List ByteArray, l1.length + (keysT (er95 x)).length < 8796093022208 → l2.length + (valsT (er95 x)).length < 8796093022208 → Ev (fun k => spec_l5T_all.f k x l1 l2) (l1 ++ keysT (er95 x), l2 ++ valsT (er95 x)) := by
 refine ind95 (P := fun x => okT (er95 x) → ∀ l1 l2 : List ByteArray, l1.length + (keysT (er95 x)).length < 8796093022208 → l2.length + (valsT (er95 x)).length < 8796093022208 → Ev (fun k => spec_l5T_all.f k x l1 l2) (l1 ++ keysT (er95 x), l2 ++ valsT (er95 x))) (fun x ih hok => ?_) x
 obtain ⟨e0, e1, e2⟩ := er95_f x
 obtain ⟨h1, h2, h3, h4⟩ := (okT_eq _).1 hok
 rw [keysT_eq, valsT_eq]
 rw [e0] at h1 h2 h3
 rw [e1] at h2
 rw [e2] at h3 h4
 rw [e0, e1, e2]
 rw [List.length_map] at h3
 have key : ∀ (d i : Nat) (a1 a2 : List ByteArray), i + d = x.f0.length + 1 → a1.length + (wvK ((x.f2.map er95).drop i) (x.f0.drop i)).length < 8796093022208 → a2.length + (wvV ((x.f2.map er95).drop i) (x.f1.drop i)).length < 8796093022208 →
   Ev (fun k => spec_l5T_all.l0 k x a1 a2 (i : Int)) (a1 ++ wvK ((x.f2.map er95).drop i) (x.f0.drop i), a2 ++ wvV ((x.f2.map er95).drop i) (x.f1.drop i)) := by
  intro d
  induction d with
  | zero =>
   intro i a1 a2 hi b1 b2
   rw [List.drop_eq_nil_of_le (by rw [List.length_map]; omega), List.drop_eq_nil_of_le (by omega), List.drop_eq_nil_of_le (by omega), wvK_nil, wvV_nil, List.append_nil, List.append_nil]
   exact Ev.step (f := fun _ => some (a1, a2)) (fun k => by simp only [spec_l5T_all.l0]; rw [if_neg (by omega)]) (Ev.now _)
  | succ d ihd =>
   intro i a1 a2 hi b1 b2
   have hw : wrap64 ((i : Int) + 1) = ((i + 1 : Nat) : Int) := by rw [w64 (x := (i : Int) + 1) (by omega) (by omega)]; rfl
   refine Ev.step (f := fun k => _) (fun k => by simp only [spec_l5T_all.l0]; rfl) ?_
   refine ev_pos (by omega) (ev_const (rfl : spec_l5T_leaf.f x = some _) ?_)
   rcases Nat.eq_zero_or_pos x.f2.length with hz | hz
   ·have hn : x.f2 = [] := List.eq_nil_of_length_eq_zero hz
    rw [hn] at b1 b2 ⊢
    rw [List.map_nil, List.drop_nil, wvK_nil] at b1
    rw [List.map_nil, List.drop_nil, wvV_nil] at b2
    rw [List.map_nil, List.drop_nil, wvK_nil, wvV_nil]
    refine ev_pos (by simp) ?_
    rcases Nat.lt_or_ge i x.f0.length with hlt | hge
    ·rw [List.drop_eq_getElem_cons hlt] at b1
     rw [List.drop_eq_getElem_cons (by omega : i < x.f1.length)] at b2
     rw [List.length_cons] at b1 b2
     refine ev_pos (by omega) (ev_pos (by omega) (ev_pos (by omega) (ev_pos (by omega) (ev_pos (by omega) ?_))))
     rw [hw, rdOf_at _ _ _ hlt, rdOf_at _ _ _ (by omega : i < x.f1.length)]
     have := ihd (i + 1) (a1 ++ [x.f0[i]]) (a2 ++ [x.f1[i]]) (by omega) (by rw [hn, List.map_nil, List.drop_nil, wvK_nil, List.length_append]; simp only [List.length_cons, List.length_nil]; omega) (by rw [hn, List.map_nil, List.drop_nil, wvV_nil, List.length_append]; simp only [List.length_cons, List.length_nil]; omega)
     rw [hn, List.map_nil, List.drop_nil, wvK_nil, wvV_nil, List.append_assoc, List.append_assoc] at this
     rw [List.drop_eq_getElem_cons hlt, List.drop_eq_getElem_cons (by omega : i < x.f1.length)]
     exact this
    ·refine ev_neg (by omega) ?_
     rw [hw]
     have := ihd (i + 1) a1 a2 (by omega) (by rw [hn, List.map_nil, List.drop_nil, wvK_nil, List.drop_eq_nil_of_le (by omega)]; simp only [List.length_nil]; omega) (by rw [hn, List.map_nil, List.drop_nil, wvV_nil, List.drop_eq_nil_of_le (by omega)]; simp only [List.length_nil]; omega)
     rw [hn, List.map_nil, List.drop_nil, wvK_nil, wvV_nil, List.drop_eq_nil_of_le (by omega), List.drop_eq_nil_of_le (by omega)] at this
     rw [List.drop_eq_nil_of_le (by omega), List.drop_eq_nil_of_le (by omega)]
     exact this
   ·have hk : x.f2.length = x.f0.length + 1 := by omega
    have hi2 : i < x.f2.length := by omega
    refine ev_neg (by rw [beq_iff_eq]; omega) (ev_pos (by omega) (ev_pos (by omega) ?_))
    rw [rdS_at _ _ hi2]
    have hdm : (x.f2.map er95).drop i = er95 (x.f2[i]) :: (x.f2.map er95).drop (i + 1) := by
     rw [List.drop_eq_getElem_cons (by rw [List.length_map]; exact hi2), List.getElem_map]
    have hmem := List.getElem_mem hi2
    have hih := ih _ hmem (h4 _ (List.mem_map_of_mem hmem))
    rw [hdm] at b1 b2 ⊢
    rcases Nat.lt_or_ge i x.f0.length with hlt | hge
    ·rw [List.drop_eq_getElem_cons hlt, wvK_mid] at b1
     rw [List.drop_eq_getElem_cons (by omega : i < x.f1.length), wvV_mid] at b2
     rw [List.length_append, List.length_cons] at b1 b2
     refine ev_bind (hih a1 a2 (by omega) (by omega)) ?_
     refine ev_pos (by omega) (ev_pos (by rw [List.length_append]; omega) (ev_pos (by omega) (ev_pos (by rw [List.length_append]; omega) ?_)))
     rw [hw, rdOf_at _ _ _ hlt, rdOf_at _ _ _ (by omega : i < x.f1.length)]
     have := ihd (i + 1) (a1 ++ keysT (er95 x.f2[i]) ++ [x.f0[i]]) (a2 ++ valsT (er95 x.f2[i]) ++ [x.f1[i]]) (by omega) (by simp only [List.length_append, List.length_cons, List.length_nil]; omega) (by simp only [List.length_append, List.length_cons, List.length_nil]; omega)
     rw [List.drop_eq_getElem_cons hlt, List.drop_eq_getElem_cons (by omega : i < x.f1.length), wvK_mid, wvV_mid]
     simp only [List.append_assoc, List.cons_append, List.nil_append] at this ⊢
     exact this
    ·have hl : i = x.f0.length := by omega
     have hd0 : (x.f2.map er95).drop (i + 1) = [] := List.drop_eq_nil_of_le (by rw [List.length_map]; omega)
     rw [hd0, List.drop_eq_nil_of_le (by omega : x.f0.length ≤ i), wvK_last] at b1
     rw [hd0, List.drop_eq_nil_of_le (by omega : x.f1.length ≤ i), wvV_last] at b2
     rw [hd0, List.drop_eq_nil_of_le (by omega : x.f0.length ≤ i), List.drop_eq_nil_of_le (by omega : x.f1.length ≤ i), wvK_last, wvV_last]
     refine ev_bind (hih a1 a2 (by omega) (by omega)) (ev_neg (by omega) ?_)
     rw [hw]
     have := ihd (i + 1) (a1 ++ keysT (er95 x.f2[i])) (a2 ++ valsT (er95 x.f2[i])) (by omega) (by rw [hd0, List.drop_eq_nil_of_le (by omega : x.f0.length ≤ i + 1), wvK_nil, List.length_append]; simp only [List.length_nil]; omega) (by rw [hd0, List.drop_eq_nil_of_le (by omega : x.f1.length ≤ i + 1), wvV_nil, List.length_append]; simp only [List.length_nil]; omega)
     rw [hd0, List.drop_eq_nil_of_le (by omega : x.f0.length ≤ i + 1), List.drop_eq_nil_of_le (by omega : x.f1.length ≤ i + 1), wvK_nil, wvV_nil, List.append_nil, List.append_nil] at this
     exact this
 intro l1 l2 b1 b2
 refine Ev.step (f := fun k => spec_l5T_all.l0 k x l1 l2 ((0 : Nat) : Int)) (fun k => by simp only [spec_l5T_all.f]; rfl) ?_
 have := key (x.f0.length + 1) 0 l1 l2 (by omega) (by simpa using b1) (by simpa using b2)
 simpa using this
theorem allI (x : S74) : okT (er74 x) → ∀ l1 l2 : List ByteArray, l1.length + (keysT (er74 x)).length < 8796093022208 → l2.length + (valsT (er74 x)).length < 8796093022208 → Ev (fun k => impl_node_all.f k x l1 l2) (l1 ++ keysT (er74 x), l2 ++ valsT (er74 x)) := by
 refine ind74 (P := fun x => okT (er74 x) → ∀ l1 l2 : List ByteArray, l1.length + (keysT (er74 x)).length < 8796093022208 → l2.length + (valsT (er74 x)).length < 8796093022208 → Ev (fun k => impl_node_all.f k x l1 l2) (l1 ++ keysT (er74 x), l2 ++ valsT (er74 x))) (fun x ih hok => ?_) x
 obtain ⟨e0, e1, e2⟩ := er74_f x
 obtain ⟨h1, h2, h3, h4⟩ := (okT_eq _).1 hok
 rw [keysT_eq, valsT_eq]
 rw [e0] at h1 h2 h3
 rw [e1] at h2
 rw [e2] at h3 h4
 rw [e0, e1, e2]
 rw [List.length_map] at h3
 have key : ∀ (d i : Nat) (a1 a2 : List ByteArray), i + d = x.f0.length → a1.length + (wvK ((x.f2.map er74).drop i) (x.f0.drop i)).length < 8796093022208 → a2.length + (wvV ((x.f2.map er74).drop i) (x.f1.drop i)).length < 8796093022208 →
   Ev (fun k => impl_node_all.l0 k x a1 a2 x.f0 (x.f0.length : Int) (i : Int)) (a1 ++ wvK ((x.f2.map er74).drop i) (x.f0.drop i), a2 ++ wvV ((x.f2.map er74).drop i) (x.f1.drop i)) := by
  intro d
  induction d with
  | zero =>
   intro i a1 a2 hi b1 b2
   have hi' : i = x.f0.length := by omega
   subst hi'
   refine Ev.step (f := fun k => _) (fun k => by simp only [impl_node_all.l0]; rfl) ?_
   refine ev_neg (by omega) (ev_const (rfl : impl_node_isLeaf.f x = some _) ?_)
   rcases Nat.eq_zero_or_pos x.f2.length with hz | hz
   ·have hn : x.f2 = [] := List.eq_nil_of_length_eq_zero hz
    refine ev_pos (by rw [hn]; rfl) ?_
    rw [hn, List.map_nil, List.drop_nil, wvK_nil, wvV_nil, List.drop_eq_nil_of_le (Nat.le_refl _), List.drop_eq_nil_of_le (by omega : x.f1.length ≤ x.f0.length), List.append_nil, List.append_nil]
    exact Ev.now _
   ·have hk : x.f2.length = x.f0.length + 1 := by omega
    have hi2 : x.f0.length < x.f2.length := by omega
    refine ev_neg (by rw [beq_iff_eq]; omega) (ev_pos (by omega) (ev_pos (by omega) ?_))
    rw [rdI_at _ _ hi2]
    have hdm : (x.f2.map er74).drop x.f0.length = [er74 (x.f2[x.f0.length])] := by
     rw [List.drop_eq_getElem_cons (by rw [List.length_map]; exact hi2), List.getElem_map, List.drop_eq_nil_of_le (by rw [List.length_map]; omega)]
    have hmem := List.getElem_mem hi2
    have hih := ih _ hmem (h4 _ (List.mem_map_of_mem hmem))
    rw [hdm, List.drop_eq_nil_of_le (Nat.le_refl _), wvK_last] at b1
    rw [hdm, List.drop_eq_nil_of_le (by omega : x.f1.length ≤ x.f0.length), wvV_last] at b2
    rw [hdm, List.drop_eq_nil_of_le (Nat.le_refl _), List.drop_eq_nil_of_le (by omega : x.f1.length ≤ x.f0.length), wvK_last, wvV_last]
    exact ev_bind (hih a1 a2 b1 b2) (Ev.now _)
  | succ d ihd =>
   intro i a1 a2 hi b1 b2
   have hw : wrap64 ((i : Int) + 1) = ((i + 1 : Nat) : Int) := by rw [w64 (x := (i : Int) + 1) (by omega) (by omega)]; rfl
   have hlt : i < x.f0.length := by omega
   have hlt1 : i < x.f1.length := by omega
   refine Ev.step (f := fun k => _) (fun k => by simp only [impl_node_all.l0]; rfl) ?_
   refine ev_pos (by omega) (ev_pos (by omega) (ev_pos (by omega) (ev_const (rfl : impl_node_isLeaf.f x = some _) ?_)))
   rcases Nat.eq_zero_or_pos x.f2.length with hz | hz
   ·have hn : x.f2 = [] := List.eq_nil_of_length_eq_zero hz
    rw [hn, List.map_nil, List.drop_nil, wvK_nil, List.drop_eq_getElem_cons hlt, List.length_cons] at b1
    rw [hn, List.map_nil, List.drop_nil, wvV_nil, List.drop_eq_getElem_cons hlt1, List.length_cons] at b2
    refine ev_pos (by rw [hn]; rfl) (ev_const rfl (ev_pos (by simp only [List.length_cons, List.length_nil]; omega) (ev_pos (by omega) (ev_const rfl (ev_pos (by simp only [List.length_cons, List.length_nil]; omega) ?_)))))
    rw [hw, rdOf_at _ _ _ hlt, rdOf_at _ _ _ hlt1]
    have := ihd (i + 1) (a1 ++ [x.f0[i]]) (a2 ++ [x.f1[i]]) (by omega) (by rw [hn, List.map_nil, List.drop_nil, wvK_nil, List.length_append]; simp only [List.length_cons, List.length_nil]; omega) (by rw [hn, List.map_nil, List.drop_nil, wvV_nil, List.length_append]; simp only [List.length_cons, List.length_nil]; omega)
    rw [hn, List.map_nil, List.drop_nil, wvK_nil, wvV_nil, List.append_assoc, List.append_assoc] at this
    rw [hn, List.map_nil, List.drop_nil, wvK_nil, wvV_nil, List.drop_eq_getElem_cons hlt, List.drop_eq_getElem_cons hlt1]
    exact this
   ·have hk : x.f2.length = x.f0.length + 1 := by omega
    have hi2 : i < x.f2.length := by omega
    refine ev_neg (by rw [beq_iff_eq]; omega) (ev_pos (by omega) ?_)
    rw [rdI_at _ _ hi2]
    have hdm : (x.f2.map er74).drop i = er74 (x.f2[i]) :: (x.f2.map er74).drop (i + 1) := by
     rw [List.drop_eq_getElem_cons (by rw [List.length_map]; exact hi2), List.getElem_map]
    have hmem := List.getElem_mem hi2
    have hih := ih _ hmem (h4 _ (List.mem_map_of_mem hmem))
    rw [hdm] at b1 b2 ⊢
    rw [List.drop_eq_getElem_cons hlt, wvK_mid, List.length_append, List.length_cons] at b1
    rw [List.drop_eq_getElem_cons hlt1, wvV_mid, List.length_append, List.length_cons] at b2
    refine ev_bind (hih a1 a2 (by omega) (by omega)) ?_
    refine ev_const rfl (ev_pos (by simp only [List.length_append, List.length_cons, List.length_nil]; omega) (ev_pos (by omega) (ev_const rfl (ev_pos (by simp only [List.length_append, List.length_cons, List.length_nil]; omega) ?_))))
    rw [hw, rdOf_at _ _ _ hlt, rdOf_at _ _ _ hlt1]
    have := ihd (i + 1) (a1 ++ keysT (er74 x.f2[i]) ++ [x.f0[i]]) (a2 ++ valsT (er74 x.f2[i]) ++ [x.f1[i]]) (by omega) (by simp only [List.length_append, List.length_cons, List.length_nil]; omega) (by simp only [List.length_append, List.length_cons, List.length_nil]; omega)
    rw [List.drop_eq_getElem_cons hlt, List.drop_eq_getElem_cons hlt1, wvK_mid, wvV_mid]
    simp only [List.append_assoc, List.cons_append, List.nil_append] at this ⊢
    exact this
 intro l1 l2 b1 b2
 refine Ev.step (f := fun k => impl_node_all.l0 k x l1 l2 x.f0 (x.f0.length : Int) ((0 : Nat) : Int)) (fun k => by simp only [impl_node_all.f]; rfl) ?_
 have := key x.f0.length 0 l1 l2 (by omega) (by simpa using b1) (by simpa using b2)
 simpa using this
def lvS : Option Nat → Int
 | none => -1
 | some d => (d : Int)
theorem levL_iff (d : Nat) (l : List T) : levL d l = true ↔ ∀ t ∈ l, levT t = some d ∧ 2 ≤ t.f0.length := by
 induction l with
 | nil => exact ⟨fun _ t h => absurd h List.not_mem_nil, fun _ => by rw [levL]⟩
 | cons a l ih =>
  rw [levL, Bool.and_eq_true, Bool.and_eq_true, decide_eq_true_iff, decide_eq_true_iff, ih]
  constructor
  ·rintro ⟨h1, h2, h3⟩ t ht
   rcases List.mem_cons.1 ht with rfl | ht
   ·exact ⟨h1, h2⟩
   ·exact h3 t ht
  ·intro h
   exact ⟨(h a List.mem_cons_self).1, (h a List.mem_cons_self).2, fun t ht => h t (List.mem_cons_of_mem _ ht)⟩
theorem levH_eq (t : T) (l : List T) : levH (t :: l) = match levT t with
  | none => none
  | some d => if levL d (t :: l) = true then some (d + 1) else none := by
 rw [levH]
 cases h : levT t with
 | none => rfl
 | some d =>
  have : levL d (t :: l) = (decide (2 ≤ t.f0.length) && levL d l) := by
   rw [levL, h, decide_eq_true rfl, Bool.true_and]
  dsimp only
  rw [this]
theorem lev_le (t : T) : ∀ d, levT t = some d → d ≤ hT t := by
 refine indT (P := fun t => ∀ d, levT t = some d → d ≤ hT t) (fun x ih d h => ?_) t
 rw [levT_eq] at h
 rw [hT_eq]
 cases hl : x.f2 with
 | nil => rw [hl, levH] at h; injection h with h; omega
 | cons a l =>
  rw [hl, levH_eq] at h
  cases ha : levT a with
  | none => rw [ha] at h; cases h
  | some e =>
   rw [ha] at h
   dsimp only at h
   by_cases c : levL e (a :: l) = true
   ·rw [if_pos c] at h
    injection h with h
    have := ih a (by rw [hl]; exact List.mem_cons_self) e ha
    have := hL_mem (a :: l) a List.mem_cons_self
    omega
   ·rw [if_neg c] at h; cases h
theorem evenS (x : S95) : hT (er95 x) ≤ 1000000000000000000 → okT (er95 x) → Ev (fun k => spec_l5T_even.f k x) (lvS (levT (er95 x))) := by
 refine ind95 (P := fun x => hT (er95 x) ≤ 1000000000000000000 → okT (er95 x) → Ev (fun k => spec_l5T_even.f k x) (lvS (levT (er95 x)))) (fun x ih hh hok => ?_) x
 obtain ⟨e0, e1, e2⟩ := er95_f x
 obtain ⟨h1, h2, h3, h4⟩ := (okT_eq _).1 hok
 rw [e0, e2, List.length_map] at h3
 rw [e0] at h1
 rw [hT_eq, e2] at hh
 rw [e2] at h4
 rw [levT_eq, e2]
 refine Ev.step (f := fun k => _) (fun k => by simp only [spec_l5T_even.f]; rfl) ?_
 refine ev_const (rfl : spec_l5T_leaf.f x = some _) ?_
 have hgt : ∀ k ∈ x.f2, hT (er95 k) ≤ 1000000000000000000 := fun k hk => by have := hL_mem _ _ (List.mem_map_of_mem (f := er95) hk); omega
 rcases Nat.eq_zero_or_pos x.f2.length with hz | hz
 ·have hn : x.f2 = [] := List.eq_nil_of_length_eq_zero hz
  refine ev_pos (by rw [hn]; rfl) ?_
  rw [hn, List.map_nil, levH]
  exact Ev.now _
 ·refine ev_neg (by rw [beq_iff_eq]; omega) (ev_pos (by omega) ?_)
  have hm0 := List.getElem_mem hz
  have hk0 := ih _ hm0 (hgt _ hm0) (h4 _ (List.mem_map_of_mem hm0))
  have er : rd_N95 x.f2 0 = x.f2[0] := rdS_at x.f2 0 hz
  rw [er]
  refine ev_bind hk0 ?_
  have hd0 : x.f2.map er95 = er95 x.f2[0] :: (x.f2.map er95).drop 1 := by
   have := List.drop_eq_getElem_cons (l := x.f2.map er95) (i := 0) (by rw [List.length_map]; exact hz)
   rw [List.drop_zero, List.getElem_map] at this
   exact this
  cases hv : levT (er95 x.f2[0]) with
  | none =>
   rw [hd0, levH_eq, hv]
   refine Ev.step (f := fun k => _) (fun k => by simp only [spec_l5T_even.l0]; rfl) ?_
   exact ev_pos (by omega) (ev_pos (by omega) (ev_pos (by omega) (ev_pos (by show (-1 : Int) < 0; omega) (Ev.now _))))
  | some d =>
   have hdle : d ≤ 1000000000000000000 := Nat.le_trans (lev_le _ d hv) (hgt _ hm0)
   have key : ∀ (m i : Nat), i + m = x.f2.length → Ev (fun k => spec_l5T_even.l0 k (d : Int) x.f2 (x.f2.length : Int) (i : Int)) (if levL d ((x.f2.map er95).drop i) = true then (d : Int) + 1 else -1) := by
    intro m
    induction m with
    | zero =>
     intro i hi
     rw [List.drop_eq_nil_of_le (by rw [List.length_map]; omega), levL, if_pos rfl]
     refine Ev.step (f := fun k => _) (fun k => by simp only [spec_l5T_even.l0]; rfl) ?_
     refine ev_neg (by omega) ?_
     rw [w64 (x := (d : Int) + 1) (by omega) (by omega)]
     exact Ev.now _
    | succ m ihm =>
     intro i hi
     have hi2 : i < x.f2.length := by omega
     have hw : wrap64 ((i : Int) + 1) = ((i + 1 : Nat) : Int) := by rw [w64 (x := (i : Int) + 1) (by omega) (by omega)]; rfl
     have hmi := List.getElem_mem hi2
     have hdm : (x.f2.map er95).drop i = er95 (x.f2[i]) :: (x.f2.map er95).drop (i + 1) := by
      rw [List.drop_eq_getElem_cons (by rw [List.length_map]; exact hi2), List.getElem_map]
     rw [hdm, levL]
     refine Ev.step (f := fun k => _) (fun k => by simp only [spec_l5T_even.l0]; rfl) ?_
     refine ev_pos (by omega) (ev_pos (by omega) (ev_pos (by omega) (ev_neg (by omega) ?_)))
     rw [rdS_at _ _ hi2]
     refine ev_bind (ih _ hmi (hgt _ hmi) (h4 _ (List.mem_map_of_mem hmi))) ?_
     by_cases c : levT (er95 x.f2[i]) = some d
     ·rw [c, decide_eq_true rfl, Bool.true_and, (er95_f x.f2[i]).1]
      refine ev_pos rfl ?_
      by_cases c2 : 2 ≤ x.f2[i].f0.length
      ·rw [decide_eq_true c2, Bool.true_and, hw]
       exact ev_neg (by omega) (ihm (i + 1) (by omega))
      ·rw [decide_eq_false c2, Bool.false_and, if_neg (by simp)]
       exact ev_pos (by omega) (Ev.now _)
     ·rw [decide_eq_false c, Bool.false_and, if_neg (by simp)]
      refine ev_neg ?_ (Ev.now _)
      intro e
      apply c
      cases h : levT (er95 x.f2[i]) with
      | none => rw [h] at e; simp only [lvS] at e; omega
      | some d' => rw [h] at e; simp only [lvS] at e; congr 1; omega
   have hk := key x.f2.length 0 (by omega)
   rw [List.drop_zero] at hk
   refine ev_eq hk ?_
   rw [hd0, levH_eq, hv]
   dsimp only
   by_cases c : levL d (er95 x.f2[0] :: (x.f2.map er95).drop 1) = true
   ·rw [if_pos c, if_pos c]; rfl
   ·rw [if_neg c, if_neg c]; rfl
def dpI (t : T) : Int × Bool := match levT t with
 | none => (0, false)
 | some d => ((d : Int), t.f2.isEmpty || decide (0 < t.f0.length))
theorem depthI (x : S74) : hT (er74 x) ≤ 1000000000000000000 → okT (er74 x) → Ev (fun k => impl_node_depth.f k x) (dpI (er74 x)) := by
 refine ind74 (P := fun x => hT (er74 x) ≤ 1000000000000000000 → okT (er74 x) → Ev (fun k => impl_node_depth.f k x) (dpI (er74 x))) (fun x ih hh hok => ?_) x
 obtain ⟨e0, e1, e2⟩ := er74_f x
 obtain ⟨h1, h2, h3, h4⟩ := (okT_eq _).1 hok
 rw [e0, e2, List.length_map] at h3
 rw [e0] at h1
 rw [hT_eq, e2] at hh
 rw [e2] at h4
 refine Ev.step (f := fun k => _) (fun k => by simp only [impl_node_depth.f]; rfl) ?_
 refine ev_const (rfl : impl_node_isLeaf.f x = some _) ?_
 have hgt : ∀ k ∈ x.f2, hT (er74 k) ≤ 1000000000000000000 := fun k hk => by have := hL_mem _ _ (List.mem_map_of_mem (f := er74) hk); omega
 rcases Nat.eq_zero_or_pos x.f2.length with hz | hz
 ·have hn : x.f2 = [] := List.eq_nil_of_length_eq_zero hz
  refine ev_pos (by rw [hn]; rfl) ?_
  unfold dpI
  rw [levT_eq, e2, hn, List.map_nil, levH]
  exact Ev.now _
 ·refine ev_neg (by rw [beq_iff_eq]; omega) ?_
  have hm0 := List.getElem_mem hz
  have hd0 : x.f2.map er74 = er74 x.f2[0] :: (x.f2.map er74).drop 1 := by
   have := List.drop_eq_getElem_cons (l := x.f2.map er74) (i := 0) (by rw [List.length_map]; exact hz)
   rw [List.drop_zero, List.getElem_map] at this
   exact this
  have hne : (x.f2.map er74).isEmpty = false := by rw [hd0]; rfl
  have hk0 := ih _ hm0 (hgt _ hm0) (h4 _ (List.mem_map_of_mem hm0))
  -- a kid's answer
  have kid : ∀ (y : S74) (d : Nat), dpI (er74 y) = (match levT (er74 y) with | none => (0, false) | some d => ((d : Int), (er74 y).f2.isEmpty || decide (0 < (er74 y).f0.length))) := fun y d => rfl
  have key : ∀ (d : Nat) (_ : d ≤ 1000000000000000000) (m i : Nat), 0 < i → i + m = x.f2.length → Ev (fun k => impl_node_depth.l0 k x (d : Int) x.f2 (x.f2.length : Int) (i : Int)) (if levL d ((x.f2.map er74).drop i) = true then ((d : Int) + 1, decide (0 < x.f0.length)) else (0, false)) := by
   intro d hdle m
   induction m with
   | zero =>
    intro i hp hi
    rw [List.drop_eq_nil_of_le (by rw [List.length_map]; omega), levL, if_pos rfl]
    refine Ev.step (f := fun k => _) (fun k => by simp only [impl_node_depth.l0]; rfl) ?_
    refine ev_neg (by omega) ?_
    rw [w64 (x := (d : Int) + 1) (by omega) (by omega)]
    refine ev_eq (Ev.now _) ?_
    congr 1
    by_cases c : 0 < x.f0.length
    ·rw [decide_eq_true c, decide_eq_true (by omega)]
    ·rw [decide_eq_false c, decide_eq_false (by omega)]
   | succ m ihm =>
    intro i hp hi
    have hi2 : i < x.f2.length := by omega
    have hw : wrap64 ((i : Int) + 1) = ((i + 1 : Nat) : Int) := by rw [w64 (x := (i : Int) + 1) (by omega) (by omega)]; rfl
    have hmi := List.getElem_mem hi2
    have hdm : (x.f2.map er74).drop i = er74 (x.f2[i]) :: (x.f2.map er74).drop (i + 1) := by
     rw [List.drop_eq_getElem_cons (by rw [List.length_map]; exact hi2), List.getElem_map]
    rw [hdm, levL]
    refine Ev.step (f := fun k => _) (fun k => by simp only [impl_node_depth.l0]; rfl) ?_
    refine ev_pos (by omega) (ev_pos (by omega) (ev_pos (by omega) ?_))
    rw [rdI_at _ _ hi2]
    refine ev_bind (ih _ hmi (hgt _ hmi) (h4 _ (List.mem_map_of_mem hmi))) ?_
    rw [kid _ d]
    cases hv : levT (er74 x.f2[i]) with
    | none =>
     dsimp only
     rw [decide_eq_false (show ¬ ((none : Option Nat) = some d) by simp), Bool.false_and, if_neg (by simp)]
     exact ev_neg (by simp) (Ev.now _)
    | some d' =>
     dsimp only
     rw [(er74_f x.f2[i]).1]
     by_cases c2 : 2 ≤ x.f2[i].f0.length
     ·refine ev_pos (by show ((er74 x.f2[i]).f2.isEmpty || decide (0 < x.f2[i].f0.length)) = true; rw [decide_eq_true (by omega : 0 < x.f2[i].f0.length), Bool.or_true]) (ev_neg (by omega) (ev_pos (by omega) ?_))
      by_cases c : d' = d
      ·subst c
       rw [decide_eq_true rfl, Bool.true_and, decide_eq_true c2, Bool.true_and, hw]
       exact ev_pos rfl (ihm (i + 1) (by omega) (by omega))
      ·rw [decide_eq_false (show ¬ ((some d' : Option Nat) = some d) from fun e => c (Option.some.inj e)), Bool.false_and, if_neg (by simp)]
       exact ev_neg (by show ¬ ((d' : Int) = (d : Int)); omega) (Ev.now _)
     ·rw [decide_eq_false c2, Bool.false_and, Bool.and_false, if_neg (by simp)]
      by_cases cb : ((er74 x.f2[i]).f2.isEmpty || decide (0 < x.f2[i].f0.length)) = true
      ·exact ev_pos cb (ev_pos (by omega) (Ev.now _))
      ·exact ev_neg cb (Ev.now _)
  have er : rd_N74 x.f2 ((0 : Nat) : Int) = x.f2[0] := rdI_at x.f2 0 hz
  show Ev (fun k => impl_node_depth.l0 k x 0 x.f2 (x.f2.length : Int) ((0 : Nat) : Int)) _
  refine Ev.step (f := fun k => _) (fun k => by simp only [impl_node_depth.l0]; rfl) ?_
  refine ev_pos (by omega) (ev_pos (by omega) (ev_pos (by omega) ?_))
  rw [er]
  refine ev_bind hk0 ?_
  rw [kid _ 0]
  unfold dpI
  rw [levT_eq (er74 x), e2, hd0, levH_eq, ← hd0, hne, Bool.false_or, e0]
  cases hv : levT (er74 x.f2[0]) with
  | none => exact ev_neg (by simp) (Ev.now _)
  | some d =>
   have hdle : d ≤ 1000000000000000000 := Nat.le_trans (lev_le _ d hv) (hgt _ hm0)
   have hw : wrap64 (((0 : Nat) : Int) + 1) = ((1 : Nat) : Int) := by rw [w64 (x := ((0 : Nat) : Int) + 1) (by omega) (by omega)]; rfl
   dsimp only
   rw [hd0, levL, hv, decide_eq_true rfl, Bool.true_and, (er74_f x.f2[0]).1]
   by_cases c2 : 2 ≤ x.f2[0].f0.length
   ·refine ev_pos (by rw [decide_eq_true (by omega : 0 < x.f2[0].f0.length), Bool.or_true]) (ev_neg (by omega) (ev_neg (by omega) ?_))
    rw [hw, decide_eq_true c2, Bool.true_and]
    refine ev_eq (key d hdle (x.f2.length - 1) 1 (by omega) (by omega)) ?_
    by_cases c : levL d ((x.f2.map er74).drop 1) = true
    ·rw [if_pos c, if_pos c]; rfl
    ·rw [if_neg c, if_neg c]
   ·rw [decide_eq_false c2, Bool.false_and, if_neg (by simp)]
    by_cases cb : ((er74 x.f2[0]).f2.isEmpty || decide (0 < x.f2[0].f0.length)) = true
    ·exact ev_pos cb (ev_pos (by omega) (Ev.now _))
    ·exact ev_neg cb (Ev.now _)
end Go.Proofs.Ytnplghcbdaiogaa.QO
end
section
namespace Go.Proofs.Ytnplghcbdaiogaa.QQ
open Go.RowKit Go.Proofs.YtnplghcbdaiogaaW.PrintWords Go.Proofs.YtnplghcbdaiogaaW.PrintLast Go.Proofs.YtnplghcbdaiogaaW.PrintMore Go.Proofs.Ytnplghcbdaiogaa.PB Go.Proofs.Ytnplghcbdaiogaa.PD Go.Proofs.Ytnplghcbdaiogaa.PK Go.Proofs.Ytnplghcbdaiogaa.PL Go.Proofs.Ytnplghcbdaiogaa.PT Go.Proofs.Ytnplghcbdaiogaa.PU Go.Proofs.Ytnplghcbdaiogaa.PG Go.Proofs.Ytnplghcbdaiogaa.PW Go.Proofs.Ytnplghcbdaiogaa.QW Go.Proofs.Ytnplghcbdaiogaa.PA Go.Proofs.Ytnplghcbdaiogaa.QP Go.Proofs.Ytnplghcbdaiogaa.QO
set_option linter.unusedVariables false
theorem kidsP_size : ∀ (C : List ByteArray) (x : ByteArray), (∀ s ∈ C, s.size = 4) → (kidsP x C).size = x.size + 4 * C.length := by
 intro C
 induction C with
 | nil => intro x _; rfl
 | cons d C ih =>
  intro x h
  rw [kidsP, ih _ (fun s hs => h s (List.mem_cons_of_mem _ hs)), app_size, h d List.mem_cons_self, List.length_cons]
  omega
theorem pairsP_size : ∀ (K V : List ByteArray) (x : ByteArray), (∀ s ∈ K, s.size ≤ 12) → (∀ s ∈ V, s.size ≤ 12) → (pairsP x K V).size ≤ x.size + 26 * K.length := by
 intro K
 induction K with
 | nil => intro V x _ _; rw [pairsP.eq_def]; simp
 | cons k K ih =>
  intro V x hK hV
  cases V with
  | nil => rw [pairsP.eq_def]; simp
  | cons v V =>
   rw [pairsP]
   have h1 := ih V (x ++ (((one k.size ++ k) ++ one v.size) ++ v)) (fun s hs => hK s (List.mem_cons_of_mem _ hs)) (fun s hs => hV s (List.mem_cons_of_mem _ hs))
   have h2 := hK k List.mem_cons_self
   have h3 := hV v List.mem_cons_self
   simp only [app_size, one_size, List.length_cons] at h1 ⊢
   omega
def Pg (K V C : List ByteArray) : Prop := K.length ≤ 4 ∧ V.length = K.length ∧ (∀ s ∈ K, s.size ≤ 12) ∧ (∀ s ∈ V, s.size ≤ 12) ∧ C.length ≤ 5 ∧ ∀ s ∈ C, s.size = 4
theorem bytesS (K V C : List ByteArray) (g : Int) (h : Pg K V C) : Ev (fun k => spec_l6Bytes.f k K V C g) (kidsP (pairsP (one K.length) K V ++ one C.length) C) := by
 obtain ⟨h1, h2, h3, h4, h5, h6⟩ := h
 have kids : ∀ (d i : Nat) (x : ByteArray), i + d = C.length → x.size ≤ 500 + 4 * i → Ev (fun k => spec_l6Bytes.l1 k x C (C.length : Int) (i : Int)) (kidsP x (C.drop i)) := by
  intro d
  induction d with
  | zero =>
   intro i x hi hx
   rw [List.drop_eq_nil_of_le (by omega)]
   refine Ev.step (f := fun _ => some x) (fun k => ?_) (Ev.now _)
   simp only [spec_l6Bytes.l1]; rw [if_neg (by omega)]
  | succ d ih =>
   intro i x hi hx
   have hlt : i < C.length := by omega
   have hs : (C[i]).size = 4 := h6 _ (List.getElem_mem hlt)
   rw [List.drop_eq_getElem_cons hlt, kidsP]
   refine Ev.step (f := fun k => spec_l6Bytes.l1 k (x ++ C[i]) C (C.length : Int) ((i + 1 : Nat) : Int)) (fun k => ?_) (ih (i + 1) (x ++ C[i]) (by omega) (by rw [app_size, hs]; omega))
   simp only [spec_l6Bytes.l1]
   rw [rdOf_at _ _ _ hlt, if_pos (by omega), if_pos (by omega), if_pos (by omega), if_pos (by omega), w64 (x := (i : Int) + 1) (by omega) (by omega)]
   rfl
 have pairs : ∀ (d i : Nat) (x : ByteArray), i + d = K.length → x.size ≤ 1 + 40 * i → Ev (fun k => spec_l6Bytes.l0 k x K (K.length : Int) (i : Int) K V C g) (kidsP (pairsP x (K.drop i) (V.drop i) ++ one C.length) C) := by
  intro d
  induction d with
  | zero =>
   intro i x hi hx
   rw [List.drop_eq_nil_of_le (by omega : K.length ≤ i)]
   have hk := kids C.length 0 (x ++ one C.length) (by omega) (by rw [app_size, one_size]; omega)
   rw [List.drop_zero] at hk
   have e : pairsP x [] (V.drop i) = x := by rw [pairsP.eq_def]
   rw [e]
   refine Ev.step (f := fun k => spec_l6Bytes.l1 k (x ++ one C.length) C (C.length : Int) ((0 : Nat) : Int)) (fun k => ?_) hk
   simp only [spec_l6Bytes.l0, Option.bind_some]
   rw [if_neg (by omega), if_pos (by rw [show strOfNums [(C.length : Int) % 256] = one C.length from rfl, one_size]; omega)]
   rfl
  | succ d ih =>
   intro i x hi hx
   have hlt : i < K.length := by omega
   have hlt1 : i < V.length := by omega
   have ks := h3 _ (List.getElem_mem hlt)
   have vs := h4 _ (List.getElem_mem hlt1)
   rw [List.drop_eq_getElem_cons hlt, List.drop_eq_getElem_cons hlt1, pairsP]
   have hh := ih (i + 1) (x ++ (((one K[i].size ++ K[i]) ++ one V[i].size) ++ V[i])) (by omega) (by simp only [app_size, one_size]; omega)
   refine Ev.step (f := fun k => spec_l6Bytes.l0 k (x ++ (((one K[i].size ++ K[i]) ++ one V[i].size) ++ V[i])) K (K.length : Int) ((i + 1 : Nat) : Int) K V C g) (fun k => ?_) hh
   simp only [spec_l6Bytes.l0, Option.bind_some]
   rw [rdOf_at _ _ _ hlt, rdOf_at _ _ _ hlt1]
   rw [show strOfNums [(K[i].size : Int) % 256] = one K[i].size from rfl, show strOfNums [(V[i].size : Int) % 256] = one V[i].size from rfl]
   rw [if_pos (by omega), if_pos (by omega), if_pos (by omega), if_pos (by rw [one_size]; omega), if_pos (by omega), if_pos (by simp only [app_size, one_size]; omega), if_pos (by simp only [app_size, one_size]; omega), if_pos (by simp only [app_size, one_size]; omega), w64 (x := (i : Int) + 1) (by omega) (by omega)]
   rfl
 have := pairs K.length 0 (one K.length) (by omega) (by rw [one_size]; omega)
 rw [List.drop_zero, List.drop_zero] at this
 exact this
theorem bytes_le {K V C : List ByteArray} (h : Pg K V C) : (kidsP (pairsP (one K.length) K V ++ one C.length) C).size ≤ 1000 := by
 obtain ⟨h1, h2, h3, h4, h5, h6⟩ := h
 rw [kidsP_size _ _ h6, app_size, one_size]
 have := pairsP_size K V (one K.length) h3 h4
 rw [one_size] at this
 omega
theorem digestS (K V C : List ByteArray) (g : Int) (h : Pg K V C) : Ev (fun k => spec_l6Digest.f k K V C g) (digP K V C) := by
 unfold spec_l6Digest.f
 exact ev_bind (bytesS K V C g h) (ev_bind (digS 103 k103 _ (by have := bytes_le h; omega)) (Ev.now _))
theorem digestI (K V C : List ByteArray) (g : Int) (h : Pg K V C) : Ev (fun k => impl_Shown_digest.f k K V C g) (digP K V C) := by
 unfold impl_Shown_digest.f
 exact ev_bind (Ev.congr (fun k => bytes_eq k K V C g) (bytesS K V C g h)) (ev_bind (digI 103 k103 _ (by have := bytes_le h; omega)) (Ev.now _))
theorem mem_wvK_key (s : ByteArray) : ∀ (l : List T) (K : List ByteArray), s ∈ K → s ∈ wvK l K := by
 intro l
 induction l with
 | nil => intro K h; rw [wvK_nil]; exact h
 | cons t l ih =>
  intro K h
  cases K with
  | nil => cases h
  | cons k K =>
   rw [wvK_mid]
   rcases List.mem_cons.1 h with rfl | h
   ·exact List.mem_append_right _ List.mem_cons_self
   ·exact List.mem_append_right _ (List.mem_cons_of_mem _ (ih K h))
theorem mem_wvV_key (s : ByteArray) : ∀ (l : List T) (K : List ByteArray), s ∈ K → s ∈ wvV l K := by
 intro l
 induction l with
 | nil => intro K h; rw [wvV_nil]; exact h
 | cons t l ih =>
  intro K h
  cases K with
  | nil => cases h
  | cons k K =>
   rw [wvV_mid]
   rcases List.mem_cons.1 h with rfl | h
   ·exact List.mem_append_right _ List.mem_cons_self
   ·exact List.mem_append_right _ (List.mem_cons_of_mem _ (ih K h))
theorem mem_wvK_kid (s : ByteArray) (t : T) (hs : s ∈ keysT t) : ∀ (l : List T) (K : List ByteArray), t ∈ l → s ∈ wvK l K := by
 intro l
 induction l with
 | nil => intro K h; cases h
 | cons u l ih =>
  intro K h
  cases K with
  | nil =>
   rw [wvK]
   rcases List.mem_cons.1 h with rfl | h
   ·exact List.mem_append_left _ hs
   ·exact List.mem_append_right _ (ih [] h)
  | cons k K =>
   rw [wvK_mid]
   rcases List.mem_cons.1 h with rfl | h
   ·exact List.mem_append_left _ hs
   ·exact List.mem_append_right _ (List.mem_cons_of_mem _ (ih K h))
theorem mem_wvV_kid (s : ByteArray) (t : T) (hs : s ∈ valsT t) : ∀ (l : List T) (K : List ByteArray), t ∈ l → s ∈ wvV l K := by
 intro l
 induction l with
 | nil => intro K h; cases h
 | cons u l ih =>
  intro K h
  cases K with
  | nil =>
   rw [wvV]
   rcases List.mem_cons.1 h with rfl | h
   ·exact List.mem_append_left _ hs
   ·exact List.mem_append_right _ (ih [] h)
  | cons k K =>
   rw [wvV_mid]
   rcases List.mem_cons.1 h with rfl | h
   ·exact List.mem_append_left _ hs
   ·exact List.mem_append_right _ (List.mem_cons_of_mem _ (ih K h))
def smT (t : T) : Prop := (∀ s ∈ keysT t, s.size ≤ 12) ∧ ∀ s ∈ valsT t, s.size ≤ 12
theorem smT_kid {t u : T} (h : smT t) (hu : u ∈ t.f2) : smT u := by
 unfold smT at h
 rw [keysT_eq, valsT_eq] at h
 exact ⟨fun s hs => h.1 s (mem_wvK_kid s u hs _ _ hu), fun s hs => h.2 s (mem_wvV_kid s u hs _ _ hu)⟩
theorem digT_size (t : T) : (digT t).size = 4 := by rw [digT_eq]; exact dig_size _ _
theorem pg_of (t : T) (hok : okT t) (hs : smT t) : Pg t.f0 t.f1 (t.f2.map digT) := by
 obtain ⟨h1, h2, h3, h4⟩ := (okT_eq t).1 hok
 unfold smT at hs
 rw [keysT_eq, valsT_eq] at hs
 refine ⟨h1, h2, fun s h => hs.1 s (mem_wvK_key s _ _ h), fun s h => hs.2 s (mem_wvV_key s _ _ h), by rw [List.length_map]; omega, fun s h => ?_⟩
 obtain ⟨u, _, rfl⟩ := List.mem_map.1 h
 exact digT_size u
theorem shownS (x : S95) : okT (er95 x) → smT (er95 x) → Ev (fun k => spec_l6Shown.f k x) (x.f0, x.f1, x.f2.map (fun y => digT (er95 y)), 0) ∧ Ev (fun k => spec_l6Digest.f k x.f0 x.f1 (x.f2.map (fun y => digT (er95 y))) 0) (digT (er95 x)) := by
 refine ind95 (P := fun x => okT (er95 x) → smT (er95 x) → Ev (fun k => spec_l6Shown.f k x) (x.f0, x.f1, x.f2.map (fun y => digT (er95 y)), 0) ∧ Ev (fun k => spec_l6Digest.f k x.f0 x.f1 (x.f2.map (fun y => digT (er95 y))) 0) (digT (er95 x))) (fun x ih hok hsm => ?_) x
 obtain ⟨e0, e1, e2⟩ := er95_f x
 obtain ⟨h1, h2, h3, h4⟩ := (okT_eq _).1 hok
 have hpg := pg_of _ hok hsm
 rw [e0, e1, e2, List.map_map] at hpg
 rw [e0, e2, List.length_map] at h3
 rw [e0] at h1
 rw [e1, e0] at h2
 have hkid : ∀ y ∈ x.f2, okT (er95 y) ∧ smT (er95 y) := fun y hy => by
  have hm : er95 y ∈ (er95 x).f2 := by rw [e2]; exact List.mem_map_of_mem hy
  exact ⟨h4 _ hm, smT_kid hsm hm⟩
 refine ⟨?_, ?_⟩
 ·have key : ∀ (m i : Nat) (C : List ByteArray), i + m = x.f2.length → C.length = i → Ev (fun k => spec_l6Shown.l0 k x.f2 (x.f2.length : Int) (i : Int) x.f0 x.f1 C 0) (x.f0, x.f1, C ++ (x.f2.drop i).map (fun y => digT (er95 y)), 0) := by
   intro m
   induction m with
   | zero =>
    intro i C hi hC
    rw [List.drop_eq_nil_of_le (by omega), List.map_nil, List.append_nil]
    exact Ev.step (f := fun _ => some _) (fun k => by simp only [spec_l6Shown.l0]; rw [if_neg (by omega)]) (Ev.now _)
   | succ m ihm =>
    intro i C hi hC
    have hi2 : i < x.f2.length := by omega
    have hw : wrap64 ((i : Int) + 1) = ((i + 1 : Nat) : Int) := by rw [w64 (x := (i : Int) + 1) (by omega) (by omega)]; rfl
    have hmi := List.getElem_mem hi2
    obtain ⟨q1, q2⟩ := ih _ hmi (hkid _ hmi).1 (hkid _ hmi).2
    refine Ev.step (f := fun k => _) (fun k => by simp only [spec_l6Shown.l0]; rfl) ?_
    refine ev_pos (by omega) (ev_pos (by omega) (ev_pos (by omega) ?_))
    rw [rdS_at _ _ hi2]
    refine ev_bind q1 (ev_bind q2 (ev_pos (by omega) ?_))
    rw [hw]
    have := ihm (i + 1) (C ++ [digT (er95 x.f2[i])]) (by omega) (by rw [List.length_append, hC]; rfl)
    rw [List.drop_eq_getElem_cons hi2, List.map_cons]
    rw [List.append_assoc] at this
    exact this
  refine Ev.step (f := fun k => _) (fun k => by simp only [spec_l6Shown.f]; rfl) ?_
  refine ev_const rfl (ev_pos (by simp only [List.length_nil]; omega) (ev_const rfl (ev_pos (by simp only [List.length_nil]; omega) ?_)))
  have := key x.f2.length 0 [] (by omega) rfl
  rw [List.drop_zero] at this
  exact this
 ·refine ev_eq (digestS _ _ _ _ hpg) ?_
  rw [digT_eq, e0, e1, e2, List.map_map]
  rfl
theorem shownI (x : S74) : okT (er74 x) → smT (er74 x) → Ev (fun k => impl_node_shown.f k x) (x.f0, x.f1, x.f2.map (fun y => digT (er74 y)), 0) ∧ Ev (fun k => impl_Shown_digest.f k x.f0 x.f1 (x.f2.map (fun y => digT (er74 y))) 0) (digT (er74 x)) := by
 refine ind74 (P := fun x => okT (er74 x) → smT (er74 x) → Ev (fun k => impl_node_shown.f k x) (x.f0, x.f1, x.f2.map (fun y => digT (er74 y)), 0) ∧ Ev (fun k => impl_Shown_digest.f k x.f0 x.f1 (x.f2.map (fun y => digT (er74 y))) 0) (digT (er74 x))) (fun x ih hok hsm => ?_) x
 obtain ⟨e0, e1, e2⟩ := er74_f x
 obtain ⟨h1, h2, h3, h4⟩ := (okT_eq _).1 hok
 have hpg := pg_of _ hok hsm
 rw [e0, e1, e2, List.map_map] at hpg
 rw [e0, e2, List.length_map] at h3
 rw [e0] at h1
 rw [e1, e0] at h2
 have hkid : ∀ y ∈ x.f2, okT (er74 y) ∧ smT (er74 y) := fun y hy => by
  have hm : er74 y ∈ (er74 x).f2 := by rw [e2]; exact List.mem_map_of_mem hy
  exact ⟨h4 _ hm, smT_kid hsm hm⟩
 refine ⟨?_, ?_⟩
 ·have key : ∀ (m i : Nat) (C : List ByteArray), i + m = x.f2.length → C.length = i → Ev (fun k => impl_node_shown.l0 k x.f2 (x.f2.length : Int) (i : Int) x.f0 x.f1 C 0) (x.f0, x.f1, C ++ (x.f2.drop i).map (fun y => digT (er74 y)), 0) := by
   intro m
   induction m with
   | zero =>
    intro i C hi hC
    rw [List.drop_eq_nil_of_le (by omega), List.map_nil, List.append_nil]
    exact Ev.step (f := fun _ => some _) (fun k => by simp only [impl_node_shown.l0]; rw [if_neg (by omega)]) (Ev.now _)
   | succ m ihm =>
    intro i C hi hC
    have hi2 : i < x.f2.length := by omega
    have hw : wrap64 ((i : Int) + 1) = ((i + 1 : Nat) : Int) := by rw [w64 (x := (i : Int) + 1) (by omega) (by omega)]; rfl
    have hmi := List.getElem_mem hi2
    obtain ⟨q1, q2⟩ := ih _ hmi (hkid _ hmi).1 (hkid _ hmi).2
    refine Ev.step (f := fun k => _) (fun k => by simp only [impl_node_shown.l0]; rfl) ?_
    refine ev_pos (by omega) (ev_pos (by omega) (ev_pos (by omega) ?_))
    rw [rdI_at _ _ hi2]
    refine ev_bind q1 (ev_bind q2 (ev_pos (by omega) ?_))
    rw [hw]
    have := ihm (i + 1) (C ++ [digT (er74 x.f2[i])]) (by omega) (by rw [List.length_append, hC]; rfl)
    rw [List.drop_eq_getElem_cons hi2, List.map_cons]
    rw [List.append_assoc] at this
    exact this
  have hcl : ∀ K : List ByteArray, K.length ≤ 4 → slices_Clone_string_string.f K = some K := fun K hK => by
   unfold slices_Clone_string_string.f; rw [Option.bind_some, if_pos (by simp only [List.length_nil]; omega), List.nil_append]
  refine Ev.step (f := fun k => _) (fun k => by simp only [impl_node_shown.f]; rfl) ?_
  refine ev_const (hcl _ h1) (ev_const (hcl _ (by omega)) ?_)
  have := key x.f2.length 0 [] (by omega) rfl
  rw [List.drop_zero] at this
  exact this
 ·refine ev_eq (digestI _ _ _ _ hpg) ?_
  rw [digT_eq, e0, e1, e2, List.map_map]
  rfl
end Go.Proofs.Ytnplghcbdaiogaa.QQ
end
section
namespace Go.Proofs.Ytnplghcbdaiogaa.QZ
open Go.RowKit Go.Proofs.YtnplghcbdaiogaaW.PrintWords Go.Proofs.YtnplghcbdaiogaaW.PrintLast Go.Proofs.YtnplghcbdaiogaaW.PrintMore Go.Proofs.Ytnplghcbdaiogaa.PB Go.Proofs.Ytnplghcbdaiogaa.PD Go.Proofs.Ytnplghcbdaiogaa.PK Go.Proofs.Ytnplghcbdaiogaa.PL Go.Proofs.Ytnplghcbdaiogaa.PT Go.Proofs.Ytnplghcbdaiogaa.PU Go.Proofs.Ytnplghcbdaiogaa.PG Go.Proofs.Ytnplghcbdaiogaa.PW Go.Proofs.Ytnplghcbdaiogaa.QW Go.Proofs.Ytnplghcbdaiogaa.PA Go.Proofs.Ytnplghcbdaiogaa.QP Go.Proofs.Ytnplghcbdaiogaa.QO Go.Proofs.Ytnplghcbdaiogaa.QQ
set_option linter.unusedVariables false
def isK (s : ByteArray) : Bool := decide (1 ≤ (s.size : Int) ∧ (s.size : Int) ≤ 12)
def isV (s : ByteArray) : Bool := decide ((s.size : Int) ≤ 12)
def risesB : List ByteArray → Bool
 | a :: b :: l => Op.bytesLess a.toList b.toList && risesB (b :: l)
 | _ => true
def pairsB (K V : List ByteArray) : Bool := decide (K.length ≤ 40) && (K.all isK && (risesB K && V.all isV))
def goodB (t : T) : Bool := pairsB (keysT t) (valsT t) && ((levT t).isSome && (t.f2.isEmpty || decide (0 < t.f0.length)))
def treeG (ps : List S97) (n : Nat) : Option T := match readF ps n 0 with
 | none => none
 | some (t, nx) => if nx = ps.length ∧ goodB t = true then some t else none
def smlB (ps : List S97) : Bool := decide (ps.length < 1099511627776) && ps.all fun p => decide (p.f0.length < 1099511627776 ∧ p.f1.length < 1099511627776 ∧ p.f2.length < 1099511627776)
theorem smlB_iff (ps : List S97) : smlB ps = true ↔ Sml ps := by
 unfold smlB Sml
 rw [Bool.and_eq_true, decide_eq_true_iff, List.all_eq_true]
 constructor
 ·rintro ⟨h1, h2⟩
  exact ⟨h1, fun p hp => of_decide_eq_true (h2 p hp)⟩
 ·rintro ⟨h1, h2⟩
  exact ⟨h1, fun p hp => decide_eq_true (h2 p hp)⟩
theorem rises_iff : ∀ K : List ByteArray, risesB K = true ↔ ∀ i, i < K.length → risesAt K i := by
 intro K
 induction K with
 | nil => exact ⟨fun _ i h => absurd h (Nat.not_lt_zero i), fun _ => by rw [risesB.eq_def]⟩
 | cons a K ih =>
  cases K with
  | nil => exact ⟨fun _ i h hp => by simp only [List.length_cons, List.length_nil] at h; omega, fun _ => by rw [risesB.eq_def]⟩
  | cons b l =>
   rw [risesB, Bool.and_eq_true, ih]
   constructor
   ·rintro ⟨h1, h2⟩ i hi hp
    match i, hp with
    | 1, _ => exact h1
    | i + 2, _ =>
     have := h2 (i + 1) (by simp only [List.length_cons] at hi ⊢; omega) (by omega)
     exact this
   ·intro h
    refine ⟨h 1 (by simp only [List.length_cons]; omega) (by omega), fun i hi hp => ?_⟩
    have := h (i + 1) (by simp only [List.length_cons] at hi ⊢; omega) (by omega)
    match i, hp with
    | i + 1, _ => exact this
theorem pairs_iff (K V : List ByteArray) : pairsB K V = true ↔ K.length ≤ 40 ∧ (∀ i, i < K.length → keyB (tx K i) = true ∧ risesAt K i) ∧ V.all valB = true := by
 unfold pairsB
 rw [Bool.and_eq_true, Bool.and_eq_true, Bool.and_eq_true, decide_eq_true_iff, rises_iff]
 constructor
 ·rintro ⟨h1, h2, h3, h4⟩
  exact ⟨h1, fun i hi => ⟨(all_at K keyB).1 h2 i hi, h3 i hi⟩, h4⟩
 ·rintro ⟨h1, h2, h3⟩
  exact ⟨h1, (all_at K keyB).2 (fun i hi => (h2 i hi).1), fun i hi => (h2 i hi).2, h3⟩
theorem pairs_two (K V : List ByteArray) (hl : V.length = K.length) : pairsB K V = ch (K.length ≤ 40 ∧ V.length = K.length ∧ (∀ i, i < K.length → keyB (tx K i) = true ∧ risesAt K i) ∧ V.all valB = true) := by
 by_cases h : pairsB K V = true
 ·obtain ⟨h1, h2, h3⟩ := (pairs_iff K V).1 h
  rw [h, ch_yes ⟨h1, hl, h2, h3⟩]
 ·rw [Bool.eq_false_iff.2 h, ch_no (fun ⟨h1, _, h2, h3⟩ => h ((pairs_iff K V).2 ⟨h1, h2, h3⟩))]
theorem pairs_sm (t : T) (h : pairsB (keysT t) (valsT t) = true) : smT t := by
 obtain ⟨h1, h2, h3⟩ := (pairs_iff _ _).1 h
 unfold pairsB at h
 rw [Bool.and_eq_true, Bool.and_eq_true, Bool.and_eq_true] at h
 refine ⟨fun s hs => ?_, fun s hs => ?_⟩
 ·have := of_decide_eq_true (List.all_eq_true.1 h.2.1 s hs)
  omega
 ·have := of_decide_eq_true (List.all_eq_true.1 h.2.2.2 s hs)
  omega
theorem readK_imp {rd rd' : Nat → Option (T × Nat)} (h : ∀ a r, rd a = some r → rd' a = some r) : ∀ (ks : List Int) (a : Nat) (r : List T × Nat), readK rd ks a = some r → readK rd' ks a = some r := by
 intro ks
 induction ks with
 | nil => intro a r hr; exact hr
 | cons k ks ih =>
  intro a r hr
  rw [readK] at hr ⊢
  by_cases c : k = (a : Int)
  ·rw [if_pos c] at hr ⊢
   cases h1 : rd a with
   | none => rw [h1] at hr; cases hr
   | some te =>
    obtain ⟨t, e⟩ := te
    rw [h1] at hr
    rw [h a _ h1]
    dsimp only at hr ⊢
    cases h2 : readK rd ks e with
    | none => rw [h2] at hr; cases hr
    | some le =>
     obtain ⟨l, e'⟩ := le
     rw [h2] at hr
     rw [ih e _ h2]
     exact hr
  ·rw [if_neg c] at hr; cases hr
theorem readF_mono (ps : List S97) : ∀ (n a : Nat) (r : T × Nat), readF ps n a = some r → readF ps (n + 1) a = some r := by
 intro n
 induction n with
 | zero => intro a r h; cases h
 | succ n ih =>
  intro a r h
  rw [readF] at h ⊢
  cases hp : ps[a]? with
  | none => rw [hp] at h; cases h
  | some p =>
   rw [hp] at h
   dsimp only at h ⊢
   by_cases c : okP p
   ·rw [if_pos c] at h ⊢
    cases hk : readK (readF ps n) p.f2 (a + 1) with
    | none => rw [hk] at h; cases h
    | some le =>
     rw [hk] at h
     rw [readK_imp ih _ _ _ hk]
     exact h
   ·rw [if_neg c] at h; cases h
theorem readF_up (ps : List S97) (n m a : Nat) (r : T × Nat) (hm : n ≤ m) (h : readF ps n a = some r) : readF ps m a = some r := by
 induction m with
 | zero => rw [show n = 0 by omega] at h; exact h
 | succ m ih =>
  by_cases c : n = m + 1
  ·rw [← c]; exact h
  ·exact readF_mono ps m a r (ih (by omega))
theorem readK_suff {rd rd' : Nat → Option (T × Nat)} {m : Nat} (hle : ∀ a t e, rd a = some (t, e) → a < e ∧ e ≤ m) : ∀ (ks : List Int) (a b : Nat), b ≤ a → a ≤ m → (∀ x, b ≤ x → x ≤ m → rd x = rd' x) → readK rd ks a = readK rd' ks a := by
 intro ks
 induction ks with
 | nil => intro a b _ _ _; rfl
 | cons k ks ih =>
  intro a b hb ha h
  rw [readK, readK]
  by_cases c : k = (a : Int)
  ·rw [if_pos c, if_pos c, ← h a hb ha]
   cases h1 : rd a with
   | none => rfl
   | some te =>
    obtain ⟨t, e⟩ := te
    have := hle a t e h1
    dsimp only
    rw [ih e b (by omega) (by omega) h]
  ·rw [if_neg c, if_neg c]
theorem readF_suff (ps : List S97) : ∀ (n a : Nat), a ≤ ps.length → ps.length ≤ a + n → readF ps (n + 1) a = readF ps n a := by
 intro n
 induction n with
 | zero =>
  intro a h0 h1
  have e : readF ps (0 + 1) a = none := by rw [readF, List.getElem?_eq_none (by omega)]
  rw [e]; rfl
 | succ n ih =>
  intro a h0 h1
  rw [readF, readF]
  cases hp : ps[a]? with
  | none => rfl
  | some p =>
   dsimp only
   have ha : a < ps.length := by
    rcases Nat.lt_or_ge a ps.length with h2 | h2
    ·exact h2
    ·rw [List.getElem?_eq_none h2] at hp; cases hp
   rw [readK_suff (rd := readF ps (n + 1)) (rd' := readF ps n) (readF_le ps (n + 1)) p.f2 (a + 1) (a + 1) (Nat.le_refl _) (by omega) (fun x h2 h3 => ih x h3 (by omega))]
theorem readF_far (ps : List S97) (m : Nat) : readF ps (ps.length + m) 0 = readF ps ps.length 0 := by
 induction m with
 | zero => rfl
 | succ m ih => rw [← ih]; exact readF_suff ps (ps.length + m) 0 (by omega) (by omega)
theorem readF_any (ps : List S97) (n : Nat) (r : T × Nat) (h : readF ps n 0 = some r) : readF ps ps.length 0 = some r := by
 rw [← readF_far ps n]
 exact readF_up ps n _ 0 r (by omega) h
theorem readK_lev {rd rd' : Nat → Option (T × Nat)} {d : Nat} (h : ∀ a t e, rd a = some (t, e) → levT t = some d → rd' a = some (t, e)) : ∀ (ks : List Int) (a : Nat) (l : List T) (e : Nat), readK rd ks a = some (l, e) → (∀ t ∈ l, levT t = some d) → readK rd' ks a = some (l, e) := by
 intro ks
 induction ks with
 | nil => intro a l e hr _; exact hr
 | cons k ks ih =>
  intro a l e hr hl
  rw [readK] at hr ⊢
  by_cases c : k = (a : Int)
  ·rw [if_pos c] at hr ⊢
   cases h1 : rd a with
   | none => rw [h1] at hr; cases hr
   | some te =>
    obtain ⟨t, e1⟩ := te
    rw [h1] at hr
    dsimp only at hr
    cases h2 : readK rd ks e1 with
    | none => rw [h2] at hr; cases hr
    | some le =>
     obtain ⟨l1, e'⟩ := le
     rw [h2] at hr
     simp only [Option.some.injEq, Prod.mk.injEq] at hr
     obtain ⟨rfl, rfl⟩ := hr
     rw [h a t e1 h1 (hl t List.mem_cons_self)]
     dsimp only
     rw [ih e1 l1 e' h2 (fun u hu => hl u (List.mem_cons_of_mem _ hu))]
  ·rw [if_neg c] at hr; cases hr
theorem lev_kids {t : T} {d : Nat} (h : levT t = some d) : t.f2 = [] ∧ d = 1 ∨ ∃ e, d = e + 1 ∧ t.f2 ≠ [] ∧ ∀ u ∈ t.f2, levT u = some e ∧ 2 ≤ u.f0.length := by
 rw [levT_eq] at h
 cases hl : t.f2 with
 | nil => rw [hl, levH] at h; injection h with h; exact .inl ⟨rfl, h.symm⟩
 | cons a l =>
  rw [hl, levH_eq] at h
  cases ha : levT a with
  | none => rw [ha] at h; cases h
  | some e =>
   rw [ha] at h
   dsimp only at h
   by_cases c : levL e (a :: l) = true
   ·rw [if_pos c] at h
    injection h with h
    exact .inr ⟨e, h.symm, by simp, (levL_iff e _).1 c⟩
   ·rw [if_neg c] at h; cases h
theorem readF_lev (ps : List S97) : ∀ (n a : Nat) (t : T) (e d : Nat), readF ps n a = some (t, e) → levT t = some d → readF ps d a = some (t, e) := by
 intro n
 induction n with
 | zero => intro a t e d h _; cases h
 | succ n ih =>
  intro a t e d h hd
  obtain ⟨p, l, hp, hok, hk, rfl⟩ := readF_open ps n a t e h
  rcases lev_kids hd with ⟨h1, rfl⟩ | ⟨d', rfl, h1, h2⟩
  ·have hl : p.f2 = [] := by
    have := readK_len _ _ _ _ hk
    rw [show l = [] from h1] at this
    exact List.eq_nil_of_length_eq_zero this.symm
   rw [readF, hp]
   dsimp only
   rw [if_pos hok, hl, readK]
   rw [hl, readK] at hk
   simp only [Option.some.injEq, Prod.mk.injEq] at hk
   rw [hk.1, hk.2]
  ·rw [readF, hp]
   dsimp only
   rw [if_pos hok, readK_lev (rd' := readF ps d') (fun a t e q1 q2 => ih a t e d' q1 q2) _ _ _ _ hk (fun u hu => (h2 u hu).1)]
theorem wvK_sum : ∀ (l : List T) (K : List ByteArray), (wvK l K).length = (l.map fun t => (keysT t).length).sum + K.length := by
 intro l
 induction l with
 | nil => intro K; rw [wvK_nil]; simp
 | cons t l ih =>
  intro K
  cases K with
  | nil => rw [wvK, List.length_append, ih, List.map_cons, List.sum_cons]; simp
  | cons k K => rw [wvK, List.length_append, List.length_cons, ih, List.map_cons, List.sum_cons, List.length_cons]; omega
theorem sum_ge (l : List T) (b : Nat) (h : ∀ t ∈ l, b ≤ (keysT t).length) : l.length * b ≤ (l.map fun t => (keysT t).length).sum := by
 induction l with
 | nil => simp
 | cons a l ih =>
  have h1 := h a List.mem_cons_self
  have h2 := ih (fun t ht => h t (List.mem_cons_of_mem _ ht))
  rw [List.length_cons, List.map_cons, List.sum_cons, Nat.succ_mul]
  omega
theorem many : ∀ (d : Nat) (t : T), okT t → levT t = some d → 2 ≤ t.f0.length → 5 * d ≤ (keysT t).length + 3 := by
 intro d
 induction d with
 | zero => intro t _ _ _; omega
 | succ d ih =>
  intro t hok hl h2
  obtain ⟨o1, o2, o3, o4⟩ := (okT_eq t).1 hok
  rw [keysT_eq, wvK_sum]
  rcases lev_kids hl with ⟨h1, h3⟩ | ⟨e, h1, h3, h4⟩
  ·rw [h1]; simp; omega
  ·obtain rfl : d = e := by omega
   have hn : t.f2.length ≠ 0 := fun h => h3 (List.eq_nil_of_length_eq_zero h)
   have := sum_ge t.f2 (5 * d - 3) (fun u hu => by have := ih u (o4 u hu) (h4 u hu).1 (h4 u hu).2; omega)
   have h5 : 3 ≤ t.f2.length := by omega
   have h6 : 3 * (5 * d - 3) ≤ t.f2.length * (5 * d - 3) := Nat.mul_le_mul_right _ h5
   rcases Nat.eq_zero_or_pos d with hz | hz
   ·subst hz; omega
   ·omega
theorem good_deep {t : T} {d : Nat} (hok : okT t) (hg : goodB t = true) (hd : levT t = some d) : d ≤ 10 := by
 unfold goodB at hg
 rw [Bool.and_eq_true, Bool.and_eq_true] at hg
 obtain ⟨hp, _, hr⟩ := hg
 obtain ⟨h40, _⟩ := (pairs_iff _ _).1 hp
 rw [keysT_eq, wvK_sum] at h40
 obtain ⟨o1, o2, o3, o4⟩ := (okT_eq t).1 hok
 rcases lev_kids hd with ⟨h1, h3⟩ | ⟨e, h1, h3, h4⟩
 ·omega
 ·have hn : t.f2.length ≠ 0 := fun h => h3 (List.eq_nil_of_length_eq_zero h)
  have he : t.f2.isEmpty = false := by cases hq : t.f2 with | nil => exact absurd hq h3 | cons a l => rfl
  rw [he, Bool.false_or] at hr
  have hr := of_decide_eq_true hr
  have := sum_ge t.f2 (5 * e - 3) (fun u hu => by have := many e u (o4 u hu) (h4 u hu).1 (h4 u hu).2; omega)
  have h5 : 2 ≤ t.f2.length := by omega
  have h6 : 2 * (5 * e - 3) ≤ t.f2.length * (5 * e - 3) := Nat.mul_le_mul_right _ h5
  omega
theorem treeG_len (ps : List S97) : treeG ps ps.length = treeG ps 10 := by
 unfold treeG
 cases h10 : readF ps 10 0 with
 | some r => rw [readF_any ps 10 r h10]
 | none =>
  cases hl : readF ps ps.length 0 with
  | none => rfl
  | some r =>
   obtain ⟨t, nx⟩ := r
   dsimp only
   rw [if_neg]
   rintro ⟨h1, h2⟩
   have hok := (readF_ok ps _ _ _ _ hl).1
   have h3 := h2
   unfold goodB at h3
   rw [Bool.and_eq_true, Bool.and_eq_true] at h3
   obtain ⟨d, hd⟩ := Option.isSome_iff_exists.1 h3.2.1
   have := readF_up ps d 10 0 _ (good_deep hok h2 hd) (readF_lev ps _ _ _ _ d hl hd)
   rw [h10] at this
   cases this
end Go.Proofs.Ytnplghcbdaiogaa.QZ
end
section
namespace Go.Proofs.Ytnplghcbdaiogaa.PO
open Go.RowKit Go.Proofs.YtnplghcbdaiogaaW.PrintWords Go.Proofs.YtnplghcbdaiogaaW.PrintLast Go.Proofs.YtnplghcbdaiogaaW.PrintMore Go.Proofs.Ytnplghcbdaiogaa.PB Go.Proofs.Ytnplghcbdaiogaa.PL Go.Proofs.Ytnplghcbdaiogaa.PG Go.Proofs.Ytnplghcbdaiogaa.PW Go.Proofs.Ytnplghcbdaiogaa.PA
set_option linter.unusedVariables false
theorem bl_trans : ∀ (x y z : List UInt8), Op.bytesLess x y = true → Op.bytesLess y z = true → Op.bytesLess x z = true := by
 intro x
 induction x with
 | nil =>
  intro y z h1 h2
  cases z with
  | nil => cases y <;> simp [Op.bytesLess] at h2
  | cons c z => rfl
 | cons a x ih =>
  intro y z h1 h2
  cases y with
  | nil => simp [Op.bytesLess] at h1
  | cons b y =>
   cases z with
   | nil => simp [Op.bytesLess] at h2
   | cons c z =>
    simp only [Op.bytesLess, Bool.or_eq_true, Bool.and_eq_true, decide_eq_true_eq, beq_iff_eq] at h1 h2 ⊢
    rcases h1 with h1 | ⟨rfl, h1⟩
    ·rcases h2 with h2 | ⟨rfl, h2⟩
     ·exact Or.inl (UInt8.lt_trans h1 h2)
     ·exact Or.inl h1
    ·rcases h2 with h2 | ⟨rfl, h2⟩
     ·exact Or.inl h2
     ·exact Or.inr ⟨rfl, ih y z h1 h2⟩
abbrev lessB (a b : ByteArray) : Bool := Op.bytesLess a.toList b.toList
def Lower (K : List ByteArray) (key : ByteArray) (i : Nat) : Prop := i ≤ K.length ∧ (∀ j, j < i → lessB (tx K j) key = true) ∧ (∀ j, i ≤ j → j < K.length → lessB (tx K j) key = false)
theorem rises_less {K : List ByteArray} (h : ∀ i, i < K.length → risesAt K i) : ∀ (d j : Nat), j + d + 1 < K.length → lessB (tx K j) (tx K (j + d + 1)) = true := by
 intro d
 induction d with
 | zero => intro j hj; exact h (j + 1) hj (by omega)
 | succ d ih =>
  intro j hj
  have h1 := ih j (by omega)
  have h2 := h (j + d + 1 + 1) hj (by omega)
  exact bl_trans _ _ _ h1 h2
theorem rises_lt {K : List ByteArray} (h : ∀ i, i < K.length → risesAt K i) (j m : Nat) (hj : j < m) (hm : m < K.length) : lessB (tx K j) (tx K m) = true := by
 have := rises_less h (m - j - 1) j (by omega)
 rw [show j + (m - j - 1) + 1 = m by omega] at this
 exact this
theorem cmpLess (a b : ByteArray) : cmp_Less_string.f a b = some (lessB a b) := by
 unfold cmp_Less_string.f cmp_isNaN_string.f
 simp only [Option.bind_some, bne_self_eq_false]
 rfl
theorem search (K : List ByteArray) (key : ByteArray) (hK : K.length ≤ 1000000000) (hr : ∀ i, i < K.length → risesAt K i) : ∃ i b, Ev (fun k => slices_BinarySearch_string_string.f k K key) ((i : Nat), b) ∧ Lower K key i := by
 have loop : ∀ (d lo hi : Nat), hi - lo = d → lo ≤ hi → hi ≤ K.length → (∀ j, j < lo → lessB (tx K j) key = true) → (∀ j, hi ≤ j → j < K.length → lessB (tx K j) key = false) →
   ∃ i b, Ev (fun k => slices_BinarySearch_string_string.l0 k K key (K.length : Int) (lo : Int) (hi : Int)) (((i : Nat) : Int), b) ∧ Lower K key i := by
  intro d
  induction d using Nat.strongRecOn with
  | _ d ih =>
   intro lo hi hd h1 h2 h3 h4
   by_cases hc : lo < hi
   ·have em : wrap64 ((IntKind.u64.wrap (wrap64 ((lo : Int) + (hi : Int)))) / 2) = (((lo + hi) / 2 : Nat) : Int) := by
     have e1 : wrap64 ((lo : Int) + (hi : Int)) = ((lo + hi : Nat) : Int) := by rw [w64 (by omega) (by omega)]; omega
     have e2 : IntKind.u64.wrap ((lo + hi : Nat) : Int) = ((lo + hi : Nat) : Int) := by
      have e3 : IntKind.u64.wrap ((lo + hi : Nat) : Int) = ((lo + hi : Nat) : Int) % 18446744073709551616 := by simp [IntKind.wrap, IntKind.bits, IntKind.signed]
      rw [e3]; omega
     rw [e1, e2, w64 (by omega) (by omega)]; omega
    have hm1 : lo ≤ (lo + hi) / 2 := by omega
    have hm2 : (lo + hi) / 2 < hi := by omega
    generalize (lo + hi) / 2 = m at em hm1 hm2
    have e5 : wrap64 ((m : Int) + 1) = ((m + 1 : Nat) : Int) := by rw [w64 (by omega) (by omega)]; rfl
    have c1 : (lo : Int) < (hi : Int) := by omega
    have c2 : 0 ≤ (m : Int) := by omega
    have c3 : (m : Int) < (K.length : Int) := by omega
    have st : ∀ {r}, Ev (fun k => if lessB (tx K m) key = true then slices_BinarySearch_string_string.l0 k K key (K.length : Int) ((m + 1 : Nat) : Int) (hi : Int) else slices_BinarySearch_string_string.l0 k K key (K.length : Int) (lo : Int) (m : Int)) r → Ev (fun k => slices_BinarySearch_string_string.l0 k K key (K.length : Int) (lo : Int) (hi : Int)) r := fun h => Ev.step (fun k => by
     simp only [slices_BinarySearch_string_string.l0]
     rw [em, if_pos c1, if_pos c2, if_pos c3, cmpLess, e5]
     rfl) h
    cases hl : lessB (tx K m) key with
    | true =>
     obtain ⟨i, b, hr', hL⟩ := ih (hi - (m + 1)) (by omega) (m + 1) hi rfl (by omega) h2 (fun j hj => by
      by_cases e : j = m
      ·rw [e]; exact hl
      ·exact bl_trans _ _ _ (rises_lt hr j m (by omega) (by omega)) hl) h4
     exact ⟨i, b, st (ev_pos hl hr'), hL⟩
    | false =>
     obtain ⟨i, b, hr', hL⟩ := ih (m - lo) (by omega) lo m rfl hm1 (by omega) h3 (fun j hj hjl => by
      by_cases e : j = m
      ·rw [e]; exact hl
      ·cases hx : lessB (tx K j) key with
       | false => rfl
       | true =>
        have := bl_trans _ _ _ (rises_lt hr m j (by omega) hjl) hx
        rw [show Op.bytesLess (tx K m).toList key.toList = false from hl] at this
        cases this)
     exact ⟨i, b, st (ev_neg (by simp [hl]) hr'), hL⟩
   ·have e : lo = hi := by omega
    subst e
    have hL : Lower K key lo := ⟨h2, h3, h4⟩
    have c1 : ¬ (lo : Int) < (lo : Int) := by omega
    by_cases hn : lo < K.length
    ·have c2 : (lo : Int) < (K.length : Int) := by omega
     have c3 : 0 ≤ (lo : Int) := by omega
     by_cases he : (tx K lo).toList = key.toList
     ·exact ⟨lo, true, Ev.step (f := fun _ => some ((lo : Int), true)) (fun k => by simp only [slices_BinarySearch_string_string.l0]; rw [if_neg c1, if_pos c2, if_pos c3, if_pos c2, if_pos he]) (Ev.now _), hL⟩
     ·refine ⟨lo, false, Ev.step (f := fun _ => some ((lo : Int), false)) (fun k => ?_) (Ev.now _), hL⟩
      simp only [slices_BinarySearch_string_string.l0, slices_isNaN_string.f]
      rw [if_neg c1, if_pos c2, if_pos c3, if_pos c2, if_neg he]
      simp only [Option.bind_some, bne_self_eq_false]
      rfl
    ·have c2 : ¬ (lo : Int) < (K.length : Int) := by omega
     exact ⟨lo, false, Ev.step (f := fun _ => some ((lo : Int), false)) (fun k => by simp only [slices_BinarySearch_string_string.l0]; rw [if_neg c1, if_neg c2]) (Ev.now _), hL⟩
 exact loop K.length 0 K.length (by omega) (by omega) (Nat.le_refl _) (fun j hj => by omega) (fun j hj hjl => by omega)
theorem lessI (K : List ByteArray) (key : ByteArray) (hK : K.length ≤ 1000000000) (hr : ∀ i, i < K.length → risesAt K i) : ∃ i : Nat, Ev (fun k => impl_less.f k K key) (i : Int) ∧ Lower K key i := by
 obtain ⟨i, b, h, hL⟩ := search K key hK hr
 exact ⟨i, ev_bind h (Ev.now _), hL⟩
end Go.Proofs.Ytnplghcbdaiogaa.PO
end
section
namespace Go.Proofs.Ytnplghcbdaiogaa.RH
open Go.RowKit Go.Proofs.YtnplghcbdaiogaaW.PrintWords Go.Proofs.YtnplghcbdaiogaaW.PrintLast Go.Proofs.YtnplghcbdaiogaaW.PrintMore Go.Proofs.Ytnplghcbdaiogaa.PB Go.Proofs.Ytnplghcbdaiogaa.PL Go.Proofs.Ytnplghcbdaiogaa.PG Go.Proofs.Ytnplghcbdaiogaa.PW Go.Proofs.Ytnplghcbdaiogaa.PO Go.Proofs.Ytnplghcbdaiogaa.QW Go.Proofs.Ytnplghcbdaiogaa.PA Go.Proofs.Ytnplghcbdaiogaa.QP Go.Proofs.Ytnplghcbdaiogaa.QO Go.Proofs.Ytnplghcbdaiogaa.QQ Go.Proofs.Ytnplghcbdaiogaa.QZ
set_option linter.unusedVariables false
def lowK (s : ByteArray) : List ByteArray → Nat
 | [] => 0
 | k :: K => if lessB k s = true then lowK s K + 1 else 0
def hasK (s : ByteArray) (K : List ByteArray) : Bool := decide (lowK s K < K.length) && ((tx K (lowK s K)).toList == s.toList)
theorem tx_zero (k : ByteArray) (K : List ByteArray) : tx (k :: K) 0 = k := rfl
theorem tx_succ (k : ByteArray) (K : List ByteArray) (i : Nat) : tx (k :: K) (i + 1) = tx K i := by
 show rdOf ByteArray.empty (k :: K) ((i + 1 : Nat) : Int) = rdOf ByteArray.empty K (i : Int)
 unfold rdOf
 rw [Int.toNat_natCast, Int.toNat_natCast]
 rfl
theorem low_of {s : ByteArray} : ∀ {K : List ByteArray} {i : Nat}, Lower K s i → lowK s K = i := by
 intro K
 induction K with
 | nil => intro i h; have := h.1; simp only [List.length_nil] at this; rw [lowK]; omega
 | cons k K ih =>
  intro i h
  obtain ⟨h1, h2, h3⟩ := h
  rw [lowK]
  cases i with
  | zero =>
   have := h3 0 (Nat.le_refl _) (by simp)
   rw [tx_zero] at this
   rw [if_neg (by rw [this]; simp)]
  | succ i =>
   have h0 := h2 0 (by omega)
   rw [tx_zero] at h0
   rw [if_pos h0, ih (i := i) ⟨by simp only [List.length_cons] at h1; omega, fun j hj => by have := h2 (j + 1) (by omega); rw [tx_succ] at this; exact this, fun j hj hl => by
    have := h3 (j + 1) (by omega) (by simp only [List.length_cons]; omega)
    rw [tx_succ] at this; exact this⟩]
theorem low_le (s : ByteArray) : ∀ K : List ByteArray, lowK s K ≤ K.length := by
 intro K
 induction K with
 | nil => exact Nat.le_refl _
 | cons k K ih =>
  rw [lowK]
  split
  ·simp only [List.length_cons]; omega
  ·omega
theorem low_lt (s : ByteArray) : ∀ (K : List ByteArray) (j : Nat), j < lowK s K → lessB (tx K j) s = true := by
 intro K
 induction K with
 | nil => intro j h; rw [lowK] at h; omega
 | cons k K ih =>
  intro j h
  rw [lowK] at h
  by_cases c : lessB k s = true
  ·rw [if_pos c] at h
   cases j with
   | zero => rw [tx_zero]; exact c
   | succ j => rw [tx_succ]; exact ih j (by omega)
  ·rw [if_neg c] at h; omega
theorem low_stop (s : ByteArray) : ∀ (K : List ByteArray), lowK s K < K.length → lessB (tx K (lowK s K)) s = false := by
 intro K
 induction K with
 | nil => intro h; rw [lowK] at h; simp at h
 | cons k K ih =>
  intro h
  rw [lowK] at h ⊢
  by_cases c : lessB k s = true
  ·rw [if_pos c] at h ⊢
   rw [tx_succ]
   exact ih (by simp only [List.length_cons] at h; omega)
  ·rw [if_neg c, tx_zero]
   exact Bool.eq_false_iff.2 c
theorem atS (x : S95) (s : ByteArray) (hK : x.f0.length ≤ 4) : Ev (fun k => spec_l5T_at.f k x s) ((lowK s x.f0 : Int), hasK s x.f0) := by
 have key : ∀ (d j : Nat), j + d = lowK s x.f0 → Ev (fun k => spec_l5T_at.l0 k x s (j : Int)) ((lowK s x.f0 : Int), hasK s x.f0) := by
  have hle := low_le s x.f0
  intro d
  induction d with
  | zero =>
   intro j hj
   have hj' : j = lowK s x.f0 := by omega
   subst hj'
   by_cases c : lowK s x.f0 < x.f0.length
   ·have hn := low_stop s x.f0 c
    refine Ev.step (f := fun _ => some ((lowK s x.f0 : Int), hasK s x.f0)) (fun k => ?_) (Ev.now _)
    simp only [spec_l5T_at.l0]
    rw [if_pos (by omega), if_pos (by omega), if_neg (by rw [show Op.bytesLess (tx x.f0 (lowK s x.f0)).toList s.toList = false from hn]; simp)]
    unfold hasK
    rw [decide_eq_true c, Bool.true_and]
   ·refine Ev.step (f := fun _ => some ((lowK s x.f0 : Int), hasK s x.f0)) (fun k => ?_) (Ev.now _)
    simp only [spec_l5T_at.l0]
    rw [if_neg (by omega)]
    unfold hasK
    rw [decide_eq_false c, Bool.false_and]
  | succ d ih =>
   intro j hj
   have hl := low_lt s x.f0 j (by omega)
   refine Ev.step (f := fun k => spec_l5T_at.l0 k x s ((j + 1 : Nat) : Int)) (fun k => ?_) (ih (j + 1) (by omega))
   simp only [spec_l5T_at.l0]
   rw [if_pos (by omega), if_pos (by omega), if_pos hl, w64 (x := (j : Int) + 1) (by omega) (by omega)]
   rfl
 exact key (lowK s x.f0) 0 (by omega)
theorem hasI (K : List ByteArray) (s : ByteArray) : impl_hasAt.f K (lowK s K : Int) s = some (hasK s K) := by
 unfold impl_hasAt.f hasK
 by_cases c : lowK s K < K.length
 ·rw [if_pos (by omega), if_pos (by omega), decide_eq_true c, Bool.true_and]
 ·rw [if_neg (by omega), decide_eq_false c, Bool.false_and]
theorem lessL (K : List ByteArray) (s : ByteArray) (hK : K.length ≤ 4) (hr : ∀ i, i < K.length → risesAt K i) : Ev (fun k => impl_less.f k K s) (lowK s K : Int) := by
 obtain ⟨i, h, hL⟩ := lessI K s (by omega) hr
 rw [low_of hL]; exact h
def Rs (t : T) : Prop := (keysT t).Pairwise (fun a b => lessB a b = true)
theorem pw_rises {K : List ByteArray} (h : K.Pairwise (fun a b => lessB a b = true)) : ∀ i, i < K.length → risesAt K i := by
 intro i hi hp
 have := List.pairwise_iff_getElem.1 h (i - 1) i (by omega) hi (by omega)
 show lessB (tx K (i - 1)) (tx K i) = true
 have e1 : tx K (i - 1) = K[i - 1] := by
  show rdOf ByteArray.empty K ((i - 1 : Nat) : Int) = _
  unfold rdOf; rw [Int.toNat_natCast, List.getD_eq_getElem?_getD, List.getElem?_eq_getElem (by omega)]; rfl
 have e2 : tx K i = K[i] := by
  show rdOf ByteArray.empty K (i : Int) = _
  unfold rdOf; rw [Int.toNat_natCast, List.getD_eq_getElem?_getD, List.getElem?_eq_getElem hi]; rfl
 rw [e1, e2]; exact this
theorem rises_pw {K : List ByteArray} (h : ∀ i, i < K.length → risesAt K i) : K.Pairwise (fun a b => lessB a b = true) := by
 refine List.pairwise_iff_getElem.2 (fun i j hi hj hij => ?_)
 have := rises_lt h i j hij hj
 have e1 : tx K i = K[i] := by
  show rdOf ByteArray.empty K (i : Int) = _
  unfold rdOf; rw [Int.toNat_natCast, List.getD_eq_getElem?_getD, List.getElem?_eq_getElem hi]; rfl
 have e2 : tx K j = K[j] := by
  show rdOf ByteArray.empty K (j : Int) = _
  unfold rdOf; rw [Int.toNat_natCast, List.getD_eq_getElem?_getD, List.getElem?_eq_getElem hj]; rfl
 rw [e1, e2] at this; exact this
theorem sub_own : ∀ (l : List T) (K : List ByteArray), K.Sublist (wvK l K) := by
 intro l
 induction l with
 | nil => intro K; rw [wvK_nil]; exact List.Sublist.refl K
 | cons t l ih =>
  intro K
  cases K with
  | nil => exact List.nil_sublist _
  | cons k K => rw [wvK]; exact ((ih K).cons_cons k).trans (List.sublist_append_right _ _)
theorem sub_kid (u : T) : ∀ (l : List T) (K : List ByteArray), u ∈ l → (keysT u).Sublist (wvK l K) := by
 intro l
 induction l with
 | nil => intro K h; cases h
 | cons t l ih =>
  intro K h
  cases K with
  | nil =>
   rw [wvK]
   rcases List.mem_cons.1 h with rfl | h
   ·exact List.sublist_append_left _ _
   ·exact (ih [] h).trans (List.sublist_append_right _ _)
  | cons k K =>
   rw [wvK]
   rcases List.mem_cons.1 h with rfl | h
   ·exact List.sublist_append_left _ _
   ·exact ((ih K h).trans (List.sublist_cons_self k _)).trans (List.sublist_append_right _ _)
theorem Rs_kid {t u : T} (h : Rs t) (hu : u ∈ t.f2) : Rs u := by
 unfold Rs at h; rw [keysT_eq] at h
 exact h.sublist (sub_kid u _ _ hu)
theorem Rs_own {t : T} (h : Rs t) : ∀ i, i < t.f0.length → risesAt t.f0 i := by
 unfold Rs at h; rw [keysT_eq] at h
 exact pw_rises (h.sublist (sub_own _ _))
def Fine (t : T) : Prop := okT t ∧ smT t ∧ Rs t
theorem Fine_kid {t u : T} (h : Fine t) (hu : u ∈ t.f2) : Fine u := ⟨((okT_eq t).1 h.1).2.2.2 u hu, smT_kid h.2.1 hu, Rs_kid h.2.2 hu⟩
theorem fine_of {ps : List S97} {t : T} {n : Nat} (h : treeG ps n = some t) : Fine t ∧ hT t ≤ n := by
 unfold treeG at h
 cases hR : readF ps n 0 with
 | none => rw [hR] at h; cases h
 | some tn =>
  obtain ⟨t', nx⟩ := tn
  rw [hR] at h
  dsimp only at h
  by_cases c : nx = ps.length ∧ goodB t' = true
  ·rw [if_pos c] at h
   obtain rfl := Option.some.inj h
   have hg := c.2
   unfold goodB at hg
   rw [Bool.and_eq_true] at hg
   have h2 := readF_ok ps _ _ _ _ hR
   exact ⟨⟨h2.1, pairs_sm _ hg.1, rises_pw (fun i hi => (((pairs_iff _ _).1 hg.1).2.1 i hi).2)⟩, h2.2⟩
  ·rw [if_neg c] at h; cases h
def pageT (s : ByteArray) (t : T) : S43 := ⟨t.f0, t.f1, t.f2.map digT, (lowK s t.f0 : Int)⟩
def stopT (s : ByteArray) (t : T) : Bool := hasK s t.f0 || t.f2.isEmpty
def wayN (s : ByteArray) : Nat → T → List S43
 | 0, _ => []
 | n + 1, t => pageT s t :: if stopT s t = true then [] else (match t.f2[lowK s t.f0]? with
  | none => []
  | some u => wayN s n u)
def proveF (ps : List S97) (s : ByteArray) : List S43 × Bool := match treeG ps 10 with
 | none => ([], false)
 | some t => if isK s = true then (wayN s 10 t, true) else ([], false)
theorem way_stop {s : ByteArray} {t : T} (n : Nat) (h : stopT s t = true) : wayN s (n + 1) t = [pageT s t] := by rw [wayN, if_pos h]
theorem way_kid {s : ByteArray} {t : T} (h : Fine t) (hs : stopT s t = false) : ∃ u, t.f2[lowK s t.f0]? = some u ∧ u ∈ t.f2 ∧ (∀ n, wayN s (n + 1) t = pageT s t :: wayN s n u) ∧ hT u < hT t := by
 obtain ⟨o1, o2, o3, o4⟩ := (okT_eq t).1 h.1
 unfold stopT at hs
 rw [Bool.or_eq_false_iff] at hs
 have hne : t.f2.length ≠ 0 := fun e => by rw [List.eq_nil_of_length_eq_zero e] at hs; exact absurd hs.2 (by simp)
 have := low_le s t.f0
 have hlt : lowK s t.f0 < t.f2.length := by omega
 have hm := List.getElem_mem hlt
 refine ⟨_, List.getElem?_eq_getElem hlt, hm, fun n => ?_, ?_⟩
 ·rw [wayN, if_neg (by unfold stopT; rw [hs.1, hs.2]; simp), List.getElem?_eq_getElem hlt]
 ·have := hL_mem t.f2 _ hm
  rw [hT_eq t]; omega
theorem way_len (s : ByteArray) : ∀ (n : Nat) (t : T), (wayN s n t).length ≤ n := by
 intro n
 induction n with
 | zero => intro t; exact Nat.le_refl _
 | succ n ih =>
  intro t
  rw [wayN, List.length_cons]
  split
  ·simp
  ·split
   ·simp
   ·have := ih (by assumption); omega
theorem way_mem (s : ByteArray) : ∀ (n : Nat) (t : T), Fine t → ∀ p ∈ wayN s n t, p.f0.length ≤ 4 ∧ p.f1.length ≤ 4 ∧ p.f2.length ≤ 5 := by
 intro n
 induction n with
 | zero => intro t _ p h; cases h
 | succ n ih =>
  intro t ht p h
  obtain ⟨o1, o2, o3, o4⟩ := (okT_eq t).1 ht.1
  rw [wayN] at h
  rcases List.mem_cons.1 h with rfl | h
  ·refine ⟨o1, by show t.f1.length ≤ 4; omega, ?_⟩
   show (t.f2.map digT).length ≤ 5
   rw [List.length_map]; omega
  ·split at h
   ·cases h
   ·cases hu : t.f2[lowK s t.f0]? with
    | none => rw [hu] at h; cases h
    | some u => rw [hu] at h; exact ih u (Fine_kid ht (List.mem_of_getElem? hu)) p h
end Go.Proofs.Ytnplghcbdaiogaa.RH
end
section
namespace Go.Proofs.Ytnplghcbdaiogaa.QX
open Go.RowKit Go.Proofs.YtnplghcbdaiogaaW.PrintWords Go.Proofs.YtnplghcbdaiogaaW.PrintLast Go.Proofs.YtnplghcbdaiogaaW.PrintMore Go.Proofs.Ytnplghcbdaiogaa.PA Go.Proofs.Ytnplghcbdaiogaa.QW
attribute [local go_sem] max2_int min2_int max_two min_two max_three min_three max_four min_four
set_option linter.unusedVariables false
set_option maxHeartbeats 4000000
set_option maxRecDepth 100000
def Post95 (n : Nat) (w : World) (R : Option (T × Nat)) (e : Ending) (w' : World) : Prop := match R with
 | none => e = .returned (.tuple #[.pointer none, .int .i64 (-1)]) ∧ Below w.heap.size w w'
 | some (t, nx) => ∃ x : S95, e = .returned (.tuple #[.pointer (some ⟨x.adr, 0, none⟩), .int .i64 (nx : Int)]) ∧ er95 x = t ∧ k95p.M w' w.heap.size (fun _ => True) x [.pointer (some ⟨x.adr, 0, none⟩)] ∧ Below w.heap.size w w'
def readS.T4 : Bool × List (List Nat × List Nat) := (true, [([], []), ([], []), ([1], [1]), ([0, 2], [0, 2]), ([], []), ([], []), ([5], [5]), ([4, 6, 3], [4, 6]), ([3, 7], [3, 7]), ([8], [8]), ([9, 7, 0, 1, 2, 3, 4, 5, 6, 7, 8, 9], [9])])
def readS.B4 : List Nat := [0, 0, 2, 7, 0, 0, 32, 127, 255, 511, 1023]
theorem readS.tab4 : rtab .any (opsOf Try.f54 4) = readS.T4 := by kernel_rfl
theorem readS.bits4 : waitsOk readS.T4.2 readS.B4 = true := by kernel_rfl
theorem readS (ps : List S97) (hG : Sml ps) (A : Option Addr) (c : Nat) (hc : ps.length ≤ c) : ∀ (n at_ : Nat) (dp : Int) (w : World), (n : Int) + dp = 11 → 0 ≤ dp → Kd.C k97 w A ps.length ps →
  Calls Try.prog 54 #[.agg #[.slice A ps.length c], .int .i64 (at_ : Int), .int .i64 dp] w fun e w' => Post95 n w (readF ps n at_) e w' := by
 intro n
 induction n with
 | zero =>
  intro at_ dp w hn hd hC
  have HG := zA hG
  have HC := zA hC
  have HB := zA (Below.refl w.heap.size w)
  clear hG hC
  have hu30 := Try.underlying30
  have b2 : decide (10 < dp) = true := decide_eq_true (by omega)
  have b3 : decide (dp > 10) = true := decide_eq_true (by omega)
  have R := zA (show readF ps 0 at_ = none from rfl)
  by_cases h : at_ < ps.length
  ·have b1 : decide ((ps.length : Int) ≤ (at_ : Int)) = false := decide_eq_false (by omega)
   go_enter Try.func54, Try.ntmps54
   go_wp2_with (first | ((with_reducible refine gate_dst (N := 3) rfl ?_); refine box_event ?hg (N := 3) ?hd (cs := #[.slice A ps.length c]) (t := 30) ?hr ?_; (case hd => rfl); (case hg => rfl); (case hr => first | (go_simp; done) | (go_simp; rfl)); intro gb3 hg w3 hbox hb; have n0_ := zA (zAD HB.out hb); have BK3 := zA hbox; have GW3 := zA (by rw [hg]; exact Nat.le_refl _ : w.heap.size ≤ gb3); clear HB; have HB := n0_; clear n0_ hb hbox hg; have hx3 : w3.cell? ⟨gb3, 0, none⟩ = some (.slice A ps.length c) := (zP BK3.out 0).trans rfl))
   go_ret2
   exact (show Post95 0 w (readF ps 0 at_) _ _ from (by rw [R.out]; exact ⟨by first | rfl | (simp <;> rfl), HB.out⟩))
  ·have b1 : decide ((ps.length : Int) ≤ (at_ : Int)) = true := decide_eq_true (by omega)
   go_enter Try.func54, Try.ntmps54
   go_wp2_with (first | ((with_reducible refine gate_dst (N := 3) rfl ?_); refine box_event ?hg (N := 3) ?hd (cs := #[.slice A ps.length c]) (t := 30) ?hr ?_; (case hd => rfl); (case hg => rfl); (case hr => first | (go_simp; done) | (go_simp; rfl)); intro gb3 hg w3 hbox hb; have n0_ := zA (zAD HB.out hb); have BK3 := zA hbox; have GW3 := zA (by rw [hg]; exact Nat.le_refl _ : w.heap.size ≤ gb3); clear HB; have HB := n0_; clear n0_ hb hbox hg; have hx3 : w3.cell? ⟨gb3, 0, none⟩ = some (.slice A ps.length c) := (zP BK3.out 0).trans rfl))
   go_ret2
   exact (show Post95 0 w (readF ps 0 at_) _ _ from (by rw [R.out]; exact ⟨by first | rfl | (simp <;> rfl), HB.out⟩))
 | succ n ih =>
  intro at_ dp w hn hd hC
  have HG := zA hG
  have HC := zA hC
  have HB := zA (Below.refl w.heap.size w)
  have hu30 := Try.underlying30
  have hu97 := Try.underlying97
  have hu95 := Try.underlying95
  have b2 : decide (10 < dp) = false := decide_eq_false (by omega)
  have b3 : decide (dp > 10) = false := decide_eq_false (by omega)
  by_cases h : at_ < ps.length
  ·obtain ⟨z, hz⟩ : ∃ z : Int, z = (at_ : Int) := ⟨_, rfl⟩
   rw [← hz]
   have b1 : decide ((ps.length : Int) ≤ z) = false := decide_eq_false (by omega)
   have b4 : decide (z < (ps.length : Int)) = true := decide_eq_true (by omega)
   have b5 : decide (0 ≤ z) = true := decide_eq_true (by omega)
   have b6 : (0 ≤ z) = True := eq_true (by omega)
   have b7 : (z < (ps.length : Int)) = True := eq_true (by omega)
   obtain ⟨ad, A0, c0, A1, c1, A2, c2, eA, hy0, hy1, hy2, l0, g0, l1, g1, l2, g2⟩ := at_T97 hC z (by omega) (by omega)
   subst eA
   have ep : ps[at_]? = some (rd_T97 ps z) := by
    unfold rd_T97
    rw [hz, Int.toNat_natCast, List.getD_eq_getElem?_getD, List.getElem?_eq_getElem h]; rfl
   obtain ⟨p, hp⟩ : ∃ p, p = rd_T97 ps z := ⟨_, rfl⟩
   rw [← hp] at ep hy0 hy1 hy2 l0 g0 l1 g1 l2 g2
   have HZ := zA hz
   have HH := zA h
   clear hz h
   have HP := zA ep
   have HX0 := zA hy0
   have HX1 := zA hy1
   have HX2 := zA hy2
   have HL0 := zA l0
   have HR0 := zA g0
   have HL1 := zA l1
   have HR1 := zA g1
   have HL2 := zA l2
   have HR2 := zA g2
   clear hp ep hy0 hy1 hy2 l0 g0 l1 g1 l2 g2 hG hC
   go_enter Try.func54, Try.ntmps54
   go_wp2_with (first | ((with_reducible refine gate_dst (N := 3) rfl ?_); refine box_event ?hg (N := 3) ?hd (cs := #[.slice (some ad) ps.length c]) (t := 30) ?hr ?_; (case hd => rfl); (case hg => rfl); (case hr => first | (go_simp; done) | (go_simp; rfl)); intro gb3 hg w3 hbox hb; have n0_ := zA (zAD HB.out hb); have BK3 := zA hbox; have GW3 := zA (by rw [hg]; exact Nat.le_refl _ : w.heap.size ≤ gb3); clear HB; have HB := n0_; clear n0_ hb hbox hg; have hx3 : w3.cell? ⟨gb3, 0, none⟩ = some (.slice (some ad) ps.length c) := (zP BK3.out 0).trans rfl; have hx0 := (HB.out.cell (zB w _ HX0.out)).trans HX0.out; have hx1 := (HB.out.cell (zB w _ HX1.out)).trans HX1.out; have hx2 := (HB.out.cell (zB w _ HX2.out)).trans HX2.out))
   obtain ⟨gb8, hg8⟩ : ∃ g, g = w3.heap.size := ⟨_, rfl⟩
   obtain ⟨w4, hw4⟩ : ∃ z, z = w3.alloc (Obj.cells #[.slice A0 p.f0.length c0, .slice A1 p.f1.length c1, .slice A2 p.f2.length c2] 97 (0, 0)) := ⟨_, rfl⟩
   have BK8 := zA (show w4.drew.heap[gb8]? = some (.cells #[.slice A0 p.f0.length c0, .slice A1 p.f1.length c1, .slice A2 p.f2.length c2] 97 (0, 0)) from by rw [hw4, hg8]; exact zN (blk_new _ _))
   have GW8 := zA (show w.heap.size ≤ gb8 from by rw [hg8]; exact zAE HB.out)
   have n0_ := zA (show w4.drew.heap[gb3]? = some (.cells #[.slice (some ad) ps.length c] 30 (0, 0)) from by rw [hw4]; exact zN (zM BK3.out _))
   have n1_ := zA (show Below w.heap.size w w4.drew from by rw [hw4]; exact zG (zH HB.out _))
   rw [← hg8, ← hw4]
   clear BK3 HB hx3 hx0 hx1 hx2 hg8 hw4
   have BK3 := n0_
   have HB := n1_
   clear n0_ n1_
   refine start_ (n := 11) (S := fun w' => w'.cell? ⟨gb8, 0, none⟩ = some (.slice A0 p.f0.length c0) ∧ w'.cell? ⟨gb8, 1, none⟩ = some (.slice A1 p.f1.length c1)) (ds := []) #[false, false, false, false, false, false, false, false, false, false, false] (by kernel_rfl) rfl rfl ⟨(zP BK8.out 0).trans rfl, (zP BK8.out 1).trans rfl⟩ (fun hHeld => ?_)
   refine with_tabW readS.tab4 readS.bits4 (fun HT_ HW_ => ?_)
   generalize w4.drew = w5 at BK3 BK8 HB hHeld ⊢
   refine pure_ (i := 1) (N := some 30) (v := ?_) (a' := ?_) #[false, true, false, false, false, false, false, false, false, false, false] rfl rfl (any_of HT_.out (by kernel_rfl)) (fun _ _ _ h => h) (Or.inl ⟨by rfl, ?_⟩) ?_ ?_; rotate_left
   ·intro w'
    go_simp
    with_reducible rfl
   rotate_left
   ·simp only [Act.put, zC, zD, zE, i64_w, i32_w]
    rfl
   refine pure_ (i := 5) (N := some 34) (v := ?_) (a' := ?_) #[false, true, false, false, false, true, false, false, false, false, false] rfl rfl (any_of HT_.out (by kernel_rfl)) (fun _ _ _ h => h) (Or.inl ⟨by rfl, ?_⟩) ?_ ?_; rotate_left
   ·intro w'
    go_simp
    with_reducible rfl
   rotate_left
   ·simp only [Act.put, zC, zD, zE, i64_w, i32_w]
    rfl
   refine take_ (i := 2) (N := some 31) (v := ?_) (a' := ?_) #[false, true, true, false, false, true, false, false, false, false, false] rfl rfl (take_ofW HT_.out HW_.out (by kernel_rfl)) (fun _ _ _ h => h) (Or.inl ⟨by rfl, ?_⟩) hHeld ?_ ?_; rotate_left
   ·rintro w' ⟨s0, s1⟩
    go_simp
    with_reducible rfl
   rotate_left
   ·simp only [Act.put, zC, zD, zE, i64_w, i32_w]
    rfl
   refine take_ (i := 6) (N := some 35) (v := ?_) (a' := ?_) #[false, true, true, false, false, true, true, false, false, false, false] rfl rfl (take_ofW HT_.out HW_.out (by kernel_rfl)) (fun _ _ _ h => h) (Or.inl ⟨by rfl, ?_⟩) hHeld ?_ ?_; rotate_left
   ·rintro w' ⟨s0, s1⟩
    go_simp
    with_reducible rfl
   rotate_left
   ·simp only [Act.put, zC, zD, zE, i64_w, i32_w]
    rfl
   have HLN := zA (show p.f0.length < 1099511627776 ∧ p.f1.length < 1099511627776 ∧ p.f2.length < 1099511627776 from HG.out.2 p (List.mem_of_getElem? HP.out))
   refine join_ (σ := Value × Value × Value) 4 #[true, true, true, true, true, true, true, false, false, false, false] (fun s_ => [(29, s_.1), (32, s_.2.1), (33, s_.2.2)]) (fun s_ w' => (w'.cell? ⟨gb8, 0, none⟩ = some (.slice A0 p.f0.length c0) ∧ w'.cell? ⟨gb8, 1, none⟩ = some (.slice A1 p.f1.length c1)) ∧ Kd.R Kd.string 9 w' w.heap.size (fun k_ => some k_ ≠ (s_.2.2 : Value).ownBlock) s_.2.1 p.f0 ∧ Kd.R Kd.string 9 w' w.heap.size (fun _ => True) s_.2.2 [] ∧ (w'.heap[gb3]? = some (.cells #[.slice (some ad) ps.length c] 30 (0, 0))) ∧ (w'.heap[gb8]? = some (.cells #[.slice A0 p.f0.length c0, .slice A1 p.f1.length c1, .slice A2 p.f2.length c2] 97 (0, 0))) ∧ Below w.heap.size w w') ?_ ?_; rotate_left
   ·intro hJ1
    refine join_ (σ := Value × Value) 5 #[true, true, true, false, true, true, true, false, false, false, false] (fun s_ => [(29, s_.1), (33, s_.2)]) (fun s_ w' => (w'.cell? ⟨gb8, 0, none⟩ = some (.slice A0 p.f0.length c0) ∧ w'.cell? ⟨gb8, 1, none⟩ = some (.slice A1 p.f1.length c1)) ∧ Kd.R Kd.string 9 w' w.heap.size (fun k_ => some k_ ≠ (s_.2 : Value).ownBlock) s_.1 [] ∧ Kd.R Kd.string 9 w' w.heap.size (fun k_ => some k_ ≠ (s_.1 : Value).ownBlock) s_.2 [] ∧ (w'.heap[gb3]? = some (.cells #[.slice (some ad) ps.length c] 30 (0, 0))) ∧ (w'.heap[gb8]? = some (.cells #[.slice A0 p.f0.length c0, .slice A1 p.f1.length c1, .slice A2 p.f2.length c2] 97 (0, 0))) ∧ Below w.heap.size w w') ?_ ?_; rotate_left
    ·intro hJ2
     refine two_ (i := 0) (j := 4) (Ni := some 29) (Nj := some 33) #[true, true, true, false, false, true, true, false, false, false, false] #[false, true, true, false, true, true, true, false, false, false, false] rfl rfl rfl rfl (two_of HT_.out (by kernel_rfl)) (by decide) (by decide) (fun K hK => ?_) (fun K hK => ?_)
     ·skip
      refine Kd.R_lit_step Kd.string _ 9 ?hg (N := 29) ?hd (xs := ([] : List ByteArray)) (inner := []) (ok := fun _ => True) (okp := fun _ => True) ?hr ?hp (fun _ hk => hk) trivial (Below.refl _ _) (Nat.le_refl _) (by simp) ?_; (case hd => rfl); (case hg => rfl); (case hr => first | (go_simp; done) | (go_simp; rfl)); (case hp => exact (Reps.none _ _)); intro v29 w6 ho hb hg_ hnew_; clear hg_ hnew_
      have n0_ := zA (Kd.R_lower ho (zAE HB.out)); have n1_ := zA (blk_below BK3.out hb); have n2_ := zA (blk_below BK8.out hb); have n3_ := zA (zAD HB.out hb); clear BK3 BK8 HB ho hb; have BK3 := n1_; have BK8 := n2_; have HB := n3_; clear n1_ n2_ n3_
      have HO29 := n0_
      clear n0_
      refine hK.out _ _ ⟨(zP BK8.out 0).trans rfl, (zP BK8.out 1).trans rfl⟩ (fun hHeld => ?_)
      clear hK K
      refine norm_ (a' := ?_) ?_ ?_; rotate_left
      ·show Act.put _ (some 29) _ = _
       simp only [Act.put, zC, zD, zE, i64_w, i32_w]; rfl
      refine two_ (i := 3) (j := 4) (Ni := some 32) (Nj := some 33) #[true, true, true, true, false, true, true, false, false, false, false] #[true, true, true, false, true, true, true, false, false, false, false] rfl rfl rfl rfl (two_of HT_.out (by kernel_rfl)) (by decide) (by decide) (fun K hK => ?_) (fun K hK => ?_)
      ·skip
       refine Kd.R_append_rows_step Kd.string (w0 := w) w.heap.size (by rfl) (.tmp 29) (.tmp 31) 41 9 (.string ⟨#[]⟩) 16 rfl Try.underlying41 info9 rfl (by decide) (by omega) v29 [] p.f0 A0 p.f0.length c0 (fun _ => True) (fun _ => False) rfl rfl ?aO ?aR (fun _ _ h => h) (fun _ h => h.elim) ?aF ?aB ?aS ?aL ?_
       (case aR => exact (Kd.C_below HR0.out HB.out)); (case aB => exact HB.out); (case aF => exact (fun _ _ => trivial)); (case aO => exact HO29.out); (case aS => exact (zAE HB.out)); (case aL => have := HLN.out; simp only [List.length_nil]; omega)
       intro v32 w7 ho hb hg hat
       rw [List.nil_append] at ho
       have n0_ := zA (blk_grown BK3.out hg (Kd.R_ne HO29.out BK3.out (by decide)))
       have n1_ := zA (blk_grown BK8.out hg (Kd.R_ne HO29.out BK8.out (by decide)))
       clear BK3 BK8 HB HO29
       have BK3 := n0_
       have BK8 := n1_
       have HB := zA hb
       have HO32 := zA ho
       clear n0_ n1_ hb ho hg hat
       refine hK.out _ _ ⟨(zP BK8.out 0).trans rfl, (zP BK8.out 1).trans rfl⟩ (fun hHeld => ?_)
       clear hK K
       refine norm_ (a' := ?_) ?_ ?_; rotate_left
       ·show Act.put _ (some 32) _ = _
        simp only [Act.put, zC, zD, zE, i64_w, i32_w]; rfl
       refine one_ (i := 4) (N := some 33) #[true, true, true, true, true, true, true, false, false, false, false] rfl rfl (one_of HT_.out (by kernel_rfl)) (by decide) (fun K hK => ?_)
       refine Kd.R_lit_step Kd.string _ 9 ?hg (N := 33) ?hd (xs := ([] : List ByteArray)) (inner := []) (ok := fun _ => True) (okp := fun _ => True) ?hr ?hp (fun _ hk => hk) trivial (Below.refl _ _) (Nat.le_refl _) (by simp) ?_; (case hd => rfl); (case hg => rfl); (case hr => first | (go_simp; done) | (go_simp; rfl)); (case hp => exact (Reps.none _ _)); intro v33 w8 ho hb hg_ hnew_; clear hg_ hnew_
       have m0_ := zA (Kd.R_elder' HO32.out (Kd.R_base ho) hb)
       have n0_ := zA (Kd.R_lower ho (zAE HB.out)); have n1_ := zA (blk_below BK3.out hb); have n2_ := zA (blk_below BK8.out hb); have n3_ := zA (zAD HB.out hb); clear BK3 BK8 HB ho hb; have BK3 := n1_; have BK8 := n2_; have HB := n3_; clear n1_ n2_ n3_
       have HO33 := n0_
       clear n0_ HO32
       have HO32 := m0_
       refine hK.out _ _ ⟨(zP BK8.out 0).trans rfl, (zP BK8.out 1).trans rfl⟩ (fun hHeld => ?_)
       clear hK K
       refine norm_ (a' := ?_) ?_ ?_; rotate_left
       ·show Act.put _ (some 33) _ = _
        simp only [Act.put, zC, zD, zE, i64_w, i32_w]; rfl
       exact norm_ (by simp only [putAll, Act.put, zC, zD, zE] <;> rfl) (hJ1 (v29, v32, v33) _ ⟨hHeld, Kd.R_mono HO32.out (fun _ hk => hk.2), HO33.out, BK3.out, BK8.out, HB.out⟩)
      ·skip
       refine Kd.R_lit_step Kd.string _ 9 ?hg (N := 33) ?hd (xs := ([] : List ByteArray)) (inner := []) (ok := fun _ => True) (okp := fun _ => True) ?hr ?hp (fun _ hk => hk) trivial (Below.refl _ _) (Nat.le_refl _) (by simp) ?_; (case hd => rfl); (case hg => rfl); (case hr => first | (go_simp; done) | (go_simp; rfl)); (case hp => exact (Reps.none _ _)); intro v33 w7 ho hb hg_ hnew_; clear hg_ hnew_
       have m0_ := zA (Kd.R_elder' HO29.out (Kd.R_base ho) hb)
       have m1_ := zA (Kd.R_lower (Kd.R_new' ho (Kd.R_lt HO29.out)) (zAE HB.out))
       have n0_ := zA (Kd.R_lower ho (zAE HB.out)); have n1_ := zA (blk_below BK3.out hb); have n2_ := zA (blk_below BK8.out hb); have n3_ := zA (zAD HB.out hb); clear BK3 BK8 HB ho hb; have BK3 := n1_; have BK8 := n2_; have HB := n3_; clear n1_ n2_ n3_
       clear n0_ HO29
       have HO29 := m0_
       have HO33 := m1_
       clear m0_ m1_
       refine hK.out _ _ ⟨(zP BK8.out 0).trans rfl, (zP BK8.out 1).trans rfl⟩ (fun hHeld => ?_)
       clear hK K
       refine norm_ (a' := ?_) ?_ ?_; rotate_left
       ·show Act.put _ (some 33) _ = _
        simp only [Act.put, zC, zD, zE, i64_w, i32_w]; rfl
       exact norm_ (by simp only [putAll, Act.put, zC, zD, zE] <;> rfl) (hJ2 (v29, v33) _ ⟨hHeld, Kd.R_mono HO29.out (fun _ hk => hk.2), Kd.R_mono HO33.out (fun _ hk => hk.2), BK3.out, BK8.out, HB.out⟩)
     ·skip
      refine Kd.R_lit_step Kd.string _ 9 ?hg (N := 33) ?hd (xs := ([] : List ByteArray)) (inner := []) (ok := fun _ => True) (okp := fun _ => True) ?hr ?hp (fun _ hk => hk) trivial (Below.refl _ _) (Nat.le_refl _) (by simp) ?_; (case hd => rfl); (case hg => rfl); (case hr => first | (go_simp; done) | (go_simp; rfl)); (case hp => exact (Reps.none _ _)); intro v33 w6 ho hb hg_ hnew_; clear hg_ hnew_
      have n0_ := zA (Kd.R_lower ho (zAE HB.out)); have n1_ := zA (blk_below BK3.out hb); have n2_ := zA (blk_below BK8.out hb); have n3_ := zA (zAD HB.out hb); clear BK3 BK8 HB ho hb; have BK3 := n1_; have BK8 := n2_; have HB := n3_; clear n1_ n2_ n3_
      have HO33 := n0_
      clear n0_
      refine hK.out _ _ ⟨(zP BK8.out 0).trans rfl, (zP BK8.out 1).trans rfl⟩ (fun hHeld => ?_)
      clear hK K
      refine norm_ (a' := ?_) ?_ ?_; rotate_left
      ·show Act.put _ (some 33) _ = _
       simp only [Act.put, zC, zD, zE, i64_w, i32_w]; rfl
      refine one_ (i := 0) (N := some 29) #[true, true, true, false, true, true, true, false, false, false, false] rfl rfl (one_of HT_.out (by kernel_rfl)) (by decide) (fun K hK => ?_)
      refine Kd.R_lit_step Kd.string _ 9 ?hg (N := 29) ?hd (xs := ([] : List ByteArray)) (inner := []) (ok := fun _ => True) (okp := fun _ => True) ?hr ?hp (fun _ hk => hk) trivial (Below.refl _ _) (Nat.le_refl _) (by simp) ?_; (case hd => rfl); (case hg => rfl); (case hr => first | (go_simp; done) | (go_simp; rfl)); (case hp => exact (Reps.none _ _)); intro v29 w7 ho hb hg_ hnew_; clear hg_ hnew_
      have m0_ := zA (Kd.R_elder' HO33.out (Kd.R_base ho) hb)
      have m1_ := zA (Kd.R_lower (Kd.R_new' ho (Kd.R_lt HO33.out)) (zAE HB.out))
      have n0_ := zA (Kd.R_lower ho (zAE HB.out)); have n1_ := zA (blk_below BK3.out hb); have n2_ := zA (blk_below BK8.out hb); have n3_ := zA (zAD HB.out hb); clear BK3 BK8 HB ho hb; have BK3 := n1_; have BK8 := n2_; have HB := n3_; clear n1_ n2_ n3_
      clear n0_ HO33
      have HO33 := m0_
      have HO29 := m1_
      clear m0_ m1_
      refine hK.out _ _ ⟨(zP BK8.out 0).trans rfl, (zP BK8.out 1).trans rfl⟩ (fun hHeld => ?_)
      clear hK K
      refine norm_ (a' := ?_) ?_ ?_; rotate_left
      ·show Act.put _ (some 29) _ = _
       simp only [Act.put, zC, zD, zE, i64_w, i32_w]; rfl
      exact norm_ (by simp only [putAll, Act.put, zC, zD, zE] <;> rfl) (hJ2 (v29, v33) _ ⟨hHeld, Kd.R_mono HO29.out (fun _ hk => hk.2), Kd.R_mono HO33.out (fun _ hk => hk.2), BK3.out, BK8.out, HB.out⟩)
    ·rintro ⟨v29, v33⟩ w6 ⟨hS, h29, h33, h3, h8, hb⟩
     clear BK3 BK8 HB hHeld
     have BK3 := zA h3
     have BK8 := zA h8
     have HB := zA hb
     have HO29 := zA h29
     have HO33 := zA h33
     have hHeld := hS
     clear h3 h8 hb h29 h33 hS
     refine norm_ (a' := ?_) ?_ ?_; rotate_left
     ·simp only [putAll, Act.put, zC, zD, zE]
      rfl
     refine one_ (i := 3) (N := some 32) #[true, true, true, true, true, true, true, false, false, false, false] rfl rfl (one_of HT_.out (by kernel_rfl)) (by decide) (fun K hK => ?_)
     refine Kd.R_append_rows_step Kd.string (w0 := w) w.heap.size (by rfl) (.tmp 29) (.tmp 31) 41 9 (.string ⟨#[]⟩) 16 rfl Try.underlying41 info9 rfl (by decide) (by omega) v29 [] p.f0 A0 p.f0.length c0 (fun k_ => some k_ ≠ (v33 : Value).ownBlock) (fun _ => False) rfl rfl ?aO ?aR (fun _ _ h => h) (fun _ h => h.elim) ?aF ?aB ?aS ?aL ?_
     (case aR => exact (Kd.C_below HR0.out HB.out)); (case aB => exact HB.out); (case aF => exact Kd.fresh_ok HO33.out); (case aO => exact HO29.out); (case aS => exact (zAE HB.out)); (case aL => have := HLN.out; simp only [List.length_nil]; omega)
     intro v32 w7 ho hb hg hat
     rw [List.nil_append] at ho
     have n0_ := zA (blk_grown BK3.out hg (Kd.R_ne HO29.out BK3.out (by decide)))
     have n1_ := zA (blk_grown BK8.out hg (Kd.R_ne HO29.out BK8.out (by decide)))
     have n2_ := zA (Kd.R_after (ok := fun _ => True) (Kd.R_mono HO33.out (fun _ hk => ⟨trivial, hk⟩)) hg hat)
     clear BK3 BK8 HB HO29 HO33
     have BK3 := n0_
     have BK8 := n1_
     have HO33 := n2_
     have HB := zA hb
     have HO32 := zA ho
     clear n0_ n1_ n2_ hb ho hg hat
     refine hK.out _ _ ⟨(zP BK8.out 0).trans rfl, (zP BK8.out 1).trans rfl⟩ (fun hHeld => ?_)
     clear hK K
     refine norm_ (a' := ?_) ?_ ?_; rotate_left
     ·show Act.put _ (some 32) _ = _
      simp only [Act.put, zC, zD, zE, i64_w, i32_w]; rfl
     exact norm_ (by simp only [putAll, Act.put, zC, zD, zE] <;> rfl) (hJ1 (v29, v32, v33) _ ⟨hHeld, HO32.out, Kd.R_mono HO33.out (fun _ hk => trivial), BK3.out, BK8.out, HB.out⟩)
   ·rintro ⟨v29, v32, v33⟩ w6 ⟨hS, h32, h33, h3, h8, hb⟩
    clear BK3 BK8 HB hHeld
    have BK3 := zA h3
    have BK8 := zA h8
    have HB := zA hb
    have HO32 := zA h32
    have HO33 := zA h33
    have hHeld := hS
    clear h3 h8 hb h32 h33 hS
    refine norm_ (a' := ?_) ?_ ?_; rotate_left
    ·simp only [putAll, Act.put, zC, zD, zE]
     rfl
    refine one_ (i := 7) (N := some 36) #[true, true, true, true, true, true, true, true, false, false, false] rfl rfl (one_of HT_.out (by kernel_rfl)) (by decide) (fun K hK => ?_)
    refine Kd.R_append_rows_step Kd.string (w0 := w) w.heap.size (by rfl) (.tmp 33) (.tmp 35) 41 9 (.string ⟨#[]⟩) 16 rfl Try.underlying41 info9 rfl (by decide) (by omega) v33 [] p.f1 A1 p.f1.length c1 (fun _ => True) (fun _ => False) rfl rfl ?aO ?aR (fun _ _ h => h) (fun _ h => h.elim) ?aF ?aB ?aS ?aL ?_
    (case aR => exact (Kd.C_below HR1.out HB.out)); (case aB => exact HB.out); (case aF => exact (fun _ _ => trivial)); (case aO => exact HO33.out); (case aS => exact (zAE HB.out)); (case aL => have := HLN.out; simp only [List.length_nil]; omega)
    intro v36 w7 ho hb hg hat
    rw [List.nil_append] at ho
    have n0_ := zA (blk_grown BK3.out hg (Kd.R_ne HO33.out BK3.out (by decide)))
    have n1_ := zA (blk_grown BK8.out hg (Kd.R_ne HO33.out BK8.out (by decide)))
    have n2_ := zA (Kd.R_after (ok := fun _ => True) (Kd.R_mono HO32.out (fun _ hk => ⟨trivial, hk⟩)) hg hat)
    clear BK3 BK8 HB HO32 HO33
    have BK3 := n0_
    have BK8 := n1_
    have HO32 := n2_
    have HB := zA hb
    have HO36 := zA ho
    clear n0_ n1_ n2_ hb ho hg hat
    obtain ⟨A32, c32, eo⟩ := Kd.R_slice HO32.out
    subst eo
    obtain ⟨A36, c36, eo⟩ := Kd.R_slice HO36.out
    subst eo
    refine hK.out _ _ ⟨(zP BK8.out 0).trans rfl, (zP BK8.out 1).trans rfl⟩ (fun hHeld => ?_)
    clear hK K
    refine norm_ (a' := ?_) ?_ ?_; rotate_left
    ·show Act.put _ (some 36) _ = _
     simp only [Act.put, zC, zD, zE, i64_w, i32_w]; rfl
    refine pure_ (i := 8) (N := some 37) (v := ?_) (a' := ?_) #[true, true, true, true, true, true, true, true, true, false, false] rfl rfl (any_of HT_.out (by kernel_rfl)) (fun _ _ _ h => h) (Or.inl ⟨by rfl, ?_⟩) ?_ ?_; rotate_left
    ·intro w'
     go_simp
     with_reducible rfl
    rotate_left
    ·simp only [Act.put, zC, zD, zE, i64_w, i32_w]
     rfl
    refine one_ (i := 9) (N := some 38) #[true, true, true, true, true, true, true, true, true, true, false] rfl rfl (one_of HT_.out (by kernel_rfl)) (by decide) (fun K hK => ?_)
    refine box_step ?hg (N := 38) ?hd (cs := #[.slice A32 p.f0.length c32, .slice A36 p.f1.length c36, .slice none 0 0]) (t := 95) ?hr ?_; (case hd => rfl); (case hg => rfl); (case hr => first | (go_simp; done) | (go_simp; rfl))
    intro gb9 hg w8 hbox hb
    have n0_ := zA (Kd.R_below (Kd.R_mono HO32.out (fun _ _ => trivial) : Kd.R Kd.string 9 w7 w.heap.size (fun _ => True) (.slice A32 p.f0.length c32) p.f0) hb)
    have n1_ := zA (Kd.R_below HO36.out hb)
    have n2_ := zA (blk_below BK3.out hb)
    have n3_ := zA (blk_below BK8.out hb)
    have n4_ := zA (zAD HB.out hb)
    have GW9 := zA (by rw [hg]; exact zAE HB.out : w.heap.size ≤ gb9)
    have NB39 := zA (by rw [hg]; exact zK (blk_lt BK3.out) : gb3 ≠ gb9)
    have NB89 := zA (by rw [hg]; exact zK (blk_lt BK8.out) : gb8 ≠ gb9)
    clear BK3 BK8 HB HO32 HO36 hb hg
    have HO32 := n0_
    have HO36 := n1_
    have BK3 := n2_
    have BK8 := n3_
    have HB := n4_
    have BK9 := zA hbox
    clear n0_ n1_ n2_ n3_ n4_ hbox
    refine hK.out _ _ ⟨(zP BK8.out 0).trans rfl, (zP BK8.out 1).trans rfl⟩ (fun hHeld => ?_)
    clear hK K
    refine norm_ (a' := ?_) ?_ ?_; rotate_left
    ·show Act.put _ (some 38) _ = _
     simp only [Act.put, zC, zD, zE, i64_w, i32_w]; rfl
    refine pure_ (i := 10) (N := some 9) (v := ?_) (a' := ?_) #[true, true, true, true, true, true, true, true, true, true, true] rfl rfl (any_of HT_.out (by kernel_rfl)) (fun _ _ _ h => h) (Or.inl ⟨by rfl, ?_⟩) ?_ ?_; rotate_left
    ·intro w'
     go_simp
     with_reducible rfl
    rotate_left
    ·simp only [Act.put, zC, zD, zE, i64_w, i32_w]
     rfl
    refine done_ (done_of HT_.out (by kernel_rfl)) ?_
    clear hHeld HT_ HW_
    have hz0 : w8.cell? ⟨gb8, 0, none⟩ = some (.slice A0 p.f0.length c0) := (zP BK8.out 0).trans rfl
    have hz1 : w8.cell? ⟨gb8, 1, none⟩ = some (.slice A1 p.f1.length c1) := (zP BK8.out 1).trans rfl
    have hz2 : w8.cell? ⟨gb8, 2, none⟩ = some (.slice A2 p.f2.length c2) := (zP BK8.out 2).trans rfl
    have hw1 : wrap64 ((p.f0.length : Int) + 1) = ((p.f0.length + 1 : Nat) : Int) := by have := HLN.out; unfold wrap64; omega
    have hw2 : wrap64 (z + 1) = ((at_ + 1 : Nat) : Int) := by have := HG.out.1; have := HZ.out; have := HH.out; unfold wrap64; omega
    by_cases k1 : p.f0.length ≤ 4
    ·have e1 : decide ((4 : Int) < (p.f0.length : Int)) = false := decide_eq_false (by omega)
     have e1' : decide (4 < p.f0.length) = false := decide_eq_false (by omega)
     have K1 := zA k1
     clear k1
     by_cases k2 : p.f1.length = p.f0.length
     ·have e2 : (((p.f1.length : Int)) != (p.f0.length : Int)) = false := bne_eq_false_iff_eq.mpr (by omega)
      have e2' : (p.f1.length != p.f0.length) = false := bne_eq_false_iff_eq.mpr k2
      have e2'' : (p.f1.length == p.f0.length) = true := beq_iff_eq.mpr k2
      have K2 := zA k2
      clear k2
      by_cases k3 : p.f2.length = 0
      ·have e3 : (((p.f2.length : Int)) != 0) = false := bne_eq_false_iff_eq.mpr (by omega)
       have e3' : (p.f2.length != 0) = false := bne_eq_false_iff_eq.mpr k3
       have K3 := zA k3
       clear k3
       have RR := zA (show readF ps (n + 1) at_ = (match readK (readF ps n) p.f2 (at_ + 1) with | none => none | some (l, e) => some (⟨p.f0, p.f1, l⟩, e)) from by rw [readF, HP.out]; exact if_pos ⟨K1.out, K2.out, .inl K3.out⟩)
       go_wp2
       have HW2 := zA hw2
       clear hw2
       (try clear hw1); (try clear e1); (try clear e1'); (try clear e2); (try clear e2'); (try clear e2''); (try clear e3); (try clear e3'); (try clear e3''); (try clear e3d); (try clear e4); (try clear e4'); (try clear e4''); (try clear e4x); (try clear b1); (try clear b2); (try clear b3); (try clear b4); (try clear b5); (try clear b6); (try clear b7)
       go_loopg [10, 73] (p.f2.length + 1) (fun kq v10 v73 w' => ∃ (i nx : Nat) (kids : List S95) (vC : Value), v73 = .int .i64 (i : Int) ∧ v10 = .int .i64 (nx : Int) ∧ Aside0 (kq + i = p.f2.length + 1) ∧ Aside0 (i ≤ p.f2.length) ∧ Aside0 (readK (readF ps n) p.f2 (at_ + 1) = (match readK (readF ps n) (p.f2.drop i) nx with | none => none | some (l, e) => some (kids.map er95 ++ l, e))) ∧ Aside0 (kids.length = i) ∧ Aside0 (Kd.R Kd.string 9 w' w.heap.size (fun _ => True) (.slice A32 p.f0.length c32) p.f0) ∧ Aside0 (Kd.R Kd.string 9 w' w.heap.size (fun _ => True) (.slice A36 p.f1.length c36) p.f1) ∧ Aside0 (Kd.R k95p 54 w' w.heap.size (fun k => k ≠ gb9) vC kids) ∧ Aside0 (w'.heap[gb9]? = some (.cells #[.slice A32 p.f0.length c32, .slice A36 p.f1.length c36, vC] 95 (0, 0))) ∧ Aside0 (w'.heap[gb3]? = some (.cells #[.slice (some ad) ps.length c] 30 (0, 0))) ∧ Aside0 (Below w.heap.size w w'))
       case atStart => exact ⟨0, at_ + 1, [], .slice none 0 0, rfl, by first | rfl | (rw [HW2.out]; done), ⟨by omega⟩, ⟨by omega⟩, ⟨by rw [List.drop_zero]; cases readK (readF ps n) p.f2 (at_ + 1) with | none => rfl | some z => rfl⟩, ⟨rfl⟩, HO32, HO36, ⟨Kd.R_nil _ _ _ _ _⟩, BK9, BK3, HB⟩
       case round =>
        clear HO32 HO36 BK9 BK3 BK8 HB
        obtain ⟨i, nx, kids, vC, rfl, rfl, HK, HI, HRD, HKL, HO32, HO36, HOC, BK9, BK3, HB⟩ := hrel
        by_cases hi : i < p.f2.length
        ·obtain ⟨g1, rfl⟩ : ∃ g1, gk = g1 + 1 := ⟨gk - 1, by have := HK.out; omega⟩
         have q1 : ((i : Int) < (p.f2.length : Int)) = True := eq_true (by omega)
         have q2 : (i < p.f2.length) = True := eq_true hi
         have q3 : decide ((i : Int) < (p.f2.length : Int)) = true := decide_eq_true (by omega)
         obtain ⟨adk, ek, hk0⟩ := Kd.at_int HR2.out (i : Int) (by omega) (by omega)
         subst ek
         rw [Int.toNat_natCast] at hk0
         have hk1 := (HB.out.cell (zB w _ hk0)).trans hk0
         obtain ⟨kk, hkk⟩ : ∃ z, z = rd p.f2 (i : Int) := ⟨_, rfl⟩
         rw [← hkk] at hk0 hk1
         have ED : p.f2.drop i = kk :: p.f2.drop (i + 1) := by
          rw [List.drop_eq_getElem_cons hi, hkk]
          congr 1
          unfold rd
          rw [Int.toNat_natCast, List.getD_eq_getElem?_getD, List.getElem?_eq_getElem hi]; rfl
         have HED := zA ED
         have HKK := zA hkk
         clear ED hkk hk0
         by_cases ck : kk = (nx : Int)
         ·have c1 : (kk != (nx : Int)) = false := bne_eq_false_iff_eq.mpr ck
          have c2 : (kk == (nx : Int)) = true := beq_iff_eq.mpr ck
          have CK := zA ck
          have hI := ih nx (dp + 1) wr (by omega) (by omega) (Kd.C_below HC.out HB.out)
          have hw3 : wrap64 (dp + 1) = dp + 1 := by unfold wrap64; omega
          have hc3 : wr.cell? ⟨gb3, 0, none⟩ = some (.slice (some ad) ps.length c) := (zP BK3.out 0).trans rfl
          have HRK := zA (show readK (readF ps n) (p.f2.drop i) nx = (match readF ps n nx with | none => none | some (t, e) => (match readK (readF ps n) (p.f2.drop (i + 1)) e with | none => none | some (l, e') => some (t :: l, e'))) from by rw [HED.out, readK, if_pos CK.out]; rfl)
          cases hR : readF ps n nx with
          | none =>
           rw [hR] at hI HRK
           have HRR := zA (show readF ps (n + 1) at_ = none from by rw [RR.out, HRD.out, HRK.out])
           clear ck hR
           go_wp2_with (first | ((with_reducible refine gate_callee (f := 54) rfl ?_); refine goesL_ (some 85) rfl rfl Try.func54 (by kernel_rfl) rfl #[.agg #[.slice (some ad) ps.length c], .int .i64 (nx : Int), .int .i64 (dp + 1)] rfl (by (try simp only [zAA, zAB, zAC]); first | done | rfl) ?_; refine hI.mono ?_; rintro e w9 ⟨rfl, hb⟩; refine ⟨_, rfl, ?_⟩; have n0_ := zA (zAD HB.out hb); clear HB hb hc3; have HB := n0_; clear n0_))
           go_ret2
           exact (show Post95 (n + 1) w (readF ps (n + 1) at_) _ _ from (by rw [HRR.out]; exact ⟨by first | rfl | (simp <;> rfl), HB.out⟩))
          | some te =>
           obtain ⟨t, e1⟩ := te
           rw [hR] at hI HRK
           clear ck hR
           have c3 : decide ((e1 : Int) < 0) = false := decide_eq_false (by omega)
           go_wp2_with (first | ((with_reducible refine gate_callee (f := 54) rfl ?_); refine goesL_ (some 85) rfl rfl Try.func54 (by kernel_rfl) rfl #[.agg #[.slice (some ad) ps.length c], .int .i64 (nx : Int), .int .i64 (dp + 1)] rfl (by (try simp only [zAA, zAB, zAC]); first | done | rfl) ?_; refine hI.mono ?_; rintro e w9 ⟨x, rfl, hx1, hM, hb⟩; refine ⟨_, rfl, ?_⟩; have n0_ := zA (zAD HB.out hb); have n1_ := zA (blk_below BK3.out hb); have n2_ := zA (blk_below BK9.out hb); have n3_ := zA (Kd.R_below HO32.out hb); have n4_ := zA (Kd.R_below HO36.out hb); have n5_ := zA (Kd.R_below HOC.out hb); have HVL := zA (Kd.R_lt HOC.out); have HGL := zA (blk_lt BK9.out); have HWS := zA hb.size; have HWR := zA (zAE HB.out); have HXE := zA hx1; have HM := zA hM; clear HB BK3 BK9 HO32 HO36 HOC hb hc3 hx1 hM; have HB := n0_; have BK3 := n1_; have BK9 := n2_; have HO32 := n3_; have HO36 := n4_; have HOC := n5_; clear n0_ n1_ n2_ n3_ n4_ n5_; have hc9 : w9.cell? ⟨gb9, 2, none⟩ = some vC := (zP BK9.out 2).trans rfl) | ((with_reducible refine gate_builtin (b := .append) (xs := #[.tmp 94, .tmp 96]) rfl ?_); at_builtin; refine Kd.R_append k95p (w0 := w) w.heap.size rfl (.tmp 94) (.tmp 96) 93 54 (.pointer none) 8 rfl Try.underlying93 info54 rfl (by decide) (by omega) vC kids x [.pointer (some ⟨x.adr, 0, none⟩)] (fun k => k ≠ gb9) (fun k => True ∧ wr.heap.size ≤ k ∧ k < w9.heap.size ∧ ∃ q, q ∈ k95p.E ∧ ∃ cells, w9.heap[k]? = some (.cells cells q (0, 0))) rfl rfl ?aP ?aK ?aF ?aO ?aB ?aS ?aL ?_; (case aP => exact k95p.M_lower HWR.out (k95p.M_bound HM.out)); (case aK => exact (fun k hk => ⟨by have := HGL.out; omega, fun e => by have := HVL.out k e.symm; omega⟩)); (case aF => exact (fun k hk => by have := HGL.out; have := HWS.out; omega)); (case aO => exact HOC.out); (case aB => exact HB.out); (case aS => exact (zAE HB.out)); (case aL => have := HLN.out; have := HKL.out; omega); intro v97 w10 ho hb hg hat; obtain ⟨ys, hys⟩ : ∃ ys, ys = kids ++ [x] := ⟨_, rfl⟩; rw [← hys] at ho; have HYS := zA hys; clear hys; have n0_ := zA ho; have n1_ := zA hb; have n2_ := zA (blk_grown BK9.out hg (Kd.R_ne HOC.out BK9.out (by decide))); have n3_ := zA (blk_grown BK3.out hg (Kd.R_ne HOC.out BK3.out (by decide))); have n4_ := zA (Kd.R_mono (Kd.R_grown (R_apart HO32.out HOC.out (by decide)) hg (fun _ hk => hk.2)) (fun _ _ => trivial) : Kd.R Kd.string 9 w10 w.heap.size (fun _ => True) (.slice A32 p.f0.length c32) p.f0); have n5_ := zA (Kd.R_mono (Kd.R_grown (R_apart HO36.out HOC.out (by decide)) hg (fun _ hk => hk.2)) (fun _ _ => trivial) : Kd.R Kd.string 9 w10 w.heap.size (fun _ => True) (.slice A36 p.f1.length c36) p.f1); clear HB BK3 BK9 HO32 HO36 HOC hc9 ho hb hg hat; have HOC := n0_; have HB := n1_; have BK9 := n2_; have BK3 := n3_; have HO32 := n4_; have HO36 := n5_; clear n0_ n1_ n2_ n3_ n4_ n5_; have hc10 : w10.cell? ⟨gb9, 2, none⟩ = some vC := (zP BK9.out 2).trans rfl; have hf10 := zO BK9.out 2; obtain ⟨A97, c97, eo⟩ := Kd.R_slice HOC.out; subst eo))
           go_roundg g1
           case measure => omega
           case rel => exact ⟨i + 1, e1, ys, _, by rw [w64N i (by have := HLN.out; omega)], rfl, ⟨by have := HK.out; omega⟩, ⟨by omega⟩, ⟨by
             rw [HRD.out, HRK.out]
             cases readK (readF ps n) (p.f2.drop (i + 1)) e1 with
             | none => rfl
             | some z =>
              show some (kids.map er95 ++ (t :: z.1), z.2) = some (ys.map er95 ++ z.1, z.2)
              rw [HYS.out, List.map_append, List.append_assoc, ← HXE.out]; rfl⟩, ⟨by rw [HYS.out, List.length_append, HKL.out]; rfl⟩,
            ⟨Kd.R_set HO32.out BK9.out (by decide) 2 _⟩, ⟨Kd.R_set HO36.out BK9.out (by decide) 2 _⟩, ⟨Kd.R_far (p := ⟨gb9, 2, none⟩) HOC.out (fun _ hk => hk) _⟩, ⟨blk_put BK9.out 2 _ rfl⟩, ⟨blk_far BK3.out NB39.out _⟩, ⟨zI HB.out GW9.out⟩⟩
         ·have c1 : (kk != (nx : Int)) = true := bne_iff_ne.mpr ck
          have c2 : (kk == (nx : Int)) = false := beq_eq_false_iff_ne.mpr ck
          have CK := zA ck
          have HRR := zA (show readF ps (n + 1) at_ = none from by rw [RR.out, HRD.out, HED.out, readK, if_neg CK.out])
          clear ck
          go_wp2
          go_ret2
          exact (show Post95 (n + 1) w (readF ps (n + 1) at_) _ _ from (by rw [HRR.out]; exact ⟨by first | rfl | (simp <;> rfl), HB.out⟩))
        ·have q3 : decide ((i : Int) < (p.f2.length : Int)) = false := decide_eq_false (by omega)
         have HRR := zA (show readF ps (n + 1) at_ = some (⟨p.f0, p.f1, kids.map er95⟩, nx) from by
          rw [RR.out, HRD.out, List.drop_eq_nil_of_le (by have := HI.out; omega), readK]
          show some (T.mk p.f0 p.f1 (kids.map er95 ++ []), nx) = _
          rw [List.append_nil])
         obtain ⟨A99, c99, eo⟩ := Kd.R_slice HOC.out
         subst eo
         go_wp2
         go_ret2
         exact (show Post95 (n + 1) w (readF ps (n + 1) at_) _ _ from (by
          rw [HRR.out]
          exact ⟨⟨gb9, p.f0, p.f1, kids⟩, by first | rfl | (simp <;> rfl), er95_eq _, k95p_mkM trivial GW9.out BK9.out (Kd.R_types HO32.out BK9.out (by decide)) (Kd.R_types HO36.out BK9.out (by decide)) (Kd.R_mono HOC.out (fun _ hk => ⟨trivial, hk⟩)), HB.out⟩))
      ·have e3 : (((p.f2.length : Int)) != 0) = true := bne_iff_ne.mpr (by omega)
       have e3' : (p.f2.length != 0) = true := bne_iff_ne.mpr k3
       have e3'' : ((p.f2.length : Int) == 0) = false := beq_eq_false_iff_ne.mpr (by omega)
       have e3d : (p.f2.length == 0) = false := beq_eq_false_iff_ne.mpr k3
       have K3 := zA k3
       clear k3
       by_cases k4 : p.f2.length = p.f0.length + 1
       ·have e4 : (((p.f2.length : Int)) != ((p.f0.length + 1 : Nat) : Int)) = false := bne_eq_false_iff_eq.mpr (by omega)
        have e4' : (p.f2.length != p.f0.length + 1) = false := bne_eq_false_iff_eq.mpr k4
        have e4'' : (p.f2.length == p.f0.length + 1) = true := beq_iff_eq.mpr k4
        have e4x : (((p.f2.length : Int)) != (p.f0.length : Int) + 1) = false := bne_eq_false_iff_eq.mpr (by omega)
        have K4 := zA k4
        clear k4
        have RR := zA (show readF ps (n + 1) at_ = (match readK (readF ps n) p.f2 (at_ + 1) with | none => none | some (l, e) => some (⟨p.f0, p.f1, l⟩, e)) from by rw [readF, HP.out]; exact if_pos ⟨K1.out, K2.out, .inr K4.out⟩)
        go_wp2
        have HW2 := zA hw2
        clear hw2
        (try clear hw1); (try clear e1); (try clear e1'); (try clear e2); (try clear e2'); (try clear e2''); (try clear e3); (try clear e3'); (try clear e3''); (try clear e3d); (try clear e4); (try clear e4'); (try clear e4''); (try clear e4x); (try clear b1); (try clear b2); (try clear b3); (try clear b4); (try clear b5); (try clear b6); (try clear b7)
        go_loopg [10, 73] (p.f2.length + 1) (fun kq v10 v73 w' => ∃ (i nx : Nat) (kids : List S95) (vC : Value), v73 = .int .i64 (i : Int) ∧ v10 = .int .i64 (nx : Int) ∧ Aside0 (kq + i = p.f2.length + 1) ∧ Aside0 (i ≤ p.f2.length) ∧ Aside0 (readK (readF ps n) p.f2 (at_ + 1) = (match readK (readF ps n) (p.f2.drop i) nx with | none => none | some (l, e) => some (kids.map er95 ++ l, e))) ∧ Aside0 (kids.length = i) ∧ Aside0 (Kd.R Kd.string 9 w' w.heap.size (fun _ => True) (.slice A32 p.f0.length c32) p.f0) ∧ Aside0 (Kd.R Kd.string 9 w' w.heap.size (fun _ => True) (.slice A36 p.f1.length c36) p.f1) ∧ Aside0 (Kd.R k95p 54 w' w.heap.size (fun k => k ≠ gb9) vC kids) ∧ Aside0 (w'.heap[gb9]? = some (.cells #[.slice A32 p.f0.length c32, .slice A36 p.f1.length c36, vC] 95 (0, 0))) ∧ Aside0 (w'.heap[gb3]? = some (.cells #[.slice (some ad) ps.length c] 30 (0, 0))) ∧ Aside0 (Below w.heap.size w w'))
        case atStart => exact ⟨0, at_ + 1, [], .slice none 0 0, rfl, by first | rfl | (rw [HW2.out]; done), ⟨by omega⟩, ⟨by omega⟩, ⟨by rw [List.drop_zero]; cases readK (readF ps n) p.f2 (at_ + 1) with | none => rfl | some z => rfl⟩, ⟨rfl⟩, HO32, HO36, ⟨Kd.R_nil _ _ _ _ _⟩, BK9, BK3, HB⟩
        case round =>
         clear HO32 HO36 BK9 BK3 BK8 HB
         obtain ⟨i, nx, kids, vC, rfl, rfl, HK, HI, HRD, HKL, HO32, HO36, HOC, BK9, BK3, HB⟩ := hrel
         by_cases hi : i < p.f2.length
         ·obtain ⟨g1, rfl⟩ : ∃ g1, gk = g1 + 1 := ⟨gk - 1, by have := HK.out; omega⟩
          have q1 : ((i : Int) < (p.f2.length : Int)) = True := eq_true (by omega)
          have q2 : (i < p.f2.length) = True := eq_true hi
          have q3 : decide ((i : Int) < (p.f2.length : Int)) = true := decide_eq_true (by omega)
          obtain ⟨adk, ek, hk0⟩ := Kd.at_int HR2.out (i : Int) (by omega) (by omega)
          subst ek
          rw [Int.toNat_natCast] at hk0
          have hk1 := (HB.out.cell (zB w _ hk0)).trans hk0
          obtain ⟨kk, hkk⟩ : ∃ z, z = rd p.f2 (i : Int) := ⟨_, rfl⟩
          rw [← hkk] at hk0 hk1
          have ED : p.f2.drop i = kk :: p.f2.drop (i + 1) := by
           rw [List.drop_eq_getElem_cons hi, hkk]
           congr 1
           unfold rd
           rw [Int.toNat_natCast, List.getD_eq_getElem?_getD, List.getElem?_eq_getElem hi]; rfl
          have HED := zA ED
          have HKK := zA hkk
          clear ED hkk hk0
          by_cases ck : kk = (nx : Int)
          ·have c1 : (kk != (nx : Int)) = false := bne_eq_false_iff_eq.mpr ck
           have c2 : (kk == (nx : Int)) = true := beq_iff_eq.mpr ck
           have CK := zA ck
           have hI := ih nx (dp + 1) wr (by omega) (by omega) (Kd.C_below HC.out HB.out)
           have hw3 : wrap64 (dp + 1) = dp + 1 := by unfold wrap64; omega
           have hc3 : wr.cell? ⟨gb3, 0, none⟩ = some (.slice (some ad) ps.length c) := (zP BK3.out 0).trans rfl
           have HRK := zA (show readK (readF ps n) (p.f2.drop i) nx = (match readF ps n nx with | none => none | some (t, e) => (match readK (readF ps n) (p.f2.drop (i + 1)) e with | none => none | some (l, e') => some (t :: l, e'))) from by rw [HED.out, readK, if_pos CK.out]; rfl)
           cases hR : readF ps n nx with
           | none =>
            rw [hR] at hI HRK
            have HRR := zA (show readF ps (n + 1) at_ = none from by rw [RR.out, HRD.out, HRK.out])
            clear ck hR
            go_wp2_with (first | ((with_reducible refine gate_callee (f := 54) rfl ?_); refine goesL_ (some 85) rfl rfl Try.func54 (by kernel_rfl) rfl #[.agg #[.slice (some ad) ps.length c], .int .i64 (nx : Int), .int .i64 (dp + 1)] rfl (by (try simp only [zAA, zAB, zAC]); first | done | rfl) ?_; refine hI.mono ?_; rintro e w9 ⟨rfl, hb⟩; refine ⟨_, rfl, ?_⟩; have n0_ := zA (zAD HB.out hb); clear HB hb hc3; have HB := n0_; clear n0_))
            go_ret2
            exact (show Post95 (n + 1) w (readF ps (n + 1) at_) _ _ from (by rw [HRR.out]; exact ⟨by first | rfl | (simp <;> rfl), HB.out⟩))
           | some te =>
            obtain ⟨t, e1⟩ := te
            rw [hR] at hI HRK
            clear ck hR
            have c3 : decide ((e1 : Int) < 0) = false := decide_eq_false (by omega)
            go_wp2_with (first | ((with_reducible refine gate_callee (f := 54) rfl ?_); refine goesL_ (some 85) rfl rfl Try.func54 (by kernel_rfl) rfl #[.agg #[.slice (some ad) ps.length c], .int .i64 (nx : Int), .int .i64 (dp + 1)] rfl (by (try simp only [zAA, zAB, zAC]); first | done | rfl) ?_; refine hI.mono ?_; rintro e w9 ⟨x, rfl, hx1, hM, hb⟩; refine ⟨_, rfl, ?_⟩; have n0_ := zA (zAD HB.out hb); have n1_ := zA (blk_below BK3.out hb); have n2_ := zA (blk_below BK9.out hb); have n3_ := zA (Kd.R_below HO32.out hb); have n4_ := zA (Kd.R_below HO36.out hb); have n5_ := zA (Kd.R_below HOC.out hb); have HVL := zA (Kd.R_lt HOC.out); have HGL := zA (blk_lt BK9.out); have HWS := zA hb.size; have HWR := zA (zAE HB.out); have HXE := zA hx1; have HM := zA hM; clear HB BK3 BK9 HO32 HO36 HOC hb hc3 hx1 hM; have HB := n0_; have BK3 := n1_; have BK9 := n2_; have HO32 := n3_; have HO36 := n4_; have HOC := n5_; clear n0_ n1_ n2_ n3_ n4_ n5_; have hc9 : w9.cell? ⟨gb9, 2, none⟩ = some vC := (zP BK9.out 2).trans rfl) | ((with_reducible refine gate_builtin (b := .append) (xs := #[.tmp 94, .tmp 96]) rfl ?_); at_builtin; refine Kd.R_append k95p (w0 := w) w.heap.size rfl (.tmp 94) (.tmp 96) 93 54 (.pointer none) 8 rfl Try.underlying93 info54 rfl (by decide) (by omega) vC kids x [.pointer (some ⟨x.adr, 0, none⟩)] (fun k => k ≠ gb9) (fun k => True ∧ wr.heap.size ≤ k ∧ k < w9.heap.size ∧ ∃ q, q ∈ k95p.E ∧ ∃ cells, w9.heap[k]? = some (.cells cells q (0, 0))) rfl rfl ?aP ?aK ?aF ?aO ?aB ?aS ?aL ?_; (case aP => exact k95p.M_lower HWR.out (k95p.M_bound HM.out)); (case aK => exact (fun k hk => ⟨by have := HGL.out; omega, fun e => by have := HVL.out k e.symm; omega⟩)); (case aF => exact (fun k hk => by have := HGL.out; have := HWS.out; omega)); (case aO => exact HOC.out); (case aB => exact HB.out); (case aS => exact (zAE HB.out)); (case aL => have := HLN.out; have := HKL.out; omega); intro v97 w10 ho hb hg hat; obtain ⟨ys, hys⟩ : ∃ ys, ys = kids ++ [x] := ⟨_, rfl⟩; rw [← hys] at ho; have HYS := zA hys; clear hys; have n0_ := zA ho; have n1_ := zA hb; have n2_ := zA (blk_grown BK9.out hg (Kd.R_ne HOC.out BK9.out (by decide))); have n3_ := zA (blk_grown BK3.out hg (Kd.R_ne HOC.out BK3.out (by decide))); have n4_ := zA (Kd.R_mono (Kd.R_grown (R_apart HO32.out HOC.out (by decide)) hg (fun _ hk => hk.2)) (fun _ _ => trivial) : Kd.R Kd.string 9 w10 w.heap.size (fun _ => True) (.slice A32 p.f0.length c32) p.f0); have n5_ := zA (Kd.R_mono (Kd.R_grown (R_apart HO36.out HOC.out (by decide)) hg (fun _ hk => hk.2)) (fun _ _ => trivial) : Kd.R Kd.string 9 w10 w.heap.size (fun _ => True) (.slice A36 p.f1.length c36) p.f1); clear HB BK3 BK9 HO32 HO36 HOC hc9 ho hb hg hat; have HOC := n0_; have HB := n1_; have BK9 := n2_; have BK3 := n3_; have HO32 := n4_; have HO36 := n5_; clear n0_ n1_ n2_ n3_ n4_ n5_; have hc10 : w10.cell? ⟨gb9, 2, none⟩ = some vC := (zP BK9.out 2).trans rfl; have hf10 := zO BK9.out 2; obtain ⟨A97, c97, eo⟩ := Kd.R_slice HOC.out; subst eo))
            go_roundg g1
            case measure => omega
            case rel => exact ⟨i + 1, e1, ys, _, by rw [w64N i (by have := HLN.out; omega)], rfl, ⟨by have := HK.out; omega⟩, ⟨by omega⟩, ⟨by
              rw [HRD.out, HRK.out]
              cases readK (readF ps n) (p.f2.drop (i + 1)) e1 with
              | none => rfl
              | some z =>
               show some (kids.map er95 ++ (t :: z.1), z.2) = some (ys.map er95 ++ z.1, z.2)
               rw [HYS.out, List.map_append, List.append_assoc, ← HXE.out]; rfl⟩, ⟨by rw [HYS.out, List.length_append, HKL.out]; rfl⟩,
             ⟨Kd.R_set HO32.out BK9.out (by decide) 2 _⟩, ⟨Kd.R_set HO36.out BK9.out (by decide) 2 _⟩, ⟨Kd.R_far (p := ⟨gb9, 2, none⟩) HOC.out (fun _ hk => hk) _⟩, ⟨blk_put BK9.out 2 _ rfl⟩, ⟨blk_far BK3.out NB39.out _⟩, ⟨zI HB.out GW9.out⟩⟩
          ·have c1 : (kk != (nx : Int)) = true := bne_iff_ne.mpr ck
           have c2 : (kk == (nx : Int)) = false := beq_eq_false_iff_ne.mpr ck
           have CK := zA ck
           have HRR := zA (show readF ps (n + 1) at_ = none from by rw [RR.out, HRD.out, HED.out, readK, if_neg CK.out])
           clear ck
           go_wp2
           go_ret2
           exact (show Post95 (n + 1) w (readF ps (n + 1) at_) _ _ from (by rw [HRR.out]; exact ⟨by first | rfl | (simp <;> rfl), HB.out⟩))
         ·have q3 : decide ((i : Int) < (p.f2.length : Int)) = false := decide_eq_false (by omega)
          have HRR := zA (show readF ps (n + 1) at_ = some (⟨p.f0, p.f1, kids.map er95⟩, nx) from by
           rw [RR.out, HRD.out, List.drop_eq_nil_of_le (by have := HI.out; omega), readK]
           show some (T.mk p.f0 p.f1 (kids.map er95 ++ []), nx) = _
           rw [List.append_nil])
          obtain ⟨A99, c99, eo⟩ := Kd.R_slice HOC.out
          subst eo
          go_wp2
          go_ret2
          exact (show Post95 (n + 1) w (readF ps (n + 1) at_) _ _ from (by
           rw [HRR.out]
           exact ⟨⟨gb9, p.f0, p.f1, kids⟩, by first | rfl | (simp <;> rfl), er95_eq _, k95p_mkM trivial GW9.out BK9.out (Kd.R_types HO32.out BK9.out (by decide)) (Kd.R_types HO36.out BK9.out (by decide)) (Kd.R_mono HOC.out (fun _ hk => ⟨trivial, hk⟩)), HB.out⟩))
       ·have e4 : (((p.f2.length : Int)) != ((p.f0.length + 1 : Nat) : Int)) = true := bne_iff_ne.mpr (by omega)
        have e4' : (p.f2.length != p.f0.length + 1) = true := bne_iff_ne.mpr k4
        have e4'' : (p.f2.length == p.f0.length + 1) = false := beq_eq_false_iff_ne.mpr k4
        have e4x : (((p.f2.length : Int)) != (p.f0.length : Int) + 1) = true := bne_iff_ne.mpr (by omega)
        have K4 := zA k4
        clear k4
        have RR := zA (show readF ps (n + 1) at_ = none from by rw [readF, HP.out]; exact if_neg (fun z => z.2.2.elim K3.out K4.out))
        go_wp2
        go_ret2
        exact (show Post95 (n + 1) w (readF ps (n + 1) at_) _ _ from (by rw [RR.out]; exact ⟨by first | rfl | (simp <;> rfl), HB.out⟩))
     ·have e2 : (((p.f1.length : Int)) != (p.f0.length : Int)) = true := bne_iff_ne.mpr (by omega)
      have e2' : (p.f1.length != p.f0.length) = true := bne_iff_ne.mpr k2
      have e2'' : (p.f1.length == p.f0.length) = false := beq_eq_false_iff_ne.mpr k2
      have K2 := zA k2
      clear k2
      have RR := zA (show readF ps (n + 1) at_ = none from by rw [readF, HP.out]; exact if_neg (fun z => K2.out z.2.1))
      go_wp2
      go_ret2
      exact (show Post95 (n + 1) w (readF ps (n + 1) at_) _ _ from (by rw [RR.out]; exact ⟨by first | rfl | (simp <;> rfl), HB.out⟩))
    ·have e1 : decide ((4 : Int) < (p.f0.length : Int)) = true := decide_eq_true (by omega)
     have e1' : decide (4 < p.f0.length) = true := decide_eq_true (by omega)
     have K1 := zA k1
     clear k1
     have RR := zA (show readF ps (n + 1) at_ = none from by rw [readF, HP.out]; exact if_neg (fun z => K1.out z.1))
     go_wp2
     go_ret2
     exact (show Post95 (n + 1) w (readF ps (n + 1) at_) _ _ from (by rw [RR.out]; exact ⟨by first | rfl | (simp <;> rfl), HB.out⟩))
  ·have b1 : decide ((ps.length : Int) ≤ (at_ : Int)) = true := decide_eq_true (by omega)
   have R := zA (show readF ps (n + 1) at_ = none by unfold readF; rw [List.getElem?_eq_none (by omega)])
   go_enter Try.func54, Try.ntmps54
   go_wp2_with (first | ((with_reducible refine gate_dst (N := 3) rfl ?_); refine box_event ?hg (N := 3) ?hd (cs := #[.slice A ps.length c]) (t := 30) ?hr ?_; (case hd => rfl); (case hg => rfl); (case hr => first | (go_simp; done) | (go_simp; rfl)); intro gb3 hg w3 hbox hb; have n0_ := zA (zAD HB.out hb); have BK3 := zA hbox; have GW3 := zA (by rw [hg]; exact Nat.le_refl _ : w.heap.size ≤ gb3); clear HB; have HB := n0_; clear n0_ hb hbox hg; have hx3 : w3.cell? ⟨gb3, 0, none⟩ = some (.slice A ps.length c) := (zP BK3.out 0).trans rfl))
   go_ret2
   exact (show Post95 (n + 1) w (readF ps (n + 1) at_) _ _ from (by rw [R.out]; exact ⟨by first | rfl | (simp <;> rfl), HB.out⟩))
end Go.Proofs.Ytnplghcbdaiogaa.QX
end
section
namespace Go.Proofs.Ytnplghcbdaiogaa.QC
open Go.RowKit Go.Proofs.YtnplghcbdaiogaaW.PrintWords Go.Proofs.YtnplghcbdaiogaaW.PrintLast Go.Proofs.YtnplghcbdaiogaaW.PrintMore Go.Proofs.Ytnplghcbdaiogaa.PB Go.Proofs.Ytnplghcbdaiogaa.PW Go.Proofs.Ytnplghcbdaiogaa.QW Go.Proofs.Ytnplghcbdaiogaa.PA Go.Proofs.Ytnplghcbdaiogaa.QP Go.Proofs.Ytnplghcbdaiogaa.QO Go.Proofs.Ytnplghcbdaiogaa.QQ Go.Proofs.Ytnplghcbdaiogaa.QZ Go.Proofs.Ytnplghcbdaiogaa.QX
attribute [local go_sem] max2_int min2_int max_two min_two max_three min_three max_four min_four
set_option linter.unusedVariables false
set_option linter.unusedSimpArgs false
set_option maxHeartbeats 4000000
set_option maxRecDepth 100000
def PostOf (w : World) (R : Option T) (e : Ending) (w' : World) : Prop := match R with
 | none => e = .returned (.tuple #[.pointer none, .bool false]) ∧ Below w.heap.size w w'
 | some t => ∃ x : S95, e = .returned (.tuple #[.pointer (some ⟨x.adr, 0, none⟩), .bool true]) ∧ er95 x = t ∧ k95p.M w' w.heap.size (fun _ => True) x [.pointer (some ⟨x.adr, 0, none⟩)] ∧ Below w.heap.size w w'
def okAt (K V : List ByteArray) (i : Nat) : Prop := (keyB (tx K i) && valB (tx V i)) = true ∧ risesAt K i
theorem ok_all (K V : List ByteArray) (hl : V.length = K.length) (h40 : K.length ≤ 40) (h : ∀ i, i < K.length → okAt K V i) : pairsB K V = true := by
 refine (pairs_iff K V).2 ⟨h40, fun i hi => ?_, (all_at V valB).2 (fun i hi => ?_)⟩
 ·have := (h i hi).1
  rw [Bool.and_eq_true] at this
  exact ⟨this.1, (h i hi).2⟩
 ·have := (h i (by omega)).1
  rw [Bool.and_eq_true] at this
  exact this.2
theorem ok_of (K V : List ByteArray) (hl : V.length = K.length) (h : pairsB K V = true) (i : Nat) (hi : i < K.length) : okAt K V i := by
 obtain ⟨h1, h2, h3⟩ := (pairs_iff K V).1 h
 refine ⟨?_, (h2 i hi).2⟩
 rw [Bool.and_eq_true]
 exact ⟨(h2 i hi).1, (all_at V valB).1 h3 i (by omega)⟩
theorem ofS (ps : List S97) (hG : Sml ps) (A : Option Addr) (c : Nat) (hc : ps.length ≤ c) (w : World) (hC : Kd.C k97 w A ps.length ps) :
  Calls Try.prog 23 #[.agg #[.slice A ps.length c]] w fun e w' => PostOf w (treeG ps 10) e w' := by
 have HG := zA hG
 have HC := zA hC
 have HLC := zA hc
 have HB := zA (Below.refl w.heap.size w)
 have hu30 := Try.underlying30
 have hu95 := Try.underlying95
 clear hG hC hc
 cases hR : readF ps 10 0 with
 | none =>
  have HR := zA hR
  have RR := zA (show treeG ps 10 = none by unfold treeG; rw [hR])
  have b1 : ((-1 : Int) != (ps.length : Int)) = true := bne_iff_ne.mpr (by omega)
  have b2 : ((-1 : Int) == (ps.length : Int)) = false := beq_eq_false_iff_ne.mpr (by omega)
  clear hR
  go_enter Try.func23, Try.ntmps23
  go_wp2_with (first | ((with_reducible refine gate_dst (N := 1) rfl ?_); refine box_event ?hg (N := 1) ?hd (cs := #[.slice A ps.length c]) (t := 30) ?hr ?_; (case hd => rfl); (case hg => rfl); (case hr => first | (go_simp; done) | (go_simp; rfl)); intro gb1 hg w3 hbox hb; have n0_ := zA (zAD HB.out hb); have BK1 := zA hbox; have GW1 := zA (by rw [hg]; exact Nat.le_refl _ : w.heap.size ≤ gb1); clear HB; have HB := n0_; clear n0_ hb hbox hg; have hx1 : w3.cell? ⟨gb1, 0, none⟩ = some (.slice A ps.length c) := (zP BK1.out 0).trans rfl; have hI := readS ps HG.out A c HLC.out 10 0 1 w3 (by rfl) (by omega) (Kd.C_below HC.out HB.out); rw [HR.out] at hI) | ((with_reducible refine gate_callee (f := 54) rfl ?_); refine goesL_ (some 12) rfl rfl Try.func54 (by kernel_rfl) rfl #[.agg #[.slice A ps.length c], .int .i64 ((0 : Nat) : Int), .int .i64 1] rfl (by (try simp only [zAA, zAB, zAC]); first | done | rfl) ?_; refine hI.mono ?_; clear hI;  rintro e w4 ⟨rfl, hb⟩; refine ⟨_, rfl, ?_⟩; have n0_ := zA (zAD HB.out hb); have n1_ := zA (blk_below BK1.out hb); clear HB BK1 hb hx1; have HB := n0_; have BK1 := n1_; clear n0_ n1_; have hx2 : w4.cell? ⟨gb1, 0, none⟩ = some (.slice A ps.length c) := (zP BK1.out 0).trans rfl))
  go_ret2
  exact (show PostOf w (treeG ps 10) _ _ from (by rw [RR.out]; exact ⟨by first | rfl | (simp <;> rfl), by repeat (first | exact HB.out | apply zF)⟩))
 | some tn =>
  obtain ⟨t, nx⟩ := tn
  have HR := zA hR
  by_cases hn : nx = ps.length
  ·have b1 : ((nx : Int) != (ps.length : Int)) = false := bne_eq_false_iff_eq.mpr (by omega)
   have b2 : ((nx : Int) == (ps.length : Int)) = true := beq_iff_eq.mpr (by omega)
   have b3 : (nx != ps.length) = false := bne_eq_false_iff_eq.mpr hn
   have b4 : (nx == ps.length) = true := beq_iff_eq.mpr hn
   have b5 : decide ((nx : Int) < 0) = false := decide_eq_false (by omega)
   have HN := zA hn
   obtain ⟨hok, hh⟩ := readF_ok ps _ _ _ _ hR
   have hcnt := readF_cnt ps _ _ _ _ hR
   have HOK := zA hok
   have HH := zA hh
   have hlen := hok
   have HKV := zA (kv_len t hok)
   obtain ⟨K, hK⟩ : ∃ q, q = keysT t := ⟨_, rfl⟩
   obtain ⟨V, hV⟩ : ∃ q, q = valsT t := ⟨_, rfl⟩
   have HNK := zA (show K.length < 8796093022208 from by have := HG.out.1; rw [hK]; omega)
   have HNV := zA (show V.length = K.length from by rw [hK, hV]; exact HKV.out.symm)
   have HEK := zA hK
   have HEV := zA hV
   clear hn hR hok hh hcnt hK hV hlen
   go_enter Try.func23, Try.ntmps23
   go_wp2_with (first | ((with_reducible refine gate_dst (N := 1) rfl ?_); refine box_event ?hg (N := 1) ?hd (cs := #[.slice A ps.length c]) (t := 30) ?hr ?_; (case hd => rfl); (case hg => rfl); (case hr => first | (go_simp; done) | (go_simp; rfl)); intro gb1 hg w3 hbox hb; have n0_ := zA (zAD HB.out hb); have BK1 := zA hbox; have GW1 := zA (by rw [hg]; exact Nat.le_refl _ : w.heap.size ≤ gb1); clear HB; have HB := n0_; clear n0_ hb hbox hg; have hx1 : w3.cell? ⟨gb1, 0, none⟩ = some (.slice A ps.length c) := (zP BK1.out 0).trans rfl; have hI := readS ps HG.out A c HLC.out 10 0 1 w3 (by rfl) (by omega) (Kd.C_below HC.out HB.out); rw [HR.out] at hI) | ((with_reducible refine gate_callee (f := 54) rfl ?_); refine goesL_ (some 12) rfl rfl Try.func54 (by kernel_rfl) rfl #[.agg #[.slice A ps.length c], .int .i64 ((0 : Nat) : Int), .int .i64 1] rfl (by (try simp only [zAA, zAB, zAC]); first | done | rfl) ?_; refine hI.mono ?_; clear hI;  rintro e w4 ⟨x, rfl, hx, hM, hb⟩; refine ⟨_, rfl, ?_⟩; have n0_ := zA (zAD HB.out hb); have n1_ := zA (blk_below BK1.out hb); have HXE := zA hx; have n2_ := zA (k95p.M_lower (zAE HB.out) hM); clear HB BK1 hb hx1 hx hM; have HB := n0_; have BK1 := n1_; have HM := n2_; clear n0_ n1_ n2_; have hx2 : w4.cell? ⟨gb1, 0, none⟩ = some (.slice A ps.length c) := (zP BK1.out 0).trans rfl; obtain ⟨k, hall⟩ := Ev.rounds (allS x (by rw [HXE.out]; exact HOK.out) [] [] (by rw [HXE.out, ← HEK.out]; have := HNK.out; simp only [List.length_nil]; omega) (by rw [HXE.out, ← HEV.out, HNV.out]; have := HNK.out; simp only [List.length_nil]; omega)); rw [HXE.out, ← HEK.out, ← HEV.out, List.nil_append, List.nil_append] at hall; have HALL := zA hall; clear hall) | ((with_reducible refine gate_callee (f := 55) rfl ?_); refine goesL_ (some 26) rfl rfl Try.func55 (by kernel_rfl) rfl #[.pointer (some ⟨x.adr, 0, none⟩), .slice none 0 0, .slice none 0 0] rfl (by (try simp only [zAA, zAB, zAC]); first | done | rfl) ?_; refine (spec_l5T_all.calls k x (fun _ => False) (.slice none 0 0) [] (fun _ => False) (.slice none 0 0) [] K V w4 w4 (Below.refl _ _) (k95p.K_of_M HM.out) (Kd.R_nil _ _ _ _ _) (fun _ h => h.elim) (Kd.R_nil _ _ _ _ _) (fun _ h => h.elim) HALL.out).mono ?_; rintro e w5 ⟨vK, vV, rfl, hRK, hRV, hb, hkp⟩; clear hkp; refine ⟨_, rfl, ?_⟩; obtain ⟨AK, cK, eo, hlK, hCK⟩ := Kd.R_reads hRK; subst eo; obtain ⟨AV, cV, eo, hlV, hCV⟩ := Kd.R_reads hRV; subst eo; have n0_ := zA (zAD HB.out hb); have n2_ := zA (k95p.M_below HM.out hb); have HCK := zA hCK; have HCV := zA hCV; clear HB BK1 hb hx2 HM hRK hRV hCK hCV hlK hlV; have HB := n0_; have HM := n2_; clear n0_ n2_))
   go_loopg [31] (K.length + 1) (fun kq v31 w' => ∃ (z : Int) (i : Nat), v31 = .int .i64 z ∧ Aside0 (z = (i : Int)) ∧ Aside0 (kq + i = K.length + 1) ∧ Aside0 (i ≤ K.length) ∧ Aside0 (∀ j, j < i → okAt K V j) ∧ ∃ m, w' = w5.drewN m)
   case atStart => exact ⟨0, 0, rfl, ⟨rfl⟩, ⟨by omega⟩, ⟨by omega⟩, ⟨fun j h => by omega⟩, 0, rfl⟩
   case round =>
    (try clear b1); (try clear b2); (try clear b3); (try clear b4); (try clear b5)
    obtain ⟨z, i, rfl, HZ, HK, HI, HJ, m, rfl⟩ := hrel
    by_cases hi : i < K.length
    ·obtain ⟨g1, rfl⟩ : ∃ g1, gk = g1 + 1 := ⟨gk - 1, by have := HK.out; omega⟩
     have hz := HZ.out
     have hvl := HNV.out
     have q1 : (z < (K.length : Int)) = True := eq_true (by omega)
     have q2 : (z < (V.length : Int)) = True := eq_true (by omega)
     have q3 : decide (z < (K.length : Int)) = true := decide_eq_true (by omega)
     have q4 : decide (z < (V.length : Int)) = true := decide_eq_true (by omega)
     have q5 : (0 ≤ z) = True := eq_true (by omega)
     have q6 : decide (0 ≤ z) = true := decide_eq_true (by omega)
     obtain ⟨adk, ek, hk0⟩ := Kd.at_string HCK.out z (by omega) (by omega)
     obtain ⟨adv, ev, hv0⟩ := Kd.at_string HCV.out z (by omega) (by omega)
     subst ek
     subst ev
     rw [show rdOf ByteArray.empty K z = tx K i from by rw [hz]] at hk0
     rw [show rdOf ByteArray.empty V z = tx V i from by rw [hz]] at hv0
     have hw1 : wrap64 (z + 1) = ((i + 1 : Nat) : Int) := by have := HNK.out; unfold wrap64; omega
     have HZ1 := zA hw1
     clear hw1
     obtain ⟨s, hs⟩ : ∃ q, q = tx K i := ⟨_, rfl⟩
     obtain ⟨v, hv⟩ : ∃ q, q = tx V i := ⟨_, rfl⟩
     rw [← hs] at hk0
     rw [← hv] at hv0
     obtain ⟨r, hr⟩ : ∃ q, q = (keyB s && valB v) := ⟨_, rfl⟩
     have HP := zA (show spec_l5Pair.f s v = some r from by rw [hr]; exact pairS s v)
     have HS := zA hs
     have HV := zA hv
     have HRB := zA hr
     clear hs hv hr
     cases r with
     | false =>
      have HNO := zA (show pairsB K V = false from Bool.eq_false_iff.2 (fun h => by
       have := (ok_of K V HNV.out h i hi).1
       rw [← HS.out, ← HV.out, ← HRB.out] at this; cases this))
      have RR := zA (show treeG ps 10 = none by
       unfold treeG; rw [HR.out]; refine if_neg (fun q => ?_)
       have := q.2
       unfold goodB at this
       rw [← HEK.out, ← HEV.out, HNO.out, Bool.false_and] at this; cases this)
      clear hz hvl hi
      go_wp2_with (first | ((with_reducible refine gate_callee (f := 31) rfl ?_); (try (refine gate_guard (by rfl) ?_; dsimp only)); refine goesL_ (some 41) rfl rfl Try.func31 (by kernel_rfl) rfl #[.string s, .string v] rfl (by (try simp only [zAA, zAB, zAC]); first | done | rfl) ?_; refine (spec_l5Pair.calls s v _ _ HP.out).mono ?_; rintro e w8 ⟨rfl, m8, hw⟩; rw [hw]; clear hw w8; refine ⟨_, rfl, ?_⟩))
      go_ret2
      exact (show PostOf w (treeG ps 10) _ _ from (by rw [RR.out]; exact ⟨by first | rfl | (simp <;> rfl), by repeat (first | exact HB.out | apply zF)⟩))
     | true =>
      by_cases hp : 0 < i
      ·have q7 : decide (0 < z) = true := decide_eq_true (by omega)
       have q8 : (0 < z) = True := eq_true (by omega)
       have hw3 : wrap64 (z - 1) = z - 1 := by have := HNK.out; unfold wrap64; omega
       obtain ⟨zp, hzp⟩ : ∃ q, q = wrap64 (z - 1) := ⟨_, rfl⟩
       have hzq : zp = z - 1 := hzp.trans hw3
       have hw4 := hzp.symm
       clear hw3 hzp
       have q9 : (zp < (K.length : Int)) = True := eq_true (by omega)
       have q10 : decide (zp < (K.length : Int)) = true := decide_eq_true (by omega)
       have q11 : (0 ≤ zp) = True := eq_true (by omega)
       have q12 : decide (0 ≤ zp) = true := decide_eq_true (by omega)
       obtain ⟨adp, ep, hp0⟩ := Kd.at_string HCK.out zp (by omega) (by omega)
       injection ep with ep
       subst ep
       rw [show rdOf ByteArray.empty K zp = tx K (i - 1) from by rw [show zp = ((i - 1 : Nat) : Int) by omega]] at hp0
       obtain ⟨pv, hpv⟩ : ∃ q, q = tx K (i - 1) := ⟨_, rfl⟩
       rw [← hpv] at hp0
       have HPV := zA hpv
       have HPI := zA hp
       have HIK := zA hi
       clear hpv hz hvl hi hp hzq
       cases hbl : Op.bytesLess pv.toList s.toList with
       | true =>
        have HBL := zA hbl
        go_wp2_with (first | ((with_reducible refine gate_callee (f := 31) rfl ?_); (try (refine gate_guard (by rfl) ?_; dsimp only)); refine goesL_ (some 41) rfl rfl Try.func31 (by kernel_rfl) rfl #[.string s, .string v] rfl (by (try simp only [zAA, zAB, zAC]); first | done | rfl) ?_; refine (spec_l5Pair.calls s v _ _ HP.out).mono ?_; rintro e w8 ⟨rfl, m8, hw⟩; rw [hw]; clear hw w8; refine ⟨_, rfl, ?_⟩))
        go_roundg g1
        case measure => omega
        case rel => exact ⟨wrap64 (z + 1), i + 1, rfl, HZ1, ⟨by have := HK.out; omega⟩, ⟨by have := HIK.out; omega⟩, ⟨fun j h => by
         by_cases e : j = i
         ·subst e
          exact ⟨by rw [← HS.out, ← HV.out]; exact HRB.out.symm, fun _ => by rw [← HPV.out, ← HS.out]; exact HBL.out⟩
         ·exact HJ.out j (by omega)⟩, _, by first | rfl | rw [World.drewN_drewN]⟩
       | false =>
        have HNO := zA (show pairsB K V = false from Bool.eq_false_iff.2 (fun h => by
         have := (ok_of K V HNV.out h i HIK.out).2 HPI.out
         rw [← HPV.out, ← HS.out, hbl] at this; cases this))
        have RR := zA (show treeG ps 10 = none by
         unfold treeG; rw [HR.out]; refine if_neg (fun q => ?_)
         have := q.2
         unfold goodB at this
         rw [← HEK.out, ← HEV.out, HNO.out, Bool.false_and] at this; cases this)
        go_wp2_with (first | ((with_reducible refine gate_callee (f := 31) rfl ?_); (try (refine gate_guard (by rfl) ?_; dsimp only)); refine goesL_ (some 41) rfl rfl Try.func31 (by kernel_rfl) rfl #[.string s, .string v] rfl (by (try simp only [zAA, zAB, zAC]); first | done | rfl) ?_; refine (spec_l5Pair.calls s v _ _ HP.out).mono ?_; rintro e w8 ⟨rfl, m8, hw⟩; rw [hw]; clear hw w8; refine ⟨_, rfl, ?_⟩))
        go_ret2
        exact (show PostOf w (treeG ps 10) _ _ from (by rw [RR.out]; exact ⟨by first | rfl | (simp <;> rfl), by repeat (first | exact HB.out | apply zF)⟩))
      ·have q7 : decide (0 < z) = false := decide_eq_false (by omega)
       have HPI := zA hp
       have HIK := zA hi
       clear hz hvl hi hp
       go_wp2_with (first | ((with_reducible refine gate_callee (f := 31) rfl ?_); (try (refine gate_guard (by rfl) ?_; dsimp only)); refine goesL_ (some 41) rfl rfl Try.func31 (by kernel_rfl) rfl #[.string s, .string v] rfl (by (try simp only [zAA, zAB, zAC]); first | done | rfl) ?_; refine (spec_l5Pair.calls s v _ _ HP.out).mono ?_; rintro e w8 ⟨rfl, m8, hw⟩; rw [hw]; clear hw w8; refine ⟨_, rfl, ?_⟩))
       go_roundg g1
       case measure => omega
       case rel => exact ⟨wrap64 (z + 1), i + 1, rfl, HZ1, ⟨by have := HK.out; omega⟩, ⟨by have := HIK.out; omega⟩, ⟨fun j h => by
        by_cases e : j = i
        ·subst e
         exact ⟨by rw [← HS.out, ← HV.out]; exact HRB.out.symm, fun h => absurd h HPI.out⟩
        ·exact HJ.out j (by omega)⟩, _, by first | rfl | rw [World.drewN_drewN]⟩
    ·have hz := HZ.out
     have q3 : decide (z < (K.length : Int)) = false := decide_eq_false (by omega)
     have hik : i = K.length := by have := HI.out; omega
     have HALLJ := zA (show ∀ j, j < K.length → okAt K V j from fun j h => HJ.out j (by omega))
     obtain ⟨e0, e1, e2⟩ := er95_f x
     rw [HXE.out] at e0 e1 e2
     obtain ⟨An0, cn0, An1, cn1, An2, cn2, hc0, hc1, hc2, _, _, _, _, _, _⟩ := at_P95 (k95p.K_of_M HM.out)
     obtain ⟨k2, hev⟩ := Ev.rounds (evenS x (by rw [HXE.out]; have := HH.out; omega) (by rw [HXE.out]; exact HOK.out))
     rw [HXE.out] at hev
     have hlf : spec_l5T_leaf.f x = some ((x.f2.length : Int) == 0) := rfl
     have HLF := zA hlf
     have HE0 := zA e0
     have HE2 := zA e2
     clear hz hi hik HZ hlf e0 e1 e2 hc1 hc2
     cases hl : levT t with
     | none =>
      rw [hl] at hev
      have HEV2 := zA hev
      have RR := zA (show treeG ps 10 = none by
       unfold treeG; rw [HR.out]; refine if_neg (fun q => ?_)
       have := q.2
       unfold goodB at this
       rw [hl, Bool.and_eq_true, Bool.and_eq_true] at this
       exact absurd this.2.1 (by simp))
      clear hev hl
      go_wp2_with (first | ((with_reducible refine gate_callee (f := 56) rfl ?_); (try (refine gate_guard (by rfl) ?_; dsimp only)); refine goesL_ (some 58) rfl rfl Try.func56 (by kernel_rfl) rfl #[.pointer (some ⟨x.adr, 0, none⟩)] rfl (by (try simp only [zAA, zAB, zAC]); first | done | rfl) ?_; refine (spec_l5T_even.calls k2 x (-1) _ (k95p_drewN (k95p.K_of_M HM.out) m) HEV2.out).mono ?_; rintro e w8 ⟨rfl, m8, hw⟩; rw [hw]; clear hw w8; refine ⟨_, rfl, ?_⟩))
      go_ret2
      exact (show PostOf w (treeG ps 10) _ _ from (by rw [RR.out]; exact ⟨by first | rfl | (simp <;> rfl), by repeat (first | exact HB.out | apply zF)⟩))
     | some d =>
      rw [hl] at hev
      have HEV2 := zA (show spec_l5T_even.f k2 x = some (d : Int) from hev)
      have HLV := zA hl
      have b1 : decide ((d : Int) < 0) = false := decide_eq_false (by omega)
      clear hev hl
      by_cases cz : x.f2.length = 0
      ·have HF := zA (show spec_l5T_leaf.f x = some true from by rw [HLF.out, cz]; rfl)
       have HCZ := zA cz
       clear cz
       by_cases h40 : K.length ≤ 40
       ·have p1 : decide ((40 : Int) < (K.length : Int)) = false := decide_eq_false (by omega)
        have p2 : decide (40 < K.length) = false := decide_eq_false (by omega)
        have H40 := zA h40
        clear h40
        have RR := zA (show treeG ps 10 = some t by
         unfold treeG; rw [HR.out]; refine if_pos ⟨HN.out, ?_⟩
         have hp := ok_all K V HNV.out H40.out HALLJ.out
         rw [HEK.out, HEV.out] at hp
         unfold goodB
         rw [hp, HLV.out, Bool.true_and]
         show (true && _) = true
         rw [Bool.true_and]
         rw [HE2.out, List.eq_nil_of_length_eq_zero HCZ.out]; rfl)
        go_wp2_with (first | ((with_reducible refine gate_callee (f := 56) rfl ?_); (try (refine gate_guard (by rfl) ?_; dsimp only)); refine goesL_ (some 58) rfl rfl Try.func56 (by kernel_rfl) rfl #[.pointer (some ⟨x.adr, 0, none⟩)] rfl (by (try simp only [zAA, zAB, zAC]); first | done | rfl) ?_; refine (spec_l5T_even.calls k2 x (d : Int) _ (by repeat (first | exact k95p.K_of_M HM.out | apply k95p_drewN)) HEV2.out).mono ?_; rintro e w8 ⟨rfl, m8, hw⟩; rw [hw]; clear hw w8; refine ⟨_, rfl, ?_⟩) | ((with_reducible refine gate_callee (f := 57) rfl ?_); (try (refine gate_guard (by rfl) ?_; dsimp only)); refine goesL_ (some 62) rfl rfl Try.func57 (by kernel_rfl) rfl #[.pointer (some ⟨x.adr, 0, none⟩)] rfl (by (try simp only [zAA, zAB, zAC]); first | done | rfl) ?_; refine (spec_l5T_leaf.calls x true _ (by repeat (first | exact k95p.K_of_M HM.out | apply k95p_drewN)) HF.out).mono ?_; rintro e w8 ⟨rfl, m9, hw⟩; rw [hw]; clear hw w8; refine ⟨_, rfl, ?_⟩))
        go_ret2
        exact (show PostOf w (treeG ps 10) _ _ from (by rw [RR.out]; exact ⟨x, by first | rfl | (simp <;> rfl), HXE.out, k95p.M_below HM.out (by repeat (first | exact Below.refl _ _ | apply pw_below_drewN)), by repeat (first | exact HB.out | apply zF)⟩))
       ·have p1 : decide ((40 : Int) < (K.length : Int)) = true := decide_eq_true (by omega)
        have p2 : decide (40 < K.length) = true := decide_eq_true (by omega)
        have H40 := zA h40
        clear h40
        have RR := zA (show treeG ps 10 = none by
         unfold treeG; rw [HR.out]; refine if_neg (fun q => ?_)
         have := q.2
         unfold goodB at this
         rw [← HEK.out, ← HEV.out, Bool.and_eq_true] at this
         exact H40.out ((pairs_iff K V).1 this.1).1)
        go_wp2_with (first | ((with_reducible refine gate_callee (f := 56) rfl ?_); (try (refine gate_guard (by rfl) ?_; dsimp only)); refine goesL_ (some 58) rfl rfl Try.func56 (by kernel_rfl) rfl #[.pointer (some ⟨x.adr, 0, none⟩)] rfl (by (try simp only [zAA, zAB, zAC]); first | done | rfl) ?_; refine (spec_l5T_even.calls k2 x (d : Int) _ (by repeat (first | exact k95p.K_of_M HM.out | apply k95p_drewN)) HEV2.out).mono ?_; rintro e w8 ⟨rfl, m8, hw⟩; rw [hw]; clear hw w8; refine ⟨_, rfl, ?_⟩) | ((with_reducible refine gate_callee (f := 57) rfl ?_); (try (refine gate_guard (by rfl) ?_; dsimp only)); refine goesL_ (some 62) rfl rfl Try.func57 (by kernel_rfl) rfl #[.pointer (some ⟨x.adr, 0, none⟩)] rfl (by (try simp only [zAA, zAB, zAC]); first | done | rfl) ?_; refine (spec_l5T_leaf.calls x true _ (by repeat (first | exact k95p.K_of_M HM.out | apply k95p_drewN)) HF.out).mono ?_; rintro e w8 ⟨rfl, m9, hw⟩; rw [hw]; clear hw w8; refine ⟨_, rfl, ?_⟩))
        go_ret2
        exact (show PostOf w (treeG ps 10) _ _ from (by rw [RR.out]; exact ⟨by first | rfl | (simp <;> rfl), by repeat (first | exact HB.out | apply zF)⟩))
      ·have HF := zA (show spec_l5T_leaf.f x = some false from by rw [HLF.out, beq_eq_false_iff_ne.2 (by omega)])
       have HCZ := zA cz
       clear cz
       by_cases ck : x.f0.length = 0
       ·have p3 : ((x.f0.length : Int) == 0) = true := beq_iff_eq.mpr (by omega)
        have p4 : decide (x.f0.length = 0) = true := decide_eq_true ck
        have p5 : (x.f0.length == 0) = true := beq_iff_eq.mpr ck
        have HCK0 := zA ck
        clear ck
        have RR := zA (show treeG ps 10 = none by
         unfold treeG; rw [HR.out]; refine if_neg (fun q => ?_)
         have := q.2
         unfold goodB at this
         rw [Bool.and_eq_true, Bool.and_eq_true, HE0.out, HE2.out, HCK0.out] at this
         have h2 := this.2.2
         rw [show decide (0 < 0) = false from rfl, Bool.or_false, List.isEmpty_iff, List.map_eq_nil_iff] at h2
         exact HCZ.out (by rw [h2]; rfl))
        go_wp2_with (first | ((with_reducible refine gate_callee (f := 56) rfl ?_); (try (refine gate_guard (by rfl) ?_; dsimp only)); refine goesL_ (some 58) rfl rfl Try.func56 (by kernel_rfl) rfl #[.pointer (some ⟨x.adr, 0, none⟩)] rfl (by (try simp only [zAA, zAB, zAC]); first | done | rfl) ?_; refine (spec_l5T_even.calls k2 x (d : Int) _ (by repeat (first | exact k95p.K_of_M HM.out | apply k95p_drewN)) HEV2.out).mono ?_; rintro e w8 ⟨rfl, m8, hw⟩; rw [hw]; clear hw w8; refine ⟨_, rfl, ?_⟩) | ((with_reducible refine gate_callee (f := 57) rfl ?_); (try (refine gate_guard (by rfl) ?_; dsimp only)); refine goesL_ (some 62) rfl rfl Try.func57 (by kernel_rfl) rfl #[.pointer (some ⟨x.adr, 0, none⟩)] rfl (by (try simp only [zAA, zAB, zAC]); first | done | rfl) ?_; refine (spec_l5T_leaf.calls x false _ (by repeat (first | exact k95p.K_of_M HM.out | apply k95p_drewN)) HF.out).mono ?_; rintro e w8 ⟨rfl, m9, hw⟩; rw [hw]; clear hw w8; refine ⟨_, rfl, ?_⟩))
        go_ret2
        exact (show PostOf w (treeG ps 10) _ _ from (by rw [RR.out]; exact ⟨by first | rfl | (simp <;> rfl), by repeat (first | exact HB.out | apply zF)⟩))
       ·have p3 : ((x.f0.length : Int) == 0) = false := beq_eq_false_iff_ne.2 (by omega)
        have p4 : decide (x.f0.length = 0) = false := decide_eq_false ck
        have p5 : (x.f0.length == 0) = false := beq_eq_false_iff_ne.2 ck
        have HCK0 := zA ck
        clear ck
        by_cases h40 : K.length ≤ 40
        ·have p1 : decide ((40 : Int) < (K.length : Int)) = false := decide_eq_false (by omega)
         have p2 : decide (40 < K.length) = false := decide_eq_false (by omega)
         have H40 := zA h40
         clear h40
         have RR := zA (show treeG ps 10 = some t by
          unfold treeG; rw [HR.out]; refine if_pos ⟨HN.out, ?_⟩
          have hp := ok_all K V HNV.out H40.out HALLJ.out
          rw [HEK.out, HEV.out] at hp
          unfold goodB
          rw [hp, HLV.out, Bool.true_and]
          show (true && _) = true
          rw [Bool.true_and]
          rw [HE0.out, decide_eq_true (by have := HCK0.out; omega : 0 < x.f0.length), Bool.or_true])
         go_wp2_with (first | ((with_reducible refine gate_callee (f := 56) rfl ?_); (try (refine gate_guard (by rfl) ?_; dsimp only)); refine goesL_ (some 58) rfl rfl Try.func56 (by kernel_rfl) rfl #[.pointer (some ⟨x.adr, 0, none⟩)] rfl (by (try simp only [zAA, zAB, zAC]); first | done | rfl) ?_; refine (spec_l5T_even.calls k2 x (d : Int) _ (by repeat (first | exact k95p.K_of_M HM.out | apply k95p_drewN)) HEV2.out).mono ?_; rintro e w8 ⟨rfl, m8, hw⟩; rw [hw]; clear hw w8; refine ⟨_, rfl, ?_⟩) | ((with_reducible refine gate_callee (f := 57) rfl ?_); (try (refine gate_guard (by rfl) ?_; dsimp only)); refine goesL_ (some 62) rfl rfl Try.func57 (by kernel_rfl) rfl #[.pointer (some ⟨x.adr, 0, none⟩)] rfl (by (try simp only [zAA, zAB, zAC]); first | done | rfl) ?_; refine (spec_l5T_leaf.calls x false _ (by repeat (first | exact k95p.K_of_M HM.out | apply k95p_drewN)) HF.out).mono ?_; rintro e w8 ⟨rfl, m9, hw⟩; rw [hw]; clear hw w8; refine ⟨_, rfl, ?_⟩))
         go_ret2
         exact (show PostOf w (treeG ps 10) _ _ from (by rw [RR.out]; exact ⟨x, by first | rfl | (simp <;> rfl), HXE.out, k95p.M_below HM.out (by repeat (first | exact Below.refl _ _ | apply pw_below_drewN)), by repeat (first | exact HB.out | apply zF)⟩))
        ·have p1 : decide ((40 : Int) < (K.length : Int)) = true := decide_eq_true (by omega)
         have p2 : decide (40 < K.length) = true := decide_eq_true (by omega)
         have H40 := zA h40
         clear h40
         have RR := zA (show treeG ps 10 = none by
          unfold treeG; rw [HR.out]; refine if_neg (fun q => ?_)
          have := q.2
          unfold goodB at this
          rw [← HEK.out, ← HEV.out, Bool.and_eq_true] at this
          exact H40.out ((pairs_iff K V).1 this.1).1)
         go_wp2_with (first | ((with_reducible refine gate_callee (f := 56) rfl ?_); (try (refine gate_guard (by rfl) ?_; dsimp only)); refine goesL_ (some 58) rfl rfl Try.func56 (by kernel_rfl) rfl #[.pointer (some ⟨x.adr, 0, none⟩)] rfl (by (try simp only [zAA, zAB, zAC]); first | done | rfl) ?_; refine (spec_l5T_even.calls k2 x (d : Int) _ (by repeat (first | exact k95p.K_of_M HM.out | apply k95p_drewN)) HEV2.out).mono ?_; rintro e w8 ⟨rfl, m8, hw⟩; rw [hw]; clear hw w8; refine ⟨_, rfl, ?_⟩) | ((with_reducible refine gate_callee (f := 57) rfl ?_); (try (refine gate_guard (by rfl) ?_; dsimp only)); refine goesL_ (some 62) rfl rfl Try.func57 (by kernel_rfl) rfl #[.pointer (some ⟨x.adr, 0, none⟩)] rfl (by (try simp only [zAA, zAB, zAC]); first | done | rfl) ?_; refine (spec_l5T_leaf.calls x false _ (by repeat (first | exact k95p.K_of_M HM.out | apply k95p_drewN)) HF.out).mono ?_; rintro e w8 ⟨rfl, m9, hw⟩; rw [hw]; clear hw w8; refine ⟨_, rfl, ?_⟩))
         go_ret2
         exact (show PostOf w (treeG ps 10) _ _ from (by rw [RR.out]; exact ⟨by first | rfl | (simp <;> rfl), by repeat (first | exact HB.out | apply zF)⟩))
  ·have b1 : ((nx : Int) != (ps.length : Int)) = true := bne_iff_ne.mpr (by omega)
   have b2 : ((nx : Int) == (ps.length : Int)) = false := beq_eq_false_iff_ne.mpr (by omega)
   have b3 : (nx != ps.length) = true := bne_iff_ne.mpr hn
   have b4 : (nx == ps.length) = false := beq_eq_false_iff_ne.mpr hn
   have RR := zA (show treeG ps 10 = none by unfold treeG; rw [hR]; exact if_neg (fun q => hn q.1))
   clear hR hn
   go_enter Try.func23, Try.ntmps23
   go_wp2_with (first | ((with_reducible refine gate_dst (N := 1) rfl ?_); refine box_event ?hg (N := 1) ?hd (cs := #[.slice A ps.length c]) (t := 30) ?hr ?_; (case hd => rfl); (case hg => rfl); (case hr => first | (go_simp; done) | (go_simp; rfl)); intro gb1 hg w3 hbox hb; have n0_ := zA (zAD HB.out hb); have BK1 := zA hbox; have GW1 := zA (by rw [hg]; exact Nat.le_refl _ : w.heap.size ≤ gb1); clear HB; have HB := n0_; clear n0_ hb hbox hg; have hx1 : w3.cell? ⟨gb1, 0, none⟩ = some (.slice A ps.length c) := (zP BK1.out 0).trans rfl; have hI := readS ps HG.out A c HLC.out 10 0 1 w3 (by rfl) (by omega) (Kd.C_below HC.out HB.out); rw [HR.out] at hI) | ((with_reducible refine gate_callee (f := 54) rfl ?_); refine goesL_ (some 12) rfl rfl Try.func54 (by kernel_rfl) rfl #[.agg #[.slice A ps.length c], .int .i64 ((0 : Nat) : Int), .int .i64 1] rfl (by (try simp only [zAA, zAB, zAC]); first | done | rfl) ?_; refine hI.mono ?_; clear hI;  rintro e w4 ⟨x, rfl, _, _, hb⟩; refine ⟨_, rfl, ?_⟩; have n0_ := zA (zAD HB.out hb); have n1_ := zA (blk_below BK1.out hb); clear HB BK1 hb hx1; have HB := n0_; have BK1 := n1_; clear n0_ n1_; have hx2 : w4.cell? ⟨gb1, 0, none⟩ = some (.slice A ps.length c) := (zP BK1.out 0).trans rfl))
   go_ret2
   exact (show PostOf w (treeG ps 10) _ _ from (by rw [RR.out]; exact ⟨by first | rfl | (simp <;> rfl), by repeat (first | exact HB.out | apply zF)⟩))
end Go.Proofs.Ytnplghcbdaiogaa.QC
end
section
namespace Go.Proofs.Ytnplghcbdaiogaa.RI
open Go.RowKit Go.Proofs.YtnplghcbdaiogaaW.PrintWords Go.Proofs.YtnplghcbdaiogaaW.PrintLast Go.Proofs.YtnplghcbdaiogaaW.PrintMore Go.Proofs.Ytnplghcbdaiogaa.PB Go.Proofs.Ytnplghcbdaiogaa.PW Go.Proofs.Ytnplghcbdaiogaa.QW Go.Proofs.Ytnplghcbdaiogaa.PA Go.Proofs.Ytnplghcbdaiogaa.QP Go.Proofs.Ytnplghcbdaiogaa.QO Go.Proofs.Ytnplghcbdaiogaa.QQ Go.Proofs.Ytnplghcbdaiogaa.QZ Go.Proofs.Ytnplghcbdaiogaa.QC Go.Proofs.Ytnplghcbdaiogaa.RH
attribute [local go_sem] max2_int min2_int max_two min_two max_three min_three max_four min_four
set_option linter.unusedVariables false
set_option linter.unusedSimpArgs false
set_option maxHeartbeats 4000000
set_option maxRecDepth 100000
theorem sz2 (w : World) (o o' : Obj) : w.heap.size + 2 = ((w.alloc o).alloc o').heap.size := by simp only [World.alloc, Array.size_push]
theorem R_readsM {α : Type} {d : Kd α} {e : Nat} {w : World} {base : Nat} {ok : Nat → Prop} {v : Value} {xs : List α} (h : d.R e w base ok v xs) : ∃ A c, v = .slice A xs.length c ∧ xs.length ≤ c ∧ ReadsRow (d.M w base (fun k => ok k ∧ some k ≠ v.ownBlock)) d.sz w A xs.length xs := OwnRow.reads h.2
theorem R_one {α : Type} {d : Kd α} {W : World} {e base : Nat} {okp : Nat → Prop} {p : α} {cs : List Value} (hM : d.M W base okp p cs) (hl : cs.length = d.sz) (hbase : base ≤ W.heap.size) : d.R e (W.alloc (.cells cs.toArray e)) base (fun _ => True) (.slice (some ⟨W.heap.size, 0, none⟩) 1 1) [p] := by
 have hrep : Reps (d.M W base okp) d.sz [p] cs := by
  have := Reps.snoc (Reps.none (d.M W base okp) d.sz) hM hl
  simpa using this
 refine ⟨fun k hk => trivial, cs, ?_, ?_⟩
 ·have h2 := World.ownsRow_lit (base := base) (e := e) (size := d.sz) W cs.toArray 1 hbase (by decide) (by simpa using hl)
  simpa using h2
 ·refine hrep.imp_ (fun p c hp => d.M_mono (fun k hk => ⟨trivial, fun he => ?_⟩) (Kd.M_below (d.M_bound hp) (below_alloc (Below.refl _ _) _)))
  have h3 : k = W.heap.size := by simpa [Value.ownBlock] using he
  have := hk.2.2.1
  omega
theorem lit43 {w : World} {base : Nat} {ok0 ok1 ok2 : Nat → Prop} {v0 v1 v2 : Value} {p : S43} {o : Obj} (g0 : Kd.string.R 9 w base ok0 v0 p.f0) (g1 : Kd.string.R 9 w base ok1 v1 p.f1) (g2 : Kd.string.R 9 w base ok2 v2 p.f2) (hb : base ≤ w.heap.size) :
  k43.R 43 ((w.alloc o).alloc (.cells #[v0, v1, v2, .int .i64 p.f3] 43)) base (fun _ => True) (.slice (some ⟨w.heap.size + 1, 0, none⟩) 1 1) [p] := by
 have e1 : (w.alloc o).heap.size = w.heap.size + 1 := by simp only [World.alloc, Array.size_push]
 have hB := below_alloc (Below.refl w.heap.size w) o
 have := R_one (d := k43) (W := w.alloc o) (e := 43) (base := base) (okp := fun _ => True) (p := p) (cs := [v0, v1, v2, .int .i64 p.f3]) (k43_mkM _ _ _ p (Kd.R_mono (Kd.R_below g0 hB) (fun _ _ => trivial)) (Kd.R_mono (Kd.R_below g1 hB) (fun _ _ => trivial)) (Kd.R_mono (Kd.R_below g2 hB) (fun _ _ => trivial))) rfl (by omega)
 rw [e1] at this
 exact this
theorem proveS (s : ByteArray) : ∀ (n : Nat) (x : S95) (w : World), n ≤ 10 → hT (er95 x) ≤ n → Fine (er95 x) → k95p.K w x [.pointer (some ⟨x.adr, 0, none⟩)] →
  Calls Try.prog 32 #[.pointer (some ⟨x.adr, 0, none⟩), .string s] w fun e w' => ∃ v, e = .returned v ∧ k43.R 43 w' w.heap.size (fun _ => True) v (wayN s n (er95 x)) ∧ Below w.heap.size w w' := by
 intro n
 induction n with
 | zero => intro x w _ h _ _; rw [hT_eq] at h; omega
 | succ n ih =>
  intro x w hn hh hF hK
  have HK := zA hK
  have HB := zA (Below.refl w.heap.size w)
  have hu95 := Try.underlying95
  have hu43 := Try.underlying43
  obtain ⟨e0, e1, e2⟩ := er95_f x
  obtain ⟨o1, o2, o3, o4⟩ := (okT_eq _).1 hF.1
  obtain ⟨k1, hk1⟩ := Ev.rounds (atS x s (by rw [e0] at o1; exact o1))
  obtain ⟨hs1, _⟩ := shownS x hF.1 hF.2.1
  obtain ⟨k2, hk2⟩ := Ev.rounds hs1
  obtain ⟨C, hC⟩ : ∃ q, q = x.f2.map (fun y => digT (er95 y)) := ⟨_, rfl⟩
  rw [← hC] at hk2
  obtain ⟨i, hi⟩ : ∃ q, q = (lowK s x.f0 : Int) := ⟨_, rfl⟩
  obtain ⟨b, hb⟩ : ∃ q, q = hasK s x.f0 := ⟨_, rfl⟩
  rw [← hi, ← hb] at hk1
  obtain ⟨l, hl⟩ : ∃ q, q = ((x.f2.length : Int) == 0) := ⟨_, rfl⟩
  have HA := zA hk1
  have HSH := zA hk2
  have HL := zA (show spec_l5T_leaf.f x = some l from by rw [hl]; rfl)
  have HP := zA (show pageT s (er95 x) = ⟨x.f0, x.f1, C, i⟩ from by unfold pageT; rw [e0, e1, e2, List.map_map, hC, hi]; rfl)
  clear hk1 hk2 hs1 hK
  cases b with
  | true =>
   have HW := zA (way_stop n (show stopT s (er95 x) = true from by unfold stopT; rw [e0, ← hb]; rfl))
   clear hC hi hb hl
   go_enter Try.func32, Try.ntmps32
   go_wp2_with (first | ((with_reducible refine gate_callee (f := 70) rfl ?_); (try (refine gate_guard (by rfl) ?_; dsimp only)); refine goesL_ (some 12) rfl rfl Try.func70 (by kernel_rfl) rfl #[.pointer (some ⟨x.adr, 0, none⟩), .string s] rfl (by (try simp only [zAA, zAB, zAC]); first | done | rfl) ?_; refine (spec_l5T_at.calls k1 x s i _ _ (by repeat (first | exact HK.out | apply k95p_drewN | apply k95p_drew)) HA.out).mono ?_; rintro e w2 ⟨rfl, m2, hw⟩; rw [hw]; clear hw w2; refine ⟨_, rfl, ?_⟩) | ((with_reducible refine gate_callee (f := 25) rfl ?_); (try (refine gate_guard (by rfl) ?_; dsimp only)); refine goesL_ (some 16) rfl rfl Try.func25 (by kernel_rfl) rfl #[.pointer (some ⟨x.adr, 0, none⟩)] rfl (by (try simp only [zAA, zAB, zAC]); first | done | rfl) ?_; refine (spec_l6Shown.calls k2 x x.f0 x.f1 C 0 _ (by repeat (first | exact HK.out | apply k95p_drewN | apply k95p_drew)) HSH.out).mono ?_; rintro e w5 ⟨v0, v1, v2, rfl, r0, r1, r2, hb⟩; refine ⟨_, rfl, ?_⟩; obtain ⟨A0, c0, rfl⟩ := Kd.R_slice r0; obtain ⟨A1, c1, rfl⟩ := Kd.R_slice r1; obtain ⟨A2, c2, rfl⟩ := Kd.R_slice r2; have n0_ := zA (zAD (by repeat (first | exact HB.out | apply zF | apply zG)) hb : Below w.heap.size w w5); have H0 := zA r0; have H1 := zA r1; have H2 := zA r2; have HK5 := zA (k95p.K_below hb (by repeat (first | exact HK.out | apply k95p_drewN | apply k95p_drew)) : k95p.K w5 x [.pointer (some ⟨x.adr, 0, none⟩)]); clear HB r0 r1 r2 hb; have HB := n0_; clear n0_))
   repeat (go_quiet (fail); try go_wp2_with (first | ((with_reducible refine gate_callee (f := 70) rfl ?_); (try (refine gate_guard (by rfl) ?_; dsimp only)); refine goesL_ (some 12) rfl rfl Try.func70 (by kernel_rfl) rfl #[.pointer (some ⟨x.adr, 0, none⟩), .string s] rfl (by (try simp only [zAA, zAB, zAC]); first | done | rfl) ?_; refine (spec_l5T_at.calls k1 x s i _ _ (by repeat (first | exact HK.out | apply k95p_drewN | apply k95p_drew)) HA.out).mono ?_; rintro e w2 ⟨rfl, m2, hw⟩; rw [hw]; clear hw w2; refine ⟨_, rfl, ?_⟩) | ((with_reducible refine gate_callee (f := 25) rfl ?_); (try (refine gate_guard (by rfl) ?_; dsimp only)); refine goesL_ (some 16) rfl rfl Try.func25 (by kernel_rfl) rfl #[.pointer (some ⟨x.adr, 0, none⟩)] rfl (by (try simp only [zAA, zAB, zAC]); first | done | rfl) ?_; refine (spec_l6Shown.calls k2 x x.f0 x.f1 C 0 _ (by repeat (first | exact HK.out | apply k95p_drewN | apply k95p_drew)) HSH.out).mono ?_; rintro e w5 ⟨v0, v1, v2, rfl, r0, r1, r2, hb⟩; refine ⟨_, rfl, ?_⟩; obtain ⟨A0, c0, rfl⟩ := Kd.R_slice r0; obtain ⟨A1, c1, rfl⟩ := Kd.R_slice r1; obtain ⟨A2, c2, rfl⟩ := Kd.R_slice r2; have n0_ := zA (zAD (by repeat (first | exact HB.out | apply zF | apply zG)) hb : Below w.heap.size w w5); have H0 := zA r0; have H1 := zA r1; have H2 := zA r2; have HK5 := zA (k95p.K_below hb (by repeat (first | exact HK.out | apply k95p_drewN | apply k95p_drew)) : k95p.K w5 x [.pointer (some ⟨x.adr, 0, none⟩)]); clear HB r0 r1 r2 hb; have HB := n0_; clear n0_)))
   go_ret
   exact ⟨.slice (some ⟨w5.heap.size + 1, 0, none⟩) 1 1, by first | rfl | (simp <;> rfl), by (rw [HW.out, HP.out]; repeat (first | exact lit43 (p := ⟨x.f0, x.f1, C, i⟩) (Kd.R_lower H0.out (Nat.le_refl _)) (Kd.R_lower H1.out (Nat.le_refl _)) (Kd.R_lower H2.out (Nat.le_refl _)) (zAE HB.out) | apply zR | apply zS)), by repeat (first | exact HB.out | apply zF | apply zG | apply zH)⟩
  | false =>
   cases l with
   | true =>
    have HW := zA (way_stop n (show stopT s (er95 x) = true from by unfold stopT; rw [e0, ← hb, e2]; have := beq_iff_eq.1 hl.symm; rw [List.eq_nil_of_length_eq_zero (by omega : x.f2.length = 0)]; rfl))
    clear hC hi hb hl
    go_enter Try.func32, Try.ntmps32
    go_wp2_with (first | ((with_reducible refine gate_callee (f := 70) rfl ?_); (try (refine gate_guard (by rfl) ?_; dsimp only)); refine goesL_ (some 12) rfl rfl Try.func70 (by kernel_rfl) rfl #[.pointer (some ⟨x.adr, 0, none⟩), .string s] rfl (by (try simp only [zAA, zAB, zAC]); first | done | rfl) ?_; refine (spec_l5T_at.calls k1 x s i _ _ (by repeat (first | exact HK.out | apply k95p_drewN | apply k95p_drew)) HA.out).mono ?_; rintro e w2 ⟨rfl, m2, hw⟩; rw [hw]; clear hw w2; refine ⟨_, rfl, ?_⟩) | ((with_reducible refine gate_callee (f := 25) rfl ?_); (try (refine gate_guard (by rfl) ?_; dsimp only)); refine goesL_ (some 16) rfl rfl Try.func25 (by kernel_rfl) rfl #[.pointer (some ⟨x.adr, 0, none⟩)] rfl (by (try simp only [zAA, zAB, zAC]); first | done | rfl) ?_; refine (spec_l6Shown.calls k2 x x.f0 x.f1 C 0 _ (by repeat (first | exact HK.out | apply k95p_drewN | apply k95p_drew)) HSH.out).mono ?_; rintro e w5 ⟨v0, v1, v2, rfl, r0, r1, r2, hb⟩; refine ⟨_, rfl, ?_⟩; obtain ⟨A0, c0, rfl⟩ := Kd.R_slice r0; obtain ⟨A1, c1, rfl⟩ := Kd.R_slice r1; obtain ⟨A2, c2, rfl⟩ := Kd.R_slice r2; have n0_ := zA (zAD (by repeat (first | exact HB.out | apply zF | apply zG)) hb : Below w.heap.size w w5); have H0 := zA r0; have H1 := zA r1; have H2 := zA r2; have HK5 := zA (k95p.K_below hb (by repeat (first | exact HK.out | apply k95p_drewN | apply k95p_drew)) : k95p.K w5 x [.pointer (some ⟨x.adr, 0, none⟩)]); clear HB r0 r1 r2 hb; have HB := n0_; clear n0_) | ((with_reducible refine gate_callee (f := 57) rfl ?_); (try (refine gate_guard (by rfl) ?_; dsimp only)); refine goesL_ (some 24) rfl rfl Try.func57 (by kernel_rfl) rfl #[.pointer (some ⟨x.adr, 0, none⟩)] rfl (by (try simp only [zAA, zAB, zAC]); first | done | rfl) ?_; refine (spec_l5T_leaf.calls x _ _ (by repeat (first | exact HK5.out | apply k95p_alloc | apply k95p_drewN | apply k95p_drew)) HL.out).mono ?_; rintro e w6 ⟨rfl, m6, hw⟩; rw [hw]; clear hw w6; refine ⟨_, rfl, ?_⟩))
    repeat (go_quiet (fail); try go_wp2_with (first | ((with_reducible refine gate_callee (f := 70) rfl ?_); (try (refine gate_guard (by rfl) ?_; dsimp only)); refine goesL_ (some 12) rfl rfl Try.func70 (by kernel_rfl) rfl #[.pointer (some ⟨x.adr, 0, none⟩), .string s] rfl (by (try simp only [zAA, zAB, zAC]); first | done | rfl) ?_; refine (spec_l5T_at.calls k1 x s i _ _ (by repeat (first | exact HK.out | apply k95p_drewN | apply k95p_drew)) HA.out).mono ?_; rintro e w2 ⟨rfl, m2, hw⟩; rw [hw]; clear hw w2; refine ⟨_, rfl, ?_⟩) | ((with_reducible refine gate_callee (f := 25) rfl ?_); (try (refine gate_guard (by rfl) ?_; dsimp only)); refine goesL_ (some 16) rfl rfl Try.func25 (by kernel_rfl) rfl #[.pointer (some ⟨x.adr, 0, none⟩)] rfl (by (try simp only [zAA, zAB, zAC]); first | done | rfl) ?_; refine (spec_l6Shown.calls k2 x x.f0 x.f1 C 0 _ (by repeat (first | exact HK.out | apply k95p_drewN | apply k95p_drew)) HSH.out).mono ?_; rintro e w5 ⟨v0, v1, v2, rfl, r0, r1, r2, hb⟩; refine ⟨_, rfl, ?_⟩; obtain ⟨A0, c0, rfl⟩ := Kd.R_slice r0; obtain ⟨A1, c1, rfl⟩ := Kd.R_slice r1; obtain ⟨A2, c2, rfl⟩ := Kd.R_slice r2; have n0_ := zA (zAD (by repeat (first | exact HB.out | apply zF | apply zG)) hb : Below w.heap.size w w5); have H0 := zA r0; have H1 := zA r1; have H2 := zA r2; have HK5 := zA (k95p.K_below hb (by repeat (first | exact HK.out | apply k95p_drewN | apply k95p_drew)) : k95p.K w5 x [.pointer (some ⟨x.adr, 0, none⟩)]); clear HB r0 r1 r2 hb; have HB := n0_; clear n0_) | ((with_reducible refine gate_callee (f := 57) rfl ?_); (try (refine gate_guard (by rfl) ?_; dsimp only)); refine goesL_ (some 24) rfl rfl Try.func57 (by kernel_rfl) rfl #[.pointer (some ⟨x.adr, 0, none⟩)] rfl (by (try simp only [zAA, zAB, zAC]); first | done | rfl) ?_; refine (spec_l5T_leaf.calls x _ _ (by repeat (first | exact HK5.out | apply k95p_alloc | apply k95p_drewN | apply k95p_drew)) HL.out).mono ?_; rintro e w6 ⟨rfl, m6, hw⟩; rw [hw]; clear hw w6; refine ⟨_, rfl, ?_⟩)))
    go_ret
    exact ⟨.slice (some ⟨w5.heap.size + 1, 0, none⟩) 1 1, by first | rfl | (simp <;> rfl), by (rw [HW.out, HP.out]; repeat (first | exact lit43 (p := ⟨x.f0, x.f1, C, i⟩) (Kd.R_lower H0.out (Nat.le_refl _)) (Kd.R_lower H1.out (Nat.le_refl _)) (Kd.R_lower H2.out (Nat.le_refl _)) (zAE HB.out) | apply zR | apply zS)), by repeat (first | exact HB.out | apply zF | apply zG | apply zH)⟩
   | false =>
    have hne : x.f2.length ≠ 0 := fun e => by rw [e] at hl; exact absurd hl (by decide)
    obtain ⟨u, hu, hum, hway, hlt⟩ := way_kid (s := s) hF (show stopT s (er95 x) = false from by
     unfold stopT; rw [e0, ← hb, e2]; cases hx : x.f2 with
     | nil => rw [hx] at hne; exact absurd rfl hne
     | cons a l => rfl)
    have hle := low_le s x.f0
    have hlen : x.f2.length = x.f0.length + 1 := by rw [e0, e2, List.length_map] at o3; omega
    have p1 : (0 ≤ i) := by omega
    have p2 : i < (x.f2.length : Int) := by omega
    have hkid : er95 (rd_N95 x.f2 i) = u := by
     rw [e0, e2, List.getElem?_map] at hu
     rw [hi, rdS_at x.f2 (lowK s x.f0) (by omega)]
     rw [List.getElem?_eq_getElem (by omega)] at hu
     exact Option.some.inj hu
    obtain ⟨y, hy⟩ : ∃ q, q = rd_N95 x.f2 i := ⟨_, rfl⟩
    rw [← hy] at hkid
    have HY := zA hy
    have HKF := zA (show Fine (er95 y) from by rw [hkid]; exact Fine_kid hF hum)
    have HKH := zA (show hT (er95 y) ≤ n from by rw [hkid]; omega)
    have HW := zA (show wayN s (n + 1) (er95 x) = [⟨x.f0, x.f1, C, i⟩] ++ wayN s n (er95 y) from by rw [hway n, hkid, HP.out]; rfl)
    have HL4 := zA (way_len s n (er95 y))
    have HN10 := zA (show n ≤ 10 from by omega)
    have HP1 := zA p1
    have HP2 := zA p2
    have q1 : (0 ≤ i) = True := eq_true p1
    have q2 : decide (0 ≤ i) = true := decide_eq_true p1
    have q3 : (i < (x.f2.length : Int)) = True := eq_true p2
    have q4 : decide (i < (x.f2.length : Int)) = true := decide_eq_true p2
    clear hC hi hb hl hne hu hum hway hlt hle hlen p1 p2 hkid hy o1 o2 o3 o4 e0 e1 e2
    go_enter Try.func32, Try.ntmps32
    go_wp2_with (first | ((with_reducible refine gate_callee (f := 70) rfl ?_); (try (refine gate_guard (by rfl) ?_; dsimp only)); refine goesL_ (some 12) rfl rfl Try.func70 (by kernel_rfl) rfl #[.pointer (some ⟨x.adr, 0, none⟩), .string s] rfl (by (try simp only [zAA, zAB, zAC]); first | done | rfl) ?_; refine (spec_l5T_at.calls k1 x s i _ _ (by repeat (first | exact HK.out | apply k95p_drewN | apply k95p_drew)) HA.out).mono ?_; rintro e w2 ⟨rfl, m2, hw⟩; rw [hw]; clear hw w2; refine ⟨_, rfl, ?_⟩) | ((with_reducible refine gate_callee (f := 25) rfl ?_); (try (refine gate_guard (by rfl) ?_; dsimp only)); refine goesL_ (some 16) rfl rfl Try.func25 (by kernel_rfl) rfl #[.pointer (some ⟨x.adr, 0, none⟩)] rfl (by (try simp only [zAA, zAB, zAC]); first | done | rfl) ?_; refine (spec_l6Shown.calls k2 x x.f0 x.f1 C 0 _ (by repeat (first | exact HK.out | apply k95p_drewN | apply k95p_drew)) HSH.out).mono ?_; rintro e w5 ⟨v0, v1, v2, rfl, r0, r1, r2, hb⟩; refine ⟨_, rfl, ?_⟩; obtain ⟨A0, c0, rfl⟩ := Kd.R_slice r0; obtain ⟨A1, c1, rfl⟩ := Kd.R_slice r1; obtain ⟨A2, c2, rfl⟩ := Kd.R_slice r2; have n0_ := zA (zAD (by repeat (first | exact HB.out | apply zF | apply zG)) hb : Below w.heap.size w w5); have H0 := zA r0; have H1 := zA r1; have H2 := zA r2; have HK5 := zA (k95p.K_below hb (by repeat (first | exact HK.out | apply k95p_drewN | apply k95p_drew)) : k95p.K w5 x [.pointer (some ⟨x.adr, 0, none⟩)]); clear HB r0 r1 r2 hb; have HB := n0_; clear n0_) | ((with_reducible refine gate_callee (f := 57) rfl ?_); (try (refine gate_guard (by rfl) ?_; dsimp only)); refine goesL_ (some 24) rfl rfl Try.func57 (by kernel_rfl) rfl #[.pointer (some ⟨x.adr, 0, none⟩)] rfl (by (try simp only [zAA, zAB, zAC]); first | done | rfl) ?_; refine (spec_l5T_leaf.calls x _ _ (by repeat (first | exact HK5.out | apply k95p_alloc | apply k95p_drewN | apply k95p_drew)) HL.out).mono ?_; rintro e w6 ⟨rfl, m6, hw⟩; rw [hw]; clear hw w6; refine ⟨_, rfl, ?_⟩; obtain ⟨An0, cn0, An1, cn1, An2, cn2, hx0, hx1, hx2, _, _, _, _, _, hin2⟩ := at_P95 (k95p_alloc (k95p_alloc HK5.out (.cells #[.slice A0 x.f0.length c0, .slice A1 x.f1.length c1, .slice A2 C.length c2, .int .i64 i] 43)) (.cells #[.slice A0 x.f0.length c0, .slice A1 x.f1.length c1, .slice A2 C.length c2, .int .i64 i] 43)); obtain ⟨ad, ead, hx3⟩ := at_N95 hin2 i HP1.out HP2.out; have HKK := zA (nd_el95 hin2 i HP1.out HP2.out); rw [← HY.out] at hx3 HKK; subst ead; clear hin2) | ((with_reducible refine gate_callee (f := 32) rfl ?_); (try (refine gate_guard (by rfl) ?_; dsimp only)); refine goesL_ (some 36) rfl rfl Try.func32 (by kernel_rfl) rfl #[.pointer (some ⟨y.adr, 0, none⟩), .string s] rfl (by (try simp only [zAA, zAB, zAC]); first | done | rfl) ?_; refine (ih y _ HN10.out HKH.out HKF.out (by repeat (first | exact HKK.out | apply k95p_alloc | apply k95p_drewN | apply k95p_drew))).mono ?_; rintro e w8 ⟨v, rfl, hr, hb⟩; refine ⟨_, rfl, ?_⟩; have n0_ := zA (Kd.R_below (by repeat (first | exact lit43 (p := ⟨x.f0, x.f1, C, i⟩) (Kd.R_lower H0.out (Nat.le_refl _)) (Kd.R_lower H1.out (Nat.le_refl _)) (Kd.R_lower H2.out (Nat.le_refl _)) (zAE HB.out) | apply zR | apply zS)) hb : k43.R 43 w8 w.heap.size (fun _ => True) (.slice (some ⟨w5.heap.size + 1, 0, none⟩) 1 1) [⟨x.f0, x.f1, C, i⟩]); have n1_ := zA (zAD (by repeat (first | exact HB.out | apply zF | apply zG | apply zH)) hb : Below w.heap.size w w8); have HSZ := zA (Nat.le_of_eq (sz2 w5 (.cells #[.slice A0 x.f0.length c0, .slice A1 x.f1.length c1, .slice A2 C.length c2, .int .i64 i] 43) (.cells #[.slice A0 x.f0.length c0, .slice A1 x.f1.length c1, .slice A2 C.length c2, .int .i64 i] 43))); have hr2 := Kd.R_bound hr; obtain ⟨A, c, rfl, hlc, hrr⟩ := R_readsM hr2; have HRR := zA hrr; have HB5 := HB; clear HB H0 H1 H2 HK5 HKK hx0 hx1 hx2 hx3 hr hb hr2 hrr; have HO := n0_; have HB := n1_; clear n0_ n1_) | ((with_reducible refine gate_builtin (b := .append) (xs := #[.tmp 27, .tmp 36]) rfl ?_); at_builtin; refine Kd.R_append_rows k43 (w0 := w) w.heap.size rfl (.tmp 27) (.tmp 36) 34 43 (.agg #[(.slice none 0 0), (.slice none 0 0), (.slice none 0 0), (.int .i64 0)]) 80 rfl Try.underlying34 info43 rfl (by decide) (by omega) (.slice (some ⟨w5.heap.size + 1, 0, none⟩) 1 1) [⟨x.f0, x.f1, C, i⟩] (wayN s n (er95 y)) A (wayN s n (er95 y)).length c (fun _ => True) (fun k => w5.heap.size + 2 ≤ k) rfl rfl HO.out HRR.out (fun x_ cs_ h_ => k43.M_mono (fun k_ hk_ => Nat.le_trans HSZ.out hk_.1.2.1) (k43.M_lower (Nat.le_trans (zAE HB5.out) (Nat.le_trans (Nat.le_add_right _ 2) HSZ.out)) h_)) (fun k_ hk_ => ⟨trivial, fun e_ => by have e2_ : k_ = w5.heap.size + 1 := (by simpa [Value.ownBlock] using e_); omega⟩) (fun _ _ => trivial) HB.out (zAE HB.out) (by have := HL4.out; have := HN10.out; simp only [List.length_singleton]; omega) ?_; intro v9 w9 ho hb hg hat; rw [← HW.out] at ho; have n0_ := zA ho; clear HO HB ho; have HO := n0_; have HB := zA hb; clear n0_ hb hg hat))
    repeat (go_quiet (fail); try go_wp2_with (first | ((with_reducible refine gate_callee (f := 70) rfl ?_); (try (refine gate_guard (by rfl) ?_; dsimp only)); refine goesL_ (some 12) rfl rfl Try.func70 (by kernel_rfl) rfl #[.pointer (some ⟨x.adr, 0, none⟩), .string s] rfl (by (try simp only [zAA, zAB, zAC]); first | done | rfl) ?_; refine (spec_l5T_at.calls k1 x s i _ _ (by repeat (first | exact HK.out | apply k95p_drewN | apply k95p_drew)) HA.out).mono ?_; rintro e w2 ⟨rfl, m2, hw⟩; rw [hw]; clear hw w2; refine ⟨_, rfl, ?_⟩) | ((with_reducible refine gate_callee (f := 25) rfl ?_); (try (refine gate_guard (by rfl) ?_; dsimp only)); refine goesL_ (some 16) rfl rfl Try.func25 (by kernel_rfl) rfl #[.pointer (some ⟨x.adr, 0, none⟩)] rfl (by (try simp only [zAA, zAB, zAC]); first | done | rfl) ?_; refine (spec_l6Shown.calls k2 x x.f0 x.f1 C 0 _ (by repeat (first | exact HK.out | apply k95p_drewN | apply k95p_drew)) HSH.out).mono ?_; rintro e w5 ⟨v0, v1, v2, rfl, r0, r1, r2, hb⟩; refine ⟨_, rfl, ?_⟩; obtain ⟨A0, c0, rfl⟩ := Kd.R_slice r0; obtain ⟨A1, c1, rfl⟩ := Kd.R_slice r1; obtain ⟨A2, c2, rfl⟩ := Kd.R_slice r2; have n0_ := zA (zAD (by repeat (first | exact HB.out | apply zF | apply zG)) hb : Below w.heap.size w w5); have H0 := zA r0; have H1 := zA r1; have H2 := zA r2; have HK5 := zA (k95p.K_below hb (by repeat (first | exact HK.out | apply k95p_drewN | apply k95p_drew)) : k95p.K w5 x [.pointer (some ⟨x.adr, 0, none⟩)]); clear HB r0 r1 r2 hb; have HB := n0_; clear n0_) | ((with_reducible refine gate_callee (f := 57) rfl ?_); (try (refine gate_guard (by rfl) ?_; dsimp only)); refine goesL_ (some 24) rfl rfl Try.func57 (by kernel_rfl) rfl #[.pointer (some ⟨x.adr, 0, none⟩)] rfl (by (try simp only [zAA, zAB, zAC]); first | done | rfl) ?_; refine (spec_l5T_leaf.calls x _ _ (by repeat (first | exact HK5.out | apply k95p_alloc | apply k95p_drewN | apply k95p_drew)) HL.out).mono ?_; rintro e w6 ⟨rfl, m6, hw⟩; rw [hw]; clear hw w6; refine ⟨_, rfl, ?_⟩; obtain ⟨An0, cn0, An1, cn1, An2, cn2, hx0, hx1, hx2, _, _, _, _, _, hin2⟩ := at_P95 (k95p_alloc (k95p_alloc HK5.out (.cells #[.slice A0 x.f0.length c0, .slice A1 x.f1.length c1, .slice A2 C.length c2, .int .i64 i] 43)) (.cells #[.slice A0 x.f0.length c0, .slice A1 x.f1.length c1, .slice A2 C.length c2, .int .i64 i] 43)); obtain ⟨ad, ead, hx3⟩ := at_N95 hin2 i HP1.out HP2.out; have HKK := zA (nd_el95 hin2 i HP1.out HP2.out); rw [← HY.out] at hx3 HKK; subst ead; clear hin2) | ((with_reducible refine gate_callee (f := 32) rfl ?_); (try (refine gate_guard (by rfl) ?_; dsimp only)); refine goesL_ (some 36) rfl rfl Try.func32 (by kernel_rfl) rfl #[.pointer (some ⟨y.adr, 0, none⟩), .string s] rfl (by (try simp only [zAA, zAB, zAC]); first | done | rfl) ?_; refine (ih y _ HN10.out HKH.out HKF.out (by repeat (first | exact HKK.out | apply k95p_alloc | apply k95p_drewN | apply k95p_drew))).mono ?_; rintro e w8 ⟨v, rfl, hr, hb⟩; refine ⟨_, rfl, ?_⟩; have n0_ := zA (Kd.R_below (by repeat (first | exact lit43 (p := ⟨x.f0, x.f1, C, i⟩) (Kd.R_lower H0.out (Nat.le_refl _)) (Kd.R_lower H1.out (Nat.le_refl _)) (Kd.R_lower H2.out (Nat.le_refl _)) (zAE HB.out) | apply zR | apply zS)) hb : k43.R 43 w8 w.heap.size (fun _ => True) (.slice (some ⟨w5.heap.size + 1, 0, none⟩) 1 1) [⟨x.f0, x.f1, C, i⟩]); have n1_ := zA (zAD (by repeat (first | exact HB.out | apply zF | apply zG | apply zH)) hb : Below w.heap.size w w8); have HSZ := zA (Nat.le_of_eq (sz2 w5 (.cells #[.slice A0 x.f0.length c0, .slice A1 x.f1.length c1, .slice A2 C.length c2, .int .i64 i] 43) (.cells #[.slice A0 x.f0.length c0, .slice A1 x.f1.length c1, .slice A2 C.length c2, .int .i64 i] 43))); have hr2 := Kd.R_bound hr; obtain ⟨A, c, rfl, hlc, hrr⟩ := R_readsM hr2; have HRR := zA hrr; have HB5 := HB; clear HB H0 H1 H2 HK5 HKK hx0 hx1 hx2 hx3 hr hb hr2 hrr; have HO := n0_; have HB := n1_; clear n0_ n1_) | ((with_reducible refine gate_builtin (b := .append) (xs := #[.tmp 27, .tmp 36]) rfl ?_); at_builtin; refine Kd.R_append_rows k43 (w0 := w) w.heap.size rfl (.tmp 27) (.tmp 36) 34 43 (.agg #[(.slice none 0 0), (.slice none 0 0), (.slice none 0 0), (.int .i64 0)]) 80 rfl Try.underlying34 info43 rfl (by decide) (by omega) (.slice (some ⟨w5.heap.size + 1, 0, none⟩) 1 1) [⟨x.f0, x.f1, C, i⟩] (wayN s n (er95 y)) A (wayN s n (er95 y)).length c (fun _ => True) (fun k => w5.heap.size + 2 ≤ k) rfl rfl HO.out HRR.out (fun x_ cs_ h_ => k43.M_mono (fun k_ hk_ => Nat.le_trans HSZ.out hk_.1.2.1) (k43.M_lower (Nat.le_trans (zAE HB5.out) (Nat.le_trans (Nat.le_add_right _ 2) HSZ.out)) h_)) (fun k_ hk_ => ⟨trivial, fun e_ => by have e2_ : k_ = w5.heap.size + 1 := (by simpa [Value.ownBlock] using e_); omega⟩) (fun _ _ => trivial) HB.out (zAE HB.out) (by have := HL4.out; have := HN10.out; simp only [List.length_singleton]; omega) ?_; intro v9 w9 ho hb hg hat; rw [← HW.out] at ho; have n0_ := zA ho; clear HO HB ho; have HO := n0_; have HB := zA hb; clear n0_ hb hg hat)))
    go_ret
    exact ⟨_, by first | rfl | (simp <;> rfl), HO.out, HB.out⟩
theorem proveKS (ps : List S97) (hG : Sml ps) (A : Option Addr) (c : Nat) (hc : ps.length ≤ c) (s : ByteArray) (w : World) (hC : Kd.C k97 w A ps.length ps) :
  Calls Try.prog 11 #[.agg #[.slice A ps.length c], .string s] w fun e w' => ∃ v, e = .returned (.tuple #[v, .bool (proveF ps s).2]) ∧ k43.R 43 w' w.heap.size (fun _ => True) v (proveF ps s).1 ∧ Below w.heap.size w w' := by
 have HG := zA hG
 have HC := zA hC
 have HLC := zA hc
 have HB := zA (Below.refl w.heap.size w)
 have hu30 := Try.underlying30
 clear hG hC hc
 cases hR : treeG ps 10 with
 | none =>
  have HR := zA hR
  have RR := zA (show proveF ps s = ([], false) by unfold proveF; rw [hR])
  clear hR
  go_enter Try.func11, Try.ntmps11
  go_wp2_with (first | ((with_reducible refine gate_dst (N := 2) rfl ?_); refine box_event ?hg (N := 2) ?hd (cs := #[.slice A ps.length c]) (t := 30) ?hr ?_; (case hd => rfl); (case hg => rfl); (case hr => first | (go_simp; done) | (go_simp; rfl)); intro gb1 hg w3 hbox hb; have n0_ := zA (zAD HB.out hb); have BK1 := zA hbox; clear HB; have HB := n0_; clear n0_ hb hbox hg; have hx1 : w3.cell? ⟨gb1, 0, none⟩ = some (.slice A ps.length c) := (zP BK1.out 0).trans rfl; have hI := ofS ps HG.out A c HLC.out w3 (Kd.C_below HC.out HB.out); rw [HR.out] at hI) | ((with_reducible refine gate_callee (f := 23) rfl ?_); refine goesL_ (some 10) rfl rfl Try.func23 (by kernel_rfl) rfl #[.agg #[.slice A ps.length c]] rfl (by (try simp only [zAA, zAB, zAC]); first | done | rfl) ?_; refine hI.mono ?_; clear hI;  rintro e w4 ⟨rfl, hb⟩; refine ⟨_, rfl, ?_⟩; have n0_ := zA (zAD HB.out hb); clear HB BK1 hb hx1; have HB := n0_; clear n0_))
  go_ret2
  exact ⟨.slice none 0 0, by rw [RR.out]; first | rfl | (simp <;> rfl), by rw [RR.out]; exact Kd.R_nil _ _ _ _ _, HB.out⟩
 | some t =>
  have HR := zA hR
  obtain ⟨hf, hh⟩ := fine_of hR
  obtain ⟨b, hb⟩ : ∃ q, q = isK s := ⟨_, rfl⟩
  have HPR := zA (show spec_l5Pair.f s ⟨#[]⟩ = some b from by rw [pairS s ⟨#[]⟩, hb]; show some (isK s && true) = _; rw [Bool.and_true])
  have HF := zA hf
  have HH := zA hh
  clear hf hh
  cases b with
  | false =>
   have RR := zA (show proveF ps s = ([], false) by unfold proveF; rw [hR, ← hb]; rfl)
   clear hR hb
   go_enter Try.func11, Try.ntmps11
   go_wp2_with (first | ((with_reducible refine gate_dst (N := 2) rfl ?_); refine box_event ?hg (N := 2) ?hd (cs := #[.slice A ps.length c]) (t := 30) ?hr ?_; (case hd => rfl); (case hg => rfl); (case hr => first | (go_simp; done) | (go_simp; rfl)); intro gb1 hg w3 hbox hb; have n0_ := zA (zAD HB.out hb); have BK1 := zA hbox; clear HB; have HB := n0_; clear n0_ hb hbox hg; have hx1 : w3.cell? ⟨gb1, 0, none⟩ = some (.slice A ps.length c) := (zP BK1.out 0).trans rfl; have hI := ofS ps HG.out A c HLC.out w3 (Kd.C_below HC.out HB.out); rw [HR.out] at hI) | ((with_reducible refine gate_callee (f := 23) rfl ?_); refine goesL_ (some 10) rfl rfl Try.func23 (by kernel_rfl) rfl #[.agg #[.slice A ps.length c]] rfl (by (try simp only [zAA, zAB, zAC]); first | done | rfl) ?_; refine hI.mono ?_; clear hI;  rintro e w4 ⟨x, rfl, hx, hM, hb⟩; refine ⟨_, rfl, ?_⟩; have n0_ := zA (zAD HB.out hb); have HXE := zA hx; have HM := zA (k95p.K_of_M hM); clear HB BK1 hb hx1 hx hM; have HB := n0_; clear n0_) | ((with_reducible refine gate_callee (f := 31) rfl ?_); (try (refine gate_guard (by rfl) ?_; dsimp only)); refine goesL_ (some 17) rfl rfl Try.func31 (by kernel_rfl) rfl #[.string s, .string ⟨#[]⟩] rfl (by (try simp only [zAA, zAB, zAC]); first | done | rfl) ?_; refine (spec_l5Pair.calls s ⟨#[]⟩ _ _ HPR.out).mono ?_; rintro e w5 ⟨rfl, m5, hw⟩; rw [hw]; clear hw w5; refine ⟨_, rfl, ?_⟩))
   repeat (go_quiet (fail); try go_wp2_with (first | ((with_reducible refine gate_dst (N := 2) rfl ?_); refine box_event ?hg (N := 2) ?hd (cs := #[.slice A ps.length c]) (t := 30) ?hr ?_; (case hd => rfl); (case hg => rfl); (case hr => first | (go_simp; done) | (go_simp; rfl)); intro gb1 hg w3 hbox hb; have n0_ := zA (zAD HB.out hb); have BK1 := zA hbox; clear HB; have HB := n0_; clear n0_ hb hbox hg; have hx1 : w3.cell? ⟨gb1, 0, none⟩ = some (.slice A ps.length c) := (zP BK1.out 0).trans rfl; have hI := ofS ps HG.out A c HLC.out w3 (Kd.C_below HC.out HB.out); rw [HR.out] at hI) | ((with_reducible refine gate_callee (f := 23) rfl ?_); refine goesL_ (some 10) rfl rfl Try.func23 (by kernel_rfl) rfl #[.agg #[.slice A ps.length c]] rfl (by (try simp only [zAA, zAB, zAC]); first | done | rfl) ?_; refine hI.mono ?_; clear hI;  rintro e w4 ⟨x, rfl, hx, hM, hb⟩; refine ⟨_, rfl, ?_⟩; have n0_ := zA (zAD HB.out hb); have HXE := zA hx; have HM := zA (k95p.K_of_M hM); clear HB BK1 hb hx1 hx hM; have HB := n0_; clear n0_) | ((with_reducible refine gate_callee (f := 31) rfl ?_); (try (refine gate_guard (by rfl) ?_; dsimp only)); refine goesL_ (some 17) rfl rfl Try.func31 (by kernel_rfl) rfl #[.string s, .string ⟨#[]⟩] rfl (by (try simp only [zAA, zAB, zAC]); first | done | rfl) ?_; refine (spec_l5Pair.calls s ⟨#[]⟩ _ _ HPR.out).mono ?_; rintro e w5 ⟨rfl, m5, hw⟩; rw [hw]; clear hw w5; refine ⟨_, rfl, ?_⟩)))
   go_ret2
   exact ⟨.slice none 0 0, by rw [RR.out]; first | rfl | (simp <;> rfl), by rw [RR.out]; exact Kd.R_nil _ _ _ _ _, by repeat (first | exact HB.out | apply zF | apply zG)⟩
  | true =>
   have RR := zA (show proveF ps s = (wayN s 10 t, true) by unfold proveF; rw [hR, ← hb]; rfl)
   clear hR hb
   go_enter Try.func11, Try.ntmps11
   go_wp2_with (first | ((with_reducible refine gate_dst (N := 2) rfl ?_); refine box_event ?hg (N := 2) ?hd (cs := #[.slice A ps.length c]) (t := 30) ?hr ?_; (case hd => rfl); (case hg => rfl); (case hr => first | (go_simp; done) | (go_simp; rfl)); intro gb1 hg w3 hbox hb; have n0_ := zA (zAD HB.out hb); have BK1 := zA hbox; clear HB; have HB := n0_; clear n0_ hb hbox hg; have hx1 : w3.cell? ⟨gb1, 0, none⟩ = some (.slice A ps.length c) := (zP BK1.out 0).trans rfl; have hI := ofS ps HG.out A c HLC.out w3 (Kd.C_below HC.out HB.out); rw [HR.out] at hI) | ((with_reducible refine gate_callee (f := 23) rfl ?_); refine goesL_ (some 10) rfl rfl Try.func23 (by kernel_rfl) rfl #[.agg #[.slice A ps.length c]] rfl (by (try simp only [zAA, zAB, zAC]); first | done | rfl) ?_; refine hI.mono ?_; clear hI;  rintro e w4 ⟨x, rfl, hx, hM, hb⟩; refine ⟨_, rfl, ?_⟩; have n0_ := zA (zAD HB.out hb); have HXE := zA hx; have HM := zA (k95p.K_of_M hM); clear HB BK1 hb hx1 hx hM; have HB := n0_; clear n0_) | ((with_reducible refine gate_callee (f := 31) rfl ?_); (try (refine gate_guard (by rfl) ?_; dsimp only)); refine goesL_ (some 17) rfl rfl Try.func31 (by kernel_rfl) rfl #[.string s, .string ⟨#[]⟩] rfl (by (try simp only [zAA, zAB, zAC]); first | done | rfl) ?_; refine (spec_l5Pair.calls s ⟨#[]⟩ _ _ HPR.out).mono ?_; rintro e w5 ⟨rfl, m5, hw⟩; rw [hw]; clear hw w5; refine ⟨_, rfl, ?_⟩) | ((with_reducible refine gate_callee (f := 32) rfl ?_); refine goesL_ (some 22) rfl rfl Try.func32 (by kernel_rfl) rfl #[.pointer (some ⟨x.adr, 0, none⟩), .string s] rfl (by (try simp only [zAA, zAB, zAC]); first | done | rfl) ?_; refine (proveS s 10 x _ (Nat.le_refl _) (by rw [HXE.out]; exact HH.out) (by rw [HXE.out]; exact HF.out) (by repeat (first | exact HM.out | apply k95p_drewN | apply k95p_drew))).mono ?_; rintro e w8 ⟨v, rfl, hr, hb⟩; refine ⟨_, rfl, ?_⟩; rw [HXE.out] at hr; have n0_ := zA (zAD (by repeat (first | exact HB.out | apply zF | apply zG | apply zH)) hb : Below w.heap.size w w8); have HO := zA (Kd.R_lower hr (show w.heap.size ≤ (w4.drewN m5).heap.size from (zAE HB.out : w.heap.size ≤ w4.heap.size))); clear HB hr hb; have HB := n0_; clear n0_))
   repeat (go_quiet (fail); try go_wp2_with (first | ((with_reducible refine gate_dst (N := 2) rfl ?_); refine box_event ?hg (N := 2) ?hd (cs := #[.slice A ps.length c]) (t := 30) ?hr ?_; (case hd => rfl); (case hg => rfl); (case hr => first | (go_simp; done) | (go_simp; rfl)); intro gb1 hg w3 hbox hb; have n0_ := zA (zAD HB.out hb); have BK1 := zA hbox; clear HB; have HB := n0_; clear n0_ hb hbox hg; have hx1 : w3.cell? ⟨gb1, 0, none⟩ = some (.slice A ps.length c) := (zP BK1.out 0).trans rfl; have hI := ofS ps HG.out A c HLC.out w3 (Kd.C_below HC.out HB.out); rw [HR.out] at hI) | ((with_reducible refine gate_callee (f := 23) rfl ?_); refine goesL_ (some 10) rfl rfl Try.func23 (by kernel_rfl) rfl #[.agg #[.slice A ps.length c]] rfl (by (try simp only [zAA, zAB, zAC]); first | done | rfl) ?_; refine hI.mono ?_; clear hI;  rintro e w4 ⟨x, rfl, hx, hM, hb⟩; refine ⟨_, rfl, ?_⟩; have n0_ := zA (zAD HB.out hb); have HXE := zA hx; have HM := zA (k95p.K_of_M hM); clear HB BK1 hb hx1 hx hM; have HB := n0_; clear n0_) | ((with_reducible refine gate_callee (f := 31) rfl ?_); (try (refine gate_guard (by rfl) ?_; dsimp only)); refine goesL_ (some 17) rfl rfl Try.func31 (by kernel_rfl) rfl #[.string s, .string ⟨#[]⟩] rfl (by (try simp only [zAA, zAB, zAC]); first | done | rfl) ?_; refine (spec_l5Pair.calls s ⟨#[]⟩ _ _ HPR.out).mono ?_; rintro e w5 ⟨rfl, m5, hw⟩; rw [hw]; clear hw w5; refine ⟨_, rfl, ?_⟩) | ((with_reducible refine gate_callee (f := 32) rfl ?_); refine goesL_ (some 22) rfl rfl Try.func32 (by kernel_rfl) rfl #[.pointer (some ⟨x.adr, 0, none⟩), .string s] rfl (by (try simp only [zAA, zAB, zAC]); first | done | rfl) ?_; refine (proveS s 10 x _ (Nat.le_refl _) (by rw [HXE.out]; exact HH.out) (by rw [HXE.out]; exact HF.out) (by repeat (first | exact HM.out | apply k95p_drewN | apply k95p_drew))).mono ?_; rintro e w8 ⟨v, rfl, hr, hb⟩; refine ⟨_, rfl, ?_⟩; rw [HXE.out] at hr; have n0_ := zA (zAD (by repeat (first | exact HB.out | apply zF | apply zG | apply zH)) hb : Below w.heap.size w w8); have HO := zA (Kd.R_lower hr (show w.heap.size ≤ (w4.drewN m5).heap.size from (zAE HB.out : w.heap.size ≤ w4.heap.size))); clear HB hr hb; have HB := n0_; clear n0_)))
   go_ret2
   exact ⟨v, by rw [RR.out]; first | rfl | (simp <;> rfl), by rw [RR.out]; exact HO.out, by repeat (first | exact HB.out | apply zF | apply zG)⟩
end Go.Proofs.Ytnplghcbdaiogaa.RI
end
section
namespace Go.Proofs.Ytnplghcbdaiogaa.QY
open Go.RowKit Go.Proofs.YtnplghcbdaiogaaW.PrintWords Go.Proofs.YtnplghcbdaiogaaW.PrintLast Go.Proofs.YtnplghcbdaiogaaW.PrintMore Go.Proofs.Ytnplghcbdaiogaa.PA Go.Proofs.Ytnplghcbdaiogaa.QW
attribute [local go_sem] max2_int min2_int max_two min_two max_three min_three max_four min_four
set_option linter.unusedVariables false
set_option linter.unusedSimpArgs false
set_option maxHeartbeats 4000000
set_option maxRecDepth 100000
def Post74 (n : Nat) (w0 w : World) (gg : Nat) (A : Option Addr) (m c : Nat) (R : Option (T × Nat)) (e : Ending) (w' : World) : Prop := match R with
 | none => e = .returned (.tuple #[.pointer none, .bool false]) ∧ Below w0.heap.size w0 w'
 | some (t, nx) => ∃ x : S74, e = .returned (.tuple #[.pointer (some ⟨x.adr, 0, none⟩), .bool true]) ∧ er74 x = t ∧ k74p.M w' w0.heap.size (fun k => w.heap.size ≤ k) x [.pointer (some ⟨x.adr, 0, none⟩)] ∧ Below w0.heap.size w0 w' ∧ KeepBut w w' gg none ∧ w'.heap[gg]? = some (.cells #[.slice A m c, .int .i64 (nx : Int)] 101 (0, 0))
def nodeI.T3 : Bool × List (List Nat × List Nat) := (true, [([], []), ([0], [0]), ([1], [1]), ([2], [2]), ([], []), ([4], [4]), ([5], [5]), ([6], [6]), ([3, 7], [3, 7]), ([8], [8]), ([], []), ([10, 9, 0, 1, 2, 3, 4, 5, 6, 7, 8, 9, 10], [9, 10])])
def nodeI.B3 : List Nat := [0, 1, 3, 7, 0, 16, 48, 112, 255, 511, 0, 2047]
theorem nodeI.tab3 : rtab .any (opsOf Try.f61 3) = nodeI.T3 := by kernel_rfl
theorem nodeI.bits3 : waitsOk nodeI.T3.2 nodeI.B3 = true := by kernel_rfl
def nodeI.T7 : Bool × List (List Nat × List Nat) := (true, [([], []), ([0], [0]), ([1], [1]), ([], []), ([3], [3]), ([4, 2], [4]), ([2, 5], [2, 5]), ([6], [6]), ([7, 5, 0, 1, 2, 3, 4, 5, 6, 7], [7])])
def nodeI.B7 : List Nat := [0, 1, 3, 0, 8, 31, 63, 127, 255]
theorem nodeI.tab7 : rtab .any (opsOf Try.f61 7) = nodeI.T7 := by kernel_rfl
theorem nodeI.bits7 : waitsOk nodeI.T7.2 nodeI.B7 = true := by kernel_rfl
theorem nodeI (ps : List S97) (hG : Sml ps) (A : Option Addr) (c : Nat) (hc : ps.length ≤ c) (w0 : World) (hC : Kd.C k97 w0 A ps.length ps) (gg : Nat) (hgg : w0.heap.size ≤ gg) : ∀ (n at_ : Nat) (w : World), at_ ≤ ps.length → ps.length ≤ at_ + n → Below w0.heap.size w0 w → w.heap[gg]? = some (.cells #[.slice A ps.length c, .int .i64 (at_ : Int)] 101 (0, 0)) →
  Calls Try.prog 61 #[.pointer (some ⟨gg, 0, none⟩)] w fun e w' => Post74 n w0 w gg A ps.length c (readF ps n at_) e w' := by
 intro n
 induction n with
 | zero =>
  intro at_ w ha hn hb hk
  have BKG := zA hk
  have HB := zA hb
  have hx0 : w.cell? ⟨gg, 0, none⟩ = some (.slice A ps.length c) := (zP hk 0).trans rfl
  have hx1 : w.cell? ⟨gg, 1, none⟩ = some (.int .i64 (at_ : Int)) := (zP hk 1).trans rfl
  have R := zA (show readF ps 0 at_ = none from rfl)
  have b1 : ((at_ : Int) == (ps.length : Int)) = true := beq_iff_eq.mpr (by omega)
  have b2 : (at_ == ps.length) = true := beq_iff_eq.mpr (by omega)
  have hu101 := Try.underlying101
  clear hb hk hC hG
  go_enter Try.func61, Try.ntmps61
  go_wp2
  repeat (go_quiet (fail); try go_wp2)
  go_ret2
  exact (show Post74 0 w0 w gg A ps.length c (readF ps 0 at_) _ _ from (by rw [R.out]; exact ⟨by first | rfl | (simp <;> rfl), by repeat (first | exact HB.out | apply zH | apply zF | apply zG)⟩))
 | succ n ih =>
  intro at_ w ha hn hb hk
  have BKG := zA hk
  have HB := zA hb
  have hx0 : w.cell? ⟨gg, 0, none⟩ = some (.slice A ps.length c) := (zP hk 0).trans rfl
  have hx1 : w.cell? ⟨gg, 1, none⟩ = some (.int .i64 (at_ : Int)) := (zP hk 1).trans rfl
  have hu101 := Try.underlying101
  have hu97 := Try.underlying97
  have hu74 := Try.underlying74
  by_cases h : at_ < ps.length
  ·obtain ⟨z, hz⟩ : ∃ z : Int, z = (at_ : Int) := ⟨_, rfl⟩
   rw [← hz] at hk hx1 BKG
   have b1 : (z == (ps.length : Int)) = false := beq_eq_false_iff_ne.2 (by omega)
   have b2 : decide (z = (ps.length : Int)) = false := decide_eq_false (by omega)
   have b4 : decide (z < (ps.length : Int)) = true := decide_eq_true (by omega)
   have b5 : decide (0 ≤ z) = true := decide_eq_true (by omega)
   have b6 : (0 ≤ z) = True := eq_true (by omega)
   have b7 : (z < (ps.length : Int)) = True := eq_true (by omega)
   obtain ⟨ad, A0, c0, A1, c1, A2, c2, eA, hy0, hy1, hy2, l0, g0, l1, g1, l2, g2⟩ := at_T97 hC z (by omega) (by omega)
   subst eA
   have ep : ps[at_]? = some (rd_T97 ps z) := by
    unfold rd_T97
    rw [hz, Int.toNat_natCast, List.getD_eq_getElem?_getD, List.getElem?_eq_getElem h]; rfl
   obtain ⟨p, hp⟩ : ∃ p, p = rd_T97 ps z := ⟨_, rfl⟩
   rw [← hp] at ep hy0 hy1 hy2 l0 g0 l1 g1 l2 g2
   have HZ := zA hz
   have HH := zA h
   have HP := zA ep
   have HX0 := zA hy0
   have HX1 := zA hy1
   have HX2 := zA hy2
   have HL0 := zA l0
   have HR0 := zA g0
   have HL1 := zA l1
   have HR1 := zA g1
   have HL2 := zA l2
   have HR2 := zA g2
   have HG := zA hG
   have HN := zA hn
   have HA := zA ha
   clear hz h hp ep hy0 hy1 hy2 l0 g0 l1 g1 l2 g2 hb hk hn ha
   go_enter Try.func61, Try.ntmps61
   go_wp2
   repeat (go_quiet (fail); try go_wp2)
   have n0_ := zA (zN (zL BKG.out nq))
   have n1_ := zA (zG (zF HB.out nq))
   have HKB := zA (keep_drew (keep_drewN (KeepBut.refl w gg none) nq))
   have HGW := zA (blk_lt BKG.out)
   clear BKG HB hx0 hx1
   have BKG := n0_
   have HB := n1_
   clear n0_ n1_
   refine start_ (n := 12) (S := fun w' => w'.cell? ⟨gg, 0, none⟩ = some (.slice (some ad) ps.length c) ∧ w'.cell? ⟨gg, 1, none⟩ = some (.int .i64 z) ∧ w'.cell? (ad.add (z.toNat * 3)) = some (.slice A0 p.f0.length c0) ∧ w'.cell? ⟨(ad.add (z.toNat * 3)).block, (ad.add (z.toNat * 3)).off + 1, none⟩ = some (.slice A1 p.f1.length c1) ∧ w'.cell? ⟨(ad.add (z.toNat * 3)).block, (ad.add (z.toNat * 3)).off + 2, none⟩ = some (.slice A2 p.f2.length c2)) (ds := [11]) #[false, false, false, false, false, false, false, false, false, false, false, false] (by kernel_rfl) rfl rfl ⟨(zP BKG.out 0).trans rfl, (zP BKG.out 1).trans rfl, (HB.out.cell (zB w0 _ HX0.out)).trans HX0.out, (HB.out.cell (zB w0 _ HX1.out)).trans HX1.out, (HB.out.cell (zB w0 _ HX2.out)).trans HX2.out⟩ (fun hHeld => ?_)
   refine with_tabW nodeI.tab3 nodeI.bits3 (fun HT_ HW_ => ?_)
   generalize (w.drewN nq).drew = w3 at BKG HB HKB hHeld ⊢
   refine pure_ (i := 0) (N := some 20) (v := ?_) (a' := ?_) #[true, false, false, false, false, false, false, false, false, false, false, false] rfl rfl (any_of HT_.out (by kernel_rfl)) (fun _ _ _ h => h) (Or.inl ⟨by rfl, ?_⟩) ?_ ?_; rotate_left
   ·intro w'
    go_simp
    with_reducible rfl
   rotate_left
   ·simp only [Act.put, zC, zD, zE, i64_w, i32_w]
    rfl
   refine pure_ (i := 1) (N := some 21) (v := ?_) (a' := ?_) #[true, true, false, false, false, false, false, false, false, false, false, false] rfl rfl (any_of HT_.out (by kernel_rfl)) (fun _ _ _ h => h) (Or.inl ⟨by rfl, ?_⟩) ?_ ?_; rotate_left
   ·intro w'
    go_simp
    with_reducible rfl
   rotate_left
   ·simp only [Act.put, zC, zD, zE, i64_w, i32_w]
    rfl
   refine pure_ (i := 2) (N := some 22) (v := ?_) (a' := ?_) #[true, true, true, false, false, false, false, false, false, false, false, false] rfl rfl (any_of HT_.out (by kernel_rfl)) (fun _ _ _ h => h) (Or.inl ⟨by rfl, ?_⟩) ?_ ?_; rotate_left
   ·intro w'
    go_simp
    with_reducible rfl
   rotate_left
   ·simp only [Act.put, zC, zD, zE, i64_w, i32_w]
    rfl
   refine pure_ (i := 4) (N := some 24) (v := ?_) (a' := ?_) #[true, true, true, false, true, false, false, false, false, false, false, false] rfl rfl (any_of HT_.out (by kernel_rfl)) (fun _ _ _ h => h) (Or.inl ⟨by rfl, ?_⟩) ?_ ?_; rotate_left
   ·intro w'
    go_simp
    with_reducible rfl
   rotate_left
   ·simp only [Act.put, zC, zD, zE, i64_w, i32_w]
    rfl
   refine pure_ (i := 5) (N := some 25) (v := ?_) (a' := ?_) #[true, true, true, false, true, true, false, false, false, false, false, false] rfl rfl (any_of HT_.out (by kernel_rfl)) (fun _ _ _ h => h) (Or.inl ⟨by rfl, ?_⟩) ?_ ?_; rotate_left
   ·intro w'
    go_simp
    with_reducible rfl
   rotate_left
   ·simp only [Act.put, zC, zD, zE, i64_w, i32_w]
    rfl
   refine pure_ (i := 6) (N := some 26) (v := ?_) (a' := ?_) #[true, true, true, false, true, true, true, false, false, false, false, false] rfl rfl (any_of HT_.out (by kernel_rfl)) (fun _ _ _ h => h) (Or.inl ⟨by rfl, ?_⟩) ?_ ?_; rotate_left
   ·intro w'
    go_simp
    with_reducible rfl
   rotate_left
   ·simp only [Act.put, zC, zD, zE, i64_w, i32_w]
    rfl
   refine take_ (i := 3) (N := some 23) (v := ?_) (a' := ?_) #[true, true, true, true, true, true, true, false, false, false, false, false] rfl rfl (take_ofW HT_.out HW_.out (by kernel_rfl)) (fun _ _ _ h => h) (Or.inl ⟨by rfl, ?_⟩) hHeld ?_ ?_; rotate_left
   ·rintro w' ⟨s0, s1, s2, s3, s4⟩
    go_simp
    with_reducible rfl
   rotate_left
   ·simp only [Act.put, zC, zD, zE, i64_w, i32_w]
    rfl
   refine take_ (i := 7) (N := some 27) (v := ?_) (a' := ?_) #[true, true, true, true, true, true, true, true, false, false, false, false] rfl rfl (take_ofW HT_.out HW_.out (by kernel_rfl)) (fun _ _ _ h => h) (Or.inl ⟨by rfl, ?_⟩) hHeld ?_ ?_; rotate_left
   ·rintro w' ⟨s0, s1, s2, s3, s4⟩
    go_simp
    with_reducible rfl
   rotate_left
   ·simp only [Act.put, zC, zD, zE, i64_w, i32_w]
    rfl
   refine pure_ (i := 8) (N := some 28) (v := ?_) (a' := ?_) #[true, true, true, true, true, true, true, true, true, false, false, false] rfl rfl (any_of HT_.out (by kernel_rfl)) (fun _ _ _ h => h) (Or.inl ⟨by rfl, ?_⟩) ?_ ?_; rotate_left
   ·intro w'
    go_simp
    with_reducible rfl
   rotate_left
   ·simp only [Act.put, zC, zD, zE, i64_w, i32_w]
    rfl
   refine take_ (i := 9) (N := some 29) (v := ?_) (a' := ?_) #[true, true, true, true, true, true, true, true, true, true, false, false] rfl rfl (take_ofW HT_.out HW_.out (by kernel_rfl)) (fun _ _ _ h => h) (Or.inl ⟨by rfl, ?_⟩) hHeld ?_ ?_; rotate_left
   ·rintro w' ⟨s0, s1, s2, s3, s4⟩
    go_simp
    with_reducible rfl
   rotate_left
   ·simp only [Act.put, zC, zD, zE, i64_w, i32_w]
    rfl
   refine one_ (i := 10) (N := some 4) #[true, true, true, true, true, true, true, true, true, true, true, false] rfl rfl (one_of HT_.out (by kernel_rfl)) (by decide) (fun K hK => ?_)
   refine box_step ?hg (N := 4) ?hd (cs := #[.slice none 0 0, .slice none 0 0, .slice none 0 0]) (t := 97) ?hr ?_; (case hd => rfl); (case hg => rfl); (case hr => first | (go_simp; done) | (go_simp; rfl))
   intro gb4 hg w4 hbox hb
   have n0_ := zA (blk_below BKG.out hb)
   have n1_ := zA (zAD HB.out hb)
   have n2_ := zA (HKB.out.trans (KeepBut.of_below hb gg none) (.inl rfl))
   have NBG4 := zA (by rw [hg]; exact zK (blk_lt BKG.out) : gg ≠ gb4)
   have GW4 := zA (by rw [hg]; exact HKB.out.1 : w.heap.size ≤ gb4)
   clear BKG HB HKB hb hg
   have BKG := n0_
   have HB := n1_
   have HKB := n2_
   have BK4 := zA hbox
   clear n0_ n1_ n2_ hbox
   refine hK.out _ _ ⟨(zP BKG.out 0).trans rfl, (zP BKG.out 1).trans rfl, (HB.out.cell (zB w0 _ HX0.out)).trans HX0.out, (HB.out.cell (zB w0 _ HX1.out)).trans HX1.out, (HB.out.cell (zB w0 _ HX2.out)).trans HX2.out⟩ (fun hHeld => ?_)
   clear hK K
   refine norm_ (a' := ?_) ?_ ?_; rotate_left
   ·show Act.put _ (some 4) _ = _
    simp only [Act.put, zC, zD, zE, i64_w, i32_w]; rfl
   refine last_ (i := 11) (N := none) #[true, true, true, true, true, true, true, true, true, true, true, true] rfl rfl (one_of HT_.out (by kernel_rfl)) (by decide) (fun K hK => ?_)
   have hs0 : w4.cell? ⟨gb4, 0, none⟩ = some (.slice none 0 0) := (zP BK4.out 0).trans rfl
   have hs1 : w4.cell? ⟨gb4, 1, none⟩ = some (.slice none 0 0) := (zP BK4.out 1).trans rfl
   have hs2 : w4.cell? ⟨gb4, 2, none⟩ = some (.slice none 0 0) := (zP BK4.out 2).trans rfl
   have hf0 := zO BK4.out 0
   have hf1 := zO BK4.out 1
   have hf2 := zO BK4.out 2
   refine skip_ (w1 := ?_) (by rfl) rfl ?_ ?_; rotate_left
   ·go_simp
    rfl
   refine hK.out _ _ ?_
   clear hK K
   refine done_ (done_of HT_.out (by kernel_rfl)) ?_
   obtain ⟨w5, hw5⟩ : ∃ q, q = ((w4.setCell ⟨gb4, 0, none⟩ (.slice A0 p.f0.length c0)).setCell ⟨gb4, 1, none⟩ (.slice A1 p.f1.length c1)).setCell ⟨gb4, 2, none⟩ (.slice A2 p.f2.length c2) := ⟨_, rfl⟩
   have HG4 := zA (show w0.heap.size ≤ gb4 from by have := GW4.out; have := HGW.out; omega)
   have n0_ := zA (show w5.heap[gg]? = some (.cells #[.slice (some ad) ps.length c, .int .i64 z] 101 (0, 0)) from by rw [hw5]; exact blk_far (blk_far (blk_far BKG.out NBG4.out _) NBG4.out _) NBG4.out _)
   have n1_ := zA (show w5.heap[gb4]? = some (.cells #[.slice A0 p.f0.length c0, .slice A1 p.f1.length c1, .slice A2 p.f2.length c2] 97 (0, 0)) from by rw [hw5]; exact blk_put (blk_put (blk_put BK4.out 0 _ rfl) 1 _ rfl) 2 _ rfl)
   have n2_ := zA (show Below w0.heap.size w0 w5 from by rw [hw5]; exact zI (zI (zI HB.out HG4.out) HG4.out) HG4.out)
   have n3_ := zA (show KeepBut w w5 gg none from by rw [hw5]; exact keep_far (keep_far (keep_far HKB.out GW4.out _) GW4.out _) GW4.out _)
   rw [← hw5]
   clear BKG BK4 HB HKB hw5 hs0 hs1 hs2 hf0 hf1 hf2 hHeld HT_ HW_
   have BKG := n0_
   have BK4 := n1_
   have HB := n2_
   have HKB := n3_
   clear n0_ n1_ n2_ n3_
   have HLN := zA (show p.f0.length < 1099511627776 ∧ p.f1.length < 1099511627776 ∧ p.f2.length < 1099511627776 from HG.out.2 p (List.mem_of_getElem? HP.out))
   obtain ⟨z1, hz1⟩ : ∃ q, q = wrap64 (z + 1) := ⟨_, rfl⟩
   have hw1 : wrap64 (z + 1) = z1 := hz1.symm
   have HZ1 := zA (show z1 = ((at_ + 1 : Nat) : Int) from by rw [hz1]; have := HG.out.1; have := HZ.out; have := HH.out; unfold wrap64; omega)
   clear hz1
   have hx1 : w5.cell? ⟨gg, 1, none⟩ = some (.int .i64 z) := (zP BKG.out 1).trans rfl
   have hfg := zO BKG.out 1
   have hnb := NBG4.out
   have hnc := NBG4.out.symm
   have hz0 : w5.cell? ⟨gb4, 0, none⟩ = some (.slice A0 p.f0.length c0) := (zP BK4.out 0).trans rfl
   have hzz1 : w5.cell? ⟨gb4, 1, none⟩ = some (.slice A1 p.f1.length c1) := (zP BK4.out 1).trans rfl
   have hz2 : w5.cell? ⟨gb4, 2, none⟩ = some (.slice A2 p.f2.length c2) := (zP BK4.out 2).trans rfl
   have hw2 : wrap64 ((p.f0.length : Int) + 1) = ((p.f0.length + 1 : Nat) : Int) := by have := HLN.out; unfold wrap64; omega
   by_cases k1 : p.f0.length ≤ 4
   ·have e1 : decide ((4 : Int) < (p.f0.length : Int)) = false := decide_eq_false (by omega)
    have e1' : decide (4 < p.f0.length) = false := decide_eq_false (by omega)
    have K1 := zA k1
    clear k1
    by_cases k2 : p.f1.length = p.f0.length
    ·have e2 : (((p.f1.length : Int)) != (p.f0.length : Int)) = false := bne_eq_false_iff_eq.mpr (by omega)
     have e2' : (p.f1.length != p.f0.length) = false := bne_eq_false_iff_eq.mpr k2
     have e2'' : (p.f1.length == p.f0.length) = true := beq_iff_eq.mpr k2
     have K2 := zA k2
     clear k2
     by_cases k3 : p.f2.length = 0
     ·have e3 : decide ((0 : Int) < (p.f2.length : Int)) = false := decide_eq_false (by omega)
      have e3' : decide (0 < p.f2.length) = false := decide_eq_false (by omega)
      have K3 := zA k3
      clear k3
      have RR := zA (show readF ps (n + 1) at_ = (match readK (readF ps n) p.f2 (at_ + 1) with | none => none | some (l, e) => some (⟨p.f0, p.f1, l⟩, e)) from by rw [readF, HP.out]; exact if_pos ⟨K1.out, K2.out, .inl K3.out⟩)
      go_wp2
      have HW1 := zA hw1
      (try clear hw1); (try clear hw2); (try clear e1); (try clear e1'); (try clear e2); (try clear e2'); (try clear e2''); (try clear e3); (try clear e3'); (try clear e3''); (try clear e3d); (try clear e4); (try clear e4'); (try clear e4''); (try clear e4x); (try clear b1); (try clear b2); (try clear b4); (try clear b5); (try clear b6); (try clear b7)
      clear hx1 hfg hnb hnc hz0 hzz1 hz2
      have n0_ := zA (show (w5.setCell ⟨gg, 1, none⟩ (.int .i64 z1)).drew.heap[gg]? = some (.cells #[.slice (some ad) ps.length c, .int .i64 z1] 101 (0, 0)) from zN (blk_put BKG.out 1 _ rfl))
      have n1_ := zA (show (w5.setCell ⟨gg, 1, none⟩ (.int .i64 z1)).drew.heap[gb4]? = some (.cells #[.slice A0 p.f0.length c0, .slice A1 p.f1.length c1, .slice A2 p.f2.length c2] 97 (0, 0)) from zN (blk_far BK4.out NBG4.out.symm _))
      have n2_ := zA (zG (zI HB.out hgg (j := 1) (v := .int .i64 z1)))
      have n3_ := zA (keep_drew (KeepBut.set_ HKB.out 1 (.int .i64 z1)))
      clear BKG BK4 HB HKB
      have BKG := n0_
      have BK4 := n1_
      have HB := n2_
      have HKB := n3_
      clear n0_ n1_ n2_ n3_
      have HCL0 := zA (show slices_Clone_string_string.f p.f0 = some p.f0 from by unfold slices_Clone_string_string.f; rw [Option.bind_some, if_pos (by have := HLN.out; simp only [List.length_nil]; omega), List.nil_append])
      have HCL1 := zA (show slices_Clone_string_string.f p.f1 = some p.f1 from by unfold slices_Clone_string_string.f; rw [Option.bind_some, if_pos (by have := HLN.out; simp only [List.length_nil]; omega), List.nil_append])
      refine start_ (n := 9) (S := fun w' => w'.cell? ⟨gb4, 0, none⟩ = some (.slice A0 p.f0.length c0) ∧ w'.cell? ⟨gb4, 1, none⟩ = some (.slice A1 p.f1.length c1)) (ds := []) #[false, false, false, false, false, false, false, false, false] (by kernel_rfl) rfl rfl ⟨(zP BK4.out 0).trans rfl, (zP BK4.out 1).trans rfl⟩ (fun hHeld => ?_)
      refine with_tabW nodeI.tab7 nodeI.bits7 (fun HT_ HW_ => ?_)
      generalize (w5.setCell ⟨gg, 1, none⟩ (.int .i64 z1)).drew = w6 at BKG BK4 HB HKB hHeld ⊢
      refine pure_ (i := 0) (N := some 66) (v := ?_) (a' := ?_) #[true, false, false, false, false, false, false, false, false] rfl rfl (any_of HT_.out (by kernel_rfl)) (fun _ _ _ h => h) (Or.inl ⟨by rfl, ?_⟩) ?_ ?_; rotate_left
      ·intro w'
       go_simp
       with_reducible rfl
      rotate_left
      ·simp only [Act.put, zC, zD, zE, i64_w, i32_w]
       rfl
      refine take_ (i := 1) (N := some 67) (v := ?_) (a' := ?_) #[true, true, false, false, false, false, false, false, false] rfl rfl (take_ofW HT_.out HW_.out (by kernel_rfl)) (fun _ _ _ h => h) (Or.inl ⟨by rfl, ?_⟩) hHeld ?_ ?_; rotate_left
      ·rintro w' ⟨s0, s1⟩
       go_simp
       with_reducible rfl
      rotate_left
      ·simp only [Act.put, zC, zD, zE, i64_w, i32_w]
       rfl
      refine pure_ (i := 3) (N := some 69) (v := ?_) (a' := ?_) #[true, true, false, true, false, false, false, false, false] rfl rfl (any_of HT_.out (by kernel_rfl)) (fun _ _ _ h => h) (Or.inl ⟨by rfl, ?_⟩) ?_ ?_; rotate_left
      ·intro w'
       go_simp
       with_reducible rfl
      rotate_left
      ·simp only [Act.put, zC, zD, zE, i64_w, i32_w]
       rfl
      refine take_ (i := 4) (N := some 70) (v := ?_) (a' := ?_) #[true, true, false, true, true, false, false, false, false] rfl rfl (take_ofW HT_.out HW_.out (by kernel_rfl)) (fun _ _ _ h => h) (Or.inl ⟨by rfl, ?_⟩) hHeld ?_ ?_; rotate_left
      ·rintro w' ⟨s0, s1⟩
       go_simp
       with_reducible rfl
      rotate_left
      ·simp only [Act.put, zC, zD, zE, i64_w, i32_w]
       rfl
      refine one_ (i := 2) (N := some 68) #[true, true, true, true, true, false, false, false, false] rfl rfl (one_of HT_.out (by kernel_rfl)) (by decide) (fun K hK => ?_)
      refine goes_ Try.func65 (by kernel_rfl) rfl #[.slice A0 p.f0.length c0] (by rfl) rfl rfl (by (try simp only [zAA, zAB, zAC]); first | done | rfl | (simp only [zZ, zY]; rfl)) ?_
      with_reducible refine (slices_Clone_string_string.calls _ _ p.f0 p.f0 _ ?side1 ?side2 HCL0.out).mono ?_
      (case side1 => exact Kd.C_below HR0.out HB.out); (case side2 => exact HL0.out)
      rintro e w7 ⟨v68, rfl, ho, hb⟩
      refine ⟨_, rfl, ?_⟩
      have n0_ := zA (Kd.R_lower (Kd.R_mono (Kd.R_bound ho) (fun k hk => Nat.le_trans HKB.out.1 hk.2.1) : Kd.R Kd.string 9 w7 w6.heap.size (fun k => w.heap.size ≤ k) v68 p.f0) (zAE HB.out))
      have n1_ := zA (blk_below BKG.out hb)
      have n2_ := zA (blk_below BK4.out hb)
      have n3_ := zA (zAD HB.out hb)
      have n4_ := zA (HKB.out.trans (KeepBut.of_below hb gg none) (.inl rfl))
      clear BKG BK4 HB HKB ho hb
      have HO68 := n0_
      have BKG := n1_
      have BK4 := n2_
      have HB := n3_
      have HKB := n4_
      clear n0_ n1_ n2_ n3_ n4_
      refine hK.out _ _ ⟨(zP BK4.out 0).trans rfl, (zP BK4.out 1).trans rfl⟩ (fun hHeld => ?_)
      clear hK K
      refine norm_ (a' := ?_) ?_ ?_; rotate_left
      ·show Act.put _ (some 68) _ = _
       simp only [Act.put, zC, zD, zE, i64_w, i32_w]; rfl
      refine one_ (i := 5) (N := some 71) #[true, true, true, true, true, true, false, false, false] rfl rfl (one_of HT_.out (by kernel_rfl)) (by decide) (fun K hK => ?_)
      refine goes_ Try.func65 (by kernel_rfl) rfl #[.slice A1 p.f1.length c1] (by rfl) rfl rfl (by (try simp only [zAA, zAB, zAC]); first | done | rfl | (simp only [zZ, zY]; rfl)) ?_
      with_reducible refine (slices_Clone_string_string.calls _ _ p.f1 p.f1 _ ?side1 ?side2 HCL1.out).mono ?_
      (case side1 => exact Kd.C_below HR1.out HB.out); (case side2 => exact HL1.out)
      rintro e w8 ⟨v71, rfl, ho, hb⟩
      refine ⟨_, rfl, ?_⟩
      have n0_ := zA (Kd.R_lower (Kd.R_mono (Kd.R_bound ho) (fun k hk => Nat.le_trans HKB.out.1 hk.2.1) : Kd.R Kd.string 9 w8 w7.heap.size (fun k => w.heap.size ≤ k) v71 p.f1) (zAE HB.out))
      have n1_ := zA (blk_below BKG.out hb)
      have n2_ := zA (blk_below BK4.out hb)
      have n3_ := zA (zAD HB.out hb)
      have n4_ := zA (HKB.out.trans (KeepBut.of_below hb gg none) (.inl rfl))
      have n5_ := zA (Kd.R_below HO68.out hb)
      clear BKG BK4 HB HKB ho hb HO68
      have HO71 := n0_
      have BKG := n1_
      have BK4 := n2_
      have HB := n3_
      have HKB := n4_
      have HO68 := n5_
      clear n0_ n1_ n2_ n3_ n4_ n5_
      obtain ⟨A68, c68, eo⟩ := Kd.R_slice HO68.out
      subst eo
      obtain ⟨A71, c71, eo⟩ := Kd.R_slice HO71.out
      subst eo
      refine hK.out _ _ ⟨(zP BK4.out 0).trans rfl, (zP BK4.out 1).trans rfl⟩ (fun hHeld => ?_)
      clear hK K
      refine norm_ (a' := ?_) ?_ ?_; rotate_left
      ·show Act.put _ (some 71) _ = _
       simp only [Act.put, zC, zD, zE, i64_w, i32_w]; rfl
      refine pure_ (i := 6) (N := some 72) (v := ?_) (a' := ?_) #[true, true, true, true, true, true, true, false, false] rfl rfl (any_of HT_.out (by kernel_rfl)) (fun _ _ _ h => h) (Or.inl ⟨by rfl, ?_⟩) ?_ ?_; rotate_left
      ·intro w'
       go_simp
       with_reducible rfl
      rotate_left
      ·simp only [Act.put, zC, zD, zE, i64_w, i32_w]
       rfl
      refine one_ (i := 7) (N := some 73) #[true, true, true, true, true, true, true, true, false] rfl rfl (one_of HT_.out (by kernel_rfl)) (by decide) (fun K hK => ?_)
      refine box_step ?hg (N := 73) ?hd (cs := #[.slice A68 p.f0.length c68, .slice A71 p.f1.length c71, .slice none 0 0]) (t := 74) ?hr ?_; (case hd => rfl); (case hg => rfl); (case hr => first | (go_simp; done) | (go_simp; rfl))
      intro gb5 hg w9 hbox hb
      have n1_ := zA (blk_below BKG.out hb)
      have n2_ := zA (blk_below BK4.out hb)
      have n3_ := zA (zAD HB.out hb)
      have n4_ := zA (HKB.out.trans (KeepBut.of_below hb gg none) (.inl rfl))
      have n5_ := zA (Kd.R_below HO68.out hb)
      have n6_ := zA (Kd.R_below HO71.out hb)
      have GW5 := zA (by rw [hg]; exact HKB.out.1 : w.heap.size ≤ gb5)
      have NBG5 := zA (by rw [hg]; exact zK (blk_lt BKG.out) : gg ≠ gb5)
      clear BKG BK4 HB HKB hb HO68 HO71 hg
      have BKG := n1_
      have BK4 := n2_
      have HB := n3_
      have HKB := n4_
      have HO68 := n5_
      have HO71 := n6_
      have BK5 := zA hbox
      clear n1_ n2_ n3_ n4_ n5_ n6_ hbox
      refine hK.out _ _ ⟨(zP BK4.out 0).trans rfl, (zP BK4.out 1).trans rfl⟩ (fun hHeld => ?_)
      clear hK K
      refine norm_ (a' := ?_) ?_ ?_; rotate_left
      ·show Act.put _ (some 73) _ = _
       simp only [Act.put, zC, zD, zE, i64_w, i32_w]; rfl
      refine pure_ (i := 8) (N := some 5) (v := ?_) (a' := ?_) #[true, true, true, true, true, true, true, true, true] rfl rfl (any_of HT_.out (by kernel_rfl)) (fun _ _ _ h => h) (Or.inl ⟨by rfl, ?_⟩) ?_ ?_; rotate_left
      ·intro w'
       go_simp
       with_reducible rfl
      rotate_left
      ·simp only [Act.put, zC, zD, zE, i64_w, i32_w]
       rfl
      refine done_ (done_of HT_.out (by kernel_rfl)) ?_
      clear hHeld HT_ HW_
      have hz2 : w9.cell? ⟨gb4, 2, none⟩ = some (.slice A2 p.f2.length c2) := (zP BK4.out 2).trans rfl
      go_wp2
      go_loopg [77] (p.f2.length + 1) (fun kq v77 w' => ∃ (i nx : Nat) (kids : List S74) (vC : Value), v77 = .int .i64 (i : Int) ∧ Aside0 (kq + i = p.f2.length + 1) ∧ Aside0 (i ≤ p.f2.length) ∧ Aside0 (readK (readF ps n) p.f2 (at_ + 1) = (match readK (readF ps n) (p.f2.drop i) nx with | none => none | some (l, e) => some (kids.map er74 ++ l, e))) ∧ Aside0 (kids.length = i) ∧ Aside0 (at_ < nx ∧ nx ≤ ps.length) ∧ Aside0 (Kd.R Kd.string 9 w' w0.heap.size (fun k => w.heap.size ≤ k) (.slice A68 p.f0.length c68) p.f0) ∧ Aside0 (Kd.R Kd.string 9 w' w0.heap.size (fun k => w.heap.size ≤ k) (.slice A71 p.f1.length c71) p.f1) ∧ Aside0 (Kd.R k74p 60 w' w0.heap.size (fun k => w.heap.size ≤ k ∧ k ≠ gb5) vC kids) ∧ Aside0 (w'.heap[gb5]? = some (.cells #[.slice A68 p.f0.length c68, .slice A71 p.f1.length c71, vC] 74 (0, 0))) ∧ Aside0 (w'.heap[gg]? = some (.cells #[.slice (some ad) ps.length c, .int .i64 (nx : Int)] 101 (0, 0))) ∧ Aside0 (Below w0.heap.size w0 w') ∧ Aside0 (KeepBut w w' gg none))
      case atStart => exact ⟨0, at_ + 1, [], .slice none 0 0, rfl, ⟨by omega⟩, ⟨by omega⟩, ⟨by rw [List.drop_zero]; cases readK (readF ps n) p.f2 (at_ + 1) with | none => rfl | some q => rfl⟩, ⟨rfl⟩, ⟨by have := HH.out; omega⟩, HO68, HO71, ⟨Kd.R_nil _ _ _ _ _⟩, BK5, ⟨by rw [← HZ1.out]; exact BKG.out⟩, HB, HKB⟩
      case round =>
       clear HO68 HO71 BK5 BKG BK4 HB HKB hz2
       obtain ⟨i, nx, kids, vC, rfl, HK, HI, HRD, HKL, HNX, HO68, HO71, HOC, BK5, BKG, HB, HKB⟩ := hrel
       have hcg : wr.cell? ⟨gg, 1, none⟩ = some (.int .i64 (nx : Int)) := (zP BKG.out 1).trans rfl
       by_cases hi : i < p.f2.length
       ·obtain ⟨g1, rfl⟩ : ∃ g1, gk = g1 + 1 := ⟨gk - 1, by have := HK.out; omega⟩
        have q1 : ((i : Int) < (p.f2.length : Int)) = True := eq_true (by omega)
        have q2 : (i < p.f2.length) = True := eq_true hi
        have q3 : decide ((i : Int) < (p.f2.length : Int)) = true := decide_eq_true (by omega)
        obtain ⟨adk, ek, hk0⟩ := Kd.at_int HR2.out (i : Int) (by omega) (by omega)
        subst ek
        rw [Int.toNat_natCast] at hk0
        have hk1 := (HB.out.cell (zB w0 _ hk0)).trans hk0
        obtain ⟨kk, hkk⟩ : ∃ q, q = rd p.f2 (i : Int) := ⟨_, rfl⟩
        rw [← hkk] at hk0 hk1
        have ED : p.f2.drop i = kk :: p.f2.drop (i + 1) := by
         rw [List.drop_eq_getElem_cons hi, hkk]
         congr 1
         unfold rd
         rw [Int.toNat_natCast, List.getD_eq_getElem?_getD, List.getElem?_eq_getElem hi]; rfl
        have HED := zA ED
        clear ED hkk hk0
        by_cases ck : kk = (nx : Int)
        ·have c1 : (kk != (nx : Int)) = false := bne_eq_false_iff_eq.mpr ck
         have c2 : (kk == (nx : Int)) = true := beq_iff_eq.mpr ck
         have CK := zA ck
         have hI := ih nx wr HNX.out.2 (by have := HNX.out; have := HN.out; omega) HB.out BKG.out
         have HRK := zA (show readK (readF ps n) (p.f2.drop i) nx = (match readF ps n nx with | none => none | some (t, e) => (match readK (readF ps n) (p.f2.drop (i + 1)) e with | none => none | some (l, e') => some (t :: l, e'))) from by rw [HED.out, readK, if_pos CK.out]; rfl)
         cases hR : readF ps n nx with
         | none =>
          rw [hR] at hI HRK
          have HRR := zA (show readF ps (n + 1) at_ = none from by rw [RR.out, HRD.out, HRK.out])
          clear ck hR
          go_wp2_with (first | ((with_reducible refine gate_callee (f := 61) rfl ?_); refine goesL_ (some 89) rfl rfl Try.func61 (by kernel_rfl) rfl #[.pointer (some ⟨gg, 0, none⟩)] rfl (by (try simp only [zAA, zAB, zAC]); first | done | rfl) ?_; refine hI.mono ?_; rintro e w10 ⟨rfl, hb⟩; refine ⟨_, rfl, ?_⟩; clear HB hcg; have HB := zA hb; clear hb))
          go_ret2
          exact (show Post74 (n + 1) w0 w gg (some ad) ps.length c (readF ps (n + 1) at_) _ _ from (by rw [HRR.out]; exact ⟨by first | rfl | (simp <;> rfl), HB.out⟩))
         | some te =>
          obtain ⟨t, e1⟩ := te
          rw [hR] at hI HRK
          have HLE := zA (readF_le ps n nx t e1 hR)
          clear ck hR
          go_wp2_with (first | ((with_reducible refine gate_callee (f := 61) rfl ?_); refine goesL_ (some 89) rfl rfl Try.func61 (by kernel_rfl) rfl #[.pointer (some ⟨gg, 0, none⟩)] rfl (by (try simp only [zAA, zAB, zAC]); first | done | rfl) ?_; refine hI.mono ?_; rintro e w10 ⟨x, rfl, hx1, hM, hb, hkb, hkg⟩; refine ⟨_, rfl, ?_⟩; have HVL := zA (Kd.R_lt HOC.out); have HGL := zA (blk_lt BK5.out); have HWS := zA hkb.1; have HWR := zA HKB.out.1; have HXE := zA hx1; have HM := zA hM; have n0_ := zA hb; have n1_ := zA hkg; have n2_ := zA (hkb.blk BK5.out (NBG5.out.symm) (by simp)); have n3_ := zA (Kd.R_keep HO68.out hkb (fun k hk => by have := HGW.out; omega)); have n4_ := zA (Kd.R_keep HO71.out hkb (fun k hk => by have := HGW.out; omega)); have n5_ := zA (Kd.R_keep HOC.out hkb (fun k hk => by have := HGW.out; have := hk.1; omega)); have n6_ := zA (HKB.out.trans hkb (.inl rfl)); clear HB BKG BK5 HO68 HO71 HOC HKB hb hkb hkg hx1 hM hcg; have HB := n0_; have BKG := n1_; have BK5 := n2_; have HO68 := n3_; have HO71 := n4_; have HOC := n5_; have HKB := n6_; clear n0_ n1_ n2_ n3_ n4_ n5_ n6_; have hc9 : w10.cell? ⟨gb5, 2, none⟩ = some vC := (zP BK5.out 2).trans rfl) | ((with_reducible refine gate_builtin (b := .append) (xs := #[.tmp 98, .tmp 100]) rfl ?_); at_builtin; refine Kd.R_append k74p (w0 := w0) w0.heap.size rfl (.tmp 98) (.tmp 100) 72 60 (.pointer none) 8 rfl Try.underlying72 info60 rfl (by decide) (by omega) vC kids x [.pointer (some ⟨x.adr, 0, none⟩)] (fun k => w.heap.size ≤ k ∧ k ≠ gb5) (fun k => wr.heap.size ≤ k) rfl rfl ?aP ?aK ?aF ?aO ?aB ?aS ?aL ?_; (case aP => exact HM.out); (case aK => exact (fun k hk => ⟨⟨by have := HWR.out; omega, by have := HGL.out; omega⟩, fun e => by have := HVL.out k e.symm; omega⟩)); (case aF => exact (fun k hk => ⟨by have := HWS.out; have := HWR.out; omega, by have := HGL.out; have := HWS.out; omega⟩)); (case aO => exact HOC.out); (case aB => exact HB.out); (case aS => exact (zAE HB.out)); (case aL => have := HLN.out; have := HKL.out; omega); intro v101 w11 ho hb hg hat; obtain ⟨ys, hys⟩ : ∃ ys, ys = kids ++ [x] := ⟨_, rfl⟩; rw [← hys] at ho; have HYS := zA hys; clear hys; have n0_ := zA ho; have n1_ := zA hb; have n2_ := zA (blk_grown BK5.out hg (Kd.R_ne HOC.out BK5.out (by decide))); have n3_ := zA (blk_grown BKG.out hg (Kd.R_ne HOC.out BKG.out (by decide))); have n4_ := zA (Kd.R_mono (Kd.R_grown (R_apart HO68.out HOC.out (by decide)) hg (fun _ hk => hk.2)) (fun _ hk => hk.1) : Kd.R Kd.string 9 w11 w0.heap.size (fun k => w.heap.size ≤ k) (.slice A68 p.f0.length c68) p.f0); have n5_ := zA (Kd.R_mono (Kd.R_grown (R_apart HO71.out HOC.out (by decide)) hg (fun _ hk => hk.2)) (fun _ hk => hk.1) : Kd.R Kd.string 9 w11 w0.heap.size (fun k => w.heap.size ≤ k) (.slice A71 p.f1.length c71) p.f1); have n6_ := zA (HKB.out.trans (KeepBut.of_grown hg gg) (by cases hvo : vC.ownBlock with | none => exact .inl rfl | some b => exact .inr ⟨b, rfl, (HOC.out.1 b hvo).1⟩)); clear HB BKG BK5 HO68 HO71 HOC HKB hc9 ho hb hg hat; have HOC := n0_; have HB := n1_; have BK5 := n2_; have BKG := n3_; have HO68 := n4_; have HO71 := n5_; have HKB := n6_; clear n0_ n1_ n2_ n3_ n4_ n5_ n6_; have hc11 : w11.cell? ⟨gb5, 2, none⟩ = some vC := (zP BK5.out 2).trans rfl; have hf11 := zO BK5.out 2; obtain ⟨A97, c97, eo⟩ := Kd.R_slice HOC.out; subst eo))
          go_roundg g1
          case measure => omega
          case rel => exact ⟨i + 1, e1, ys, _, by rw [w64N i (by have := HLN.out; omega)], ⟨by have := HK.out; omega⟩, ⟨by omega⟩, ⟨by
            rw [HRD.out, HRK.out]
            cases readK (readF ps n) (p.f2.drop (i + 1)) e1 with
            | none => rfl
            | some q =>
             show some (kids.map er74 ++ (t :: q.1), q.2) = some (ys.map er74 ++ q.1, q.2)
             rw [HYS.out, List.map_append, List.append_assoc, ← HXE.out]; rfl⟩, ⟨by rw [HYS.out, List.length_append, HKL.out]; rfl⟩, ⟨by have := HNX.out; have := HLE.out; omega⟩,
           ⟨Kd.R_set HO68.out BK5.out (by decide) 2 _⟩, ⟨Kd.R_set HO71.out BK5.out (by decide) 2 _⟩, ⟨Kd.R_far (p := ⟨gb5, 2, none⟩) HOC.out (fun _ hk => hk.2) _⟩, ⟨blk_put BK5.out 2 _ rfl⟩, ⟨blk_far BKG.out NBG5.out _⟩, ⟨zI HB.out (by have := GW5.out; have := HGW.out; omega)⟩, ⟨keep_far HKB.out GW5.out _⟩⟩
        ·have c1 : (kk != (nx : Int)) = true := bne_iff_ne.mpr ck
         have c2 : (kk == (nx : Int)) = false := beq_eq_false_iff_ne.mpr ck
         have CK := zA ck
         have HRR := zA (show readF ps (n + 1) at_ = none from by rw [RR.out, HRD.out, HED.out, readK, if_neg CK.out])
         clear ck
         go_wp2
         go_ret2
         exact (show Post74 (n + 1) w0 w gg (some ad) ps.length c (readF ps (n + 1) at_) _ _ from (by rw [HRR.out]; exact ⟨by first | rfl | (simp <;> rfl), HB.out⟩))
       ·have q3 : decide ((i : Int) < (p.f2.length : Int)) = false := decide_eq_false (by omega)
        have HRR := zA (show readF ps (n + 1) at_ = some (⟨p.f0, p.f1, kids.map er74⟩, nx) from by
         rw [RR.out, HRD.out, List.drop_eq_nil_of_le (by have := HI.out; omega), readK]
         show some (T.mk p.f0 p.f1 (kids.map er74 ++ []), nx) = _
         rw [List.append_nil])
        obtain ⟨A99, c99, eo⟩ := Kd.R_slice HOC.out
        subst eo
        go_wp2
        go_ret2
        exact (show Post74 (n + 1) w0 w gg (some ad) ps.length c (readF ps (n + 1) at_) _ _ from (by
         rw [HRR.out]
         exact ⟨⟨gb5, p.f0, p.f1, kids⟩, by first | rfl | (simp <;> rfl), er74_eq _, k74p_mkM GW5.out (by have := GW5.out; have := HGW.out; show w0.heap.size ≤ gb5; omega) BK5.out (Kd.R_types HO68.out BK5.out (by decide)) (Kd.R_types HO71.out BK5.out (by decide)) HOC.out, HB.out, HKB.out, BKG.out⟩))
     ·have e3 : decide ((0 : Int) < (p.f2.length : Int)) = true := decide_eq_true (by omega)
      have e3' : decide (0 < p.f2.length) = true := decide_eq_true (by omega)
      have K3 := zA k3
      clear k3
      by_cases k4 : p.f2.length = p.f0.length + 1
      ·have e4 : (((p.f2.length : Int)) != ((p.f0.length + 1 : Nat) : Int)) = false := bne_eq_false_iff_eq.mpr (by omega)
       have e4' : (p.f2.length != p.f0.length + 1) = false := bne_eq_false_iff_eq.mpr k4
       have e4'' : (p.f2.length == p.f0.length + 1) = true := beq_iff_eq.mpr k4
       have e4x : (((p.f2.length : Int)) != (p.f0.length : Int) + 1) = false := bne_eq_false_iff_eq.mpr (by omega)
       have K4 := zA k4
       clear k4
       have RR := zA (show readF ps (n + 1) at_ = (match readK (readF ps n) p.f2 (at_ + 1) with | none => none | some (l, e) => some (⟨p.f0, p.f1, l⟩, e)) from by rw [readF, HP.out]; exact if_pos ⟨K1.out, K2.out, .inr K4.out⟩)
       go_wp2
       have HW1 := zA hw1
       (try clear hw1); (try clear hw2); (try clear e1); (try clear e1'); (try clear e2); (try clear e2'); (try clear e2''); (try clear e3); (try clear e3'); (try clear e3''); (try clear e3d); (try clear e4); (try clear e4'); (try clear e4''); (try clear e4x); (try clear b1); (try clear b2); (try clear b4); (try clear b5); (try clear b6); (try clear b7)
       clear hx1 hfg hnb hnc hz0 hzz1 hz2
       have n0_ := zA (show (w5.setCell ⟨gg, 1, none⟩ (.int .i64 z1)).drew.heap[gg]? = some (.cells #[.slice (some ad) ps.length c, .int .i64 z1] 101 (0, 0)) from zN (blk_put BKG.out 1 _ rfl))
       have n1_ := zA (show (w5.setCell ⟨gg, 1, none⟩ (.int .i64 z1)).drew.heap[gb4]? = some (.cells #[.slice A0 p.f0.length c0, .slice A1 p.f1.length c1, .slice A2 p.f2.length c2] 97 (0, 0)) from zN (blk_far BK4.out NBG4.out.symm _))
       have n2_ := zA (zG (zI HB.out hgg (j := 1) (v := .int .i64 z1)))
       have n3_ := zA (keep_drew (KeepBut.set_ HKB.out 1 (.int .i64 z1)))
       clear BKG BK4 HB HKB
       have BKG := n0_
       have BK4 := n1_
       have HB := n2_
       have HKB := n3_
       clear n0_ n1_ n2_ n3_
       have HCL0 := zA (show slices_Clone_string_string.f p.f0 = some p.f0 from by unfold slices_Clone_string_string.f; rw [Option.bind_some, if_pos (by have := HLN.out; simp only [List.length_nil]; omega), List.nil_append])
       have HCL1 := zA (show slices_Clone_string_string.f p.f1 = some p.f1 from by unfold slices_Clone_string_string.f; rw [Option.bind_some, if_pos (by have := HLN.out; simp only [List.length_nil]; omega), List.nil_append])
       refine start_ (n := 9) (S := fun w' => w'.cell? ⟨gb4, 0, none⟩ = some (.slice A0 p.f0.length c0) ∧ w'.cell? ⟨gb4, 1, none⟩ = some (.slice A1 p.f1.length c1)) (ds := []) #[false, false, false, false, false, false, false, false, false] (by kernel_rfl) rfl rfl ⟨(zP BK4.out 0).trans rfl, (zP BK4.out 1).trans rfl⟩ (fun hHeld => ?_)
       refine with_tabW nodeI.tab7 nodeI.bits7 (fun HT_ HW_ => ?_)
       generalize (w5.setCell ⟨gg, 1, none⟩ (.int .i64 z1)).drew = w6 at BKG BK4 HB HKB hHeld ⊢
       refine pure_ (i := 0) (N := some 66) (v := ?_) (a' := ?_) #[true, false, false, false, false, false, false, false, false] rfl rfl (any_of HT_.out (by kernel_rfl)) (fun _ _ _ h => h) (Or.inl ⟨by rfl, ?_⟩) ?_ ?_; rotate_left
       ·intro w'
        go_simp
        with_reducible rfl
       rotate_left
       ·simp only [Act.put, zC, zD, zE, i64_w, i32_w]
        rfl
       refine take_ (i := 1) (N := some 67) (v := ?_) (a' := ?_) #[true, true, false, false, false, false, false, false, false] rfl rfl (take_ofW HT_.out HW_.out (by kernel_rfl)) (fun _ _ _ h => h) (Or.inl ⟨by rfl, ?_⟩) hHeld ?_ ?_; rotate_left
       ·rintro w' ⟨s0, s1⟩
        go_simp
        with_reducible rfl
       rotate_left
       ·simp only [Act.put, zC, zD, zE, i64_w, i32_w]
        rfl
       refine pure_ (i := 3) (N := some 69) (v := ?_) (a' := ?_) #[true, true, false, true, false, false, false, false, false] rfl rfl (any_of HT_.out (by kernel_rfl)) (fun _ _ _ h => h) (Or.inl ⟨by rfl, ?_⟩) ?_ ?_; rotate_left
       ·intro w'
        go_simp
        with_reducible rfl
       rotate_left
       ·simp only [Act.put, zC, zD, zE, i64_w, i32_w]
        rfl
       refine take_ (i := 4) (N := some 70) (v := ?_) (a' := ?_) #[true, true, false, true, true, false, false, false, false] rfl rfl (take_ofW HT_.out HW_.out (by kernel_rfl)) (fun _ _ _ h => h) (Or.inl ⟨by rfl, ?_⟩) hHeld ?_ ?_; rotate_left
       ·rintro w' ⟨s0, s1⟩
        go_simp
        with_reducible rfl
       rotate_left
       ·simp only [Act.put, zC, zD, zE, i64_w, i32_w]
        rfl
       refine one_ (i := 2) (N := some 68) #[true, true, true, true, true, false, false, false, false] rfl rfl (one_of HT_.out (by kernel_rfl)) (by decide) (fun K hK => ?_)
       refine goes_ Try.func65 (by kernel_rfl) rfl #[.slice A0 p.f0.length c0] (by rfl) rfl rfl (by (try simp only [zAA, zAB, zAC]); first | done | rfl | (simp only [zZ, zY]; rfl)) ?_
       with_reducible refine (slices_Clone_string_string.calls _ _ p.f0 p.f0 _ ?side1 ?side2 HCL0.out).mono ?_
       (case side1 => exact Kd.C_below HR0.out HB.out); (case side2 => exact HL0.out)
       rintro e w7 ⟨v68, rfl, ho, hb⟩
       refine ⟨_, rfl, ?_⟩
       have n0_ := zA (Kd.R_lower (Kd.R_mono (Kd.R_bound ho) (fun k hk => Nat.le_trans HKB.out.1 hk.2.1) : Kd.R Kd.string 9 w7 w6.heap.size (fun k => w.heap.size ≤ k) v68 p.f0) (zAE HB.out))
       have n1_ := zA (blk_below BKG.out hb)
       have n2_ := zA (blk_below BK4.out hb)
       have n3_ := zA (zAD HB.out hb)
       have n4_ := zA (HKB.out.trans (KeepBut.of_below hb gg none) (.inl rfl))
       clear BKG BK4 HB HKB ho hb
       have HO68 := n0_
       have BKG := n1_
       have BK4 := n2_
       have HB := n3_
       have HKB := n4_
       clear n0_ n1_ n2_ n3_ n4_
       refine hK.out _ _ ⟨(zP BK4.out 0).trans rfl, (zP BK4.out 1).trans rfl⟩ (fun hHeld => ?_)
       clear hK K
       refine norm_ (a' := ?_) ?_ ?_; rotate_left
       ·show Act.put _ (some 68) _ = _
        simp only [Act.put, zC, zD, zE, i64_w, i32_w]; rfl
       refine one_ (i := 5) (N := some 71) #[true, true, true, true, true, true, false, false, false] rfl rfl (one_of HT_.out (by kernel_rfl)) (by decide) (fun K hK => ?_)
       refine goes_ Try.func65 (by kernel_rfl) rfl #[.slice A1 p.f1.length c1] (by rfl) rfl rfl (by (try simp only [zAA, zAB, zAC]); first | done | rfl | (simp only [zZ, zY]; rfl)) ?_
       with_reducible refine (slices_Clone_string_string.calls _ _ p.f1 p.f1 _ ?side1 ?side2 HCL1.out).mono ?_
       (case side1 => exact Kd.C_below HR1.out HB.out); (case side2 => exact HL1.out)
       rintro e w8 ⟨v71, rfl, ho, hb⟩
       refine ⟨_, rfl, ?_⟩
       have n0_ := zA (Kd.R_lower (Kd.R_mono (Kd.R_bound ho) (fun k hk => Nat.le_trans HKB.out.1 hk.2.1) : Kd.R Kd.string 9 w8 w7.heap.size (fun k => w.heap.size ≤ k) v71 p.f1) (zAE HB.out))
       have n1_ := zA (blk_below BKG.out hb)
       have n2_ := zA (blk_below BK4.out hb)
       have n3_ := zA (zAD HB.out hb)
       have n4_ := zA (HKB.out.trans (KeepBut.of_below hb gg none) (.inl rfl))
       have n5_ := zA (Kd.R_below HO68.out hb)
       clear BKG BK4 HB HKB ho hb HO68
       have HO71 := n0_
       have BKG := n1_
       have BK4 := n2_
       have HB := n3_
       have HKB := n4_
       have HO68 := n5_
       clear n0_ n1_ n2_ n3_ n4_ n5_
       obtain ⟨A68, c68, eo⟩ := Kd.R_slice HO68.out
       subst eo
       obtain ⟨A71, c71, eo⟩ := Kd.R_slice HO71.out
       subst eo
       refine hK.out _ _ ⟨(zP BK4.out 0).trans rfl, (zP BK4.out 1).trans rfl⟩ (fun hHeld => ?_)
       clear hK K
       refine norm_ (a' := ?_) ?_ ?_; rotate_left
       ·show Act.put _ (some 71) _ = _
        simp only [Act.put, zC, zD, zE, i64_w, i32_w]; rfl
       refine pure_ (i := 6) (N := some 72) (v := ?_) (a' := ?_) #[true, true, true, true, true, true, true, false, false] rfl rfl (any_of HT_.out (by kernel_rfl)) (fun _ _ _ h => h) (Or.inl ⟨by rfl, ?_⟩) ?_ ?_; rotate_left
       ·intro w'
        go_simp
        with_reducible rfl
       rotate_left
       ·simp only [Act.put, zC, zD, zE, i64_w, i32_w]
        rfl
       refine one_ (i := 7) (N := some 73) #[true, true, true, true, true, true, true, true, false] rfl rfl (one_of HT_.out (by kernel_rfl)) (by decide) (fun K hK => ?_)
       refine box_step ?hg (N := 73) ?hd (cs := #[.slice A68 p.f0.length c68, .slice A71 p.f1.length c71, .slice none 0 0]) (t := 74) ?hr ?_; (case hd => rfl); (case hg => rfl); (case hr => first | (go_simp; done) | (go_simp; rfl))
       intro gb5 hg w9 hbox hb
       have n1_ := zA (blk_below BKG.out hb)
       have n2_ := zA (blk_below BK4.out hb)
       have n3_ := zA (zAD HB.out hb)
       have n4_ := zA (HKB.out.trans (KeepBut.of_below hb gg none) (.inl rfl))
       have n5_ := zA (Kd.R_below HO68.out hb)
       have n6_ := zA (Kd.R_below HO71.out hb)
       have GW5 := zA (by rw [hg]; exact HKB.out.1 : w.heap.size ≤ gb5)
       have NBG5 := zA (by rw [hg]; exact zK (blk_lt BKG.out) : gg ≠ gb5)
       clear BKG BK4 HB HKB hb HO68 HO71 hg
       have BKG := n1_
       have BK4 := n2_
       have HB := n3_
       have HKB := n4_
       have HO68 := n5_
       have HO71 := n6_
       have BK5 := zA hbox
       clear n1_ n2_ n3_ n4_ n5_ n6_ hbox
       refine hK.out _ _ ⟨(zP BK4.out 0).trans rfl, (zP BK4.out 1).trans rfl⟩ (fun hHeld => ?_)
       clear hK K
       refine norm_ (a' := ?_) ?_ ?_; rotate_left
       ·show Act.put _ (some 73) _ = _
        simp only [Act.put, zC, zD, zE, i64_w, i32_w]; rfl
       refine pure_ (i := 8) (N := some 5) (v := ?_) (a' := ?_) #[true, true, true, true, true, true, true, true, true] rfl rfl (any_of HT_.out (by kernel_rfl)) (fun _ _ _ h => h) (Or.inl ⟨by rfl, ?_⟩) ?_ ?_; rotate_left
       ·intro w'
        go_simp
        with_reducible rfl
       rotate_left
       ·simp only [Act.put, zC, zD, zE, i64_w, i32_w]
        rfl
       refine done_ (done_of HT_.out (by kernel_rfl)) ?_
       clear hHeld HT_ HW_
       have hz2 : w9.cell? ⟨gb4, 2, none⟩ = some (.slice A2 p.f2.length c2) := (zP BK4.out 2).trans rfl
       go_wp2
       go_loopg [77] (p.f2.length + 1) (fun kq v77 w' => ∃ (i nx : Nat) (kids : List S74) (vC : Value), v77 = .int .i64 (i : Int) ∧ Aside0 (kq + i = p.f2.length + 1) ∧ Aside0 (i ≤ p.f2.length) ∧ Aside0 (readK (readF ps n) p.f2 (at_ + 1) = (match readK (readF ps n) (p.f2.drop i) nx with | none => none | some (l, e) => some (kids.map er74 ++ l, e))) ∧ Aside0 (kids.length = i) ∧ Aside0 (at_ < nx ∧ nx ≤ ps.length) ∧ Aside0 (Kd.R Kd.string 9 w' w0.heap.size (fun k => w.heap.size ≤ k) (.slice A68 p.f0.length c68) p.f0) ∧ Aside0 (Kd.R Kd.string 9 w' w0.heap.size (fun k => w.heap.size ≤ k) (.slice A71 p.f1.length c71) p.f1) ∧ Aside0 (Kd.R k74p 60 w' w0.heap.size (fun k => w.heap.size ≤ k ∧ k ≠ gb5) vC kids) ∧ Aside0 (w'.heap[gb5]? = some (.cells #[.slice A68 p.f0.length c68, .slice A71 p.f1.length c71, vC] 74 (0, 0))) ∧ Aside0 (w'.heap[gg]? = some (.cells #[.slice (some ad) ps.length c, .int .i64 (nx : Int)] 101 (0, 0))) ∧ Aside0 (Below w0.heap.size w0 w') ∧ Aside0 (KeepBut w w' gg none))
       case atStart => exact ⟨0, at_ + 1, [], .slice none 0 0, rfl, ⟨by omega⟩, ⟨by omega⟩, ⟨by rw [List.drop_zero]; cases readK (readF ps n) p.f2 (at_ + 1) with | none => rfl | some q => rfl⟩, ⟨rfl⟩, ⟨by have := HH.out; omega⟩, HO68, HO71, ⟨Kd.R_nil _ _ _ _ _⟩, BK5, ⟨by rw [← HZ1.out]; exact BKG.out⟩, HB, HKB⟩
       case round =>
        clear HO68 HO71 BK5 BKG BK4 HB HKB hz2
        obtain ⟨i, nx, kids, vC, rfl, HK, HI, HRD, HKL, HNX, HO68, HO71, HOC, BK5, BKG, HB, HKB⟩ := hrel
        have hcg : wr.cell? ⟨gg, 1, none⟩ = some (.int .i64 (nx : Int)) := (zP BKG.out 1).trans rfl
        by_cases hi : i < p.f2.length
        ·obtain ⟨g1, rfl⟩ : ∃ g1, gk = g1 + 1 := ⟨gk - 1, by have := HK.out; omega⟩
         have q1 : ((i : Int) < (p.f2.length : Int)) = True := eq_true (by omega)
         have q2 : (i < p.f2.length) = True := eq_true hi
         have q3 : decide ((i : Int) < (p.f2.length : Int)) = true := decide_eq_true (by omega)
         obtain ⟨adk, ek, hk0⟩ := Kd.at_int HR2.out (i : Int) (by omega) (by omega)
         subst ek
         rw [Int.toNat_natCast] at hk0
         have hk1 := (HB.out.cell (zB w0 _ hk0)).trans hk0
         obtain ⟨kk, hkk⟩ : ∃ q, q = rd p.f2 (i : Int) := ⟨_, rfl⟩
         rw [← hkk] at hk0 hk1
         have ED : p.f2.drop i = kk :: p.f2.drop (i + 1) := by
          rw [List.drop_eq_getElem_cons hi, hkk]
          congr 1
          unfold rd
          rw [Int.toNat_natCast, List.getD_eq_getElem?_getD, List.getElem?_eq_getElem hi]; rfl
         have HED := zA ED
         clear ED hkk hk0
         by_cases ck : kk = (nx : Int)
         ·have c1 : (kk != (nx : Int)) = false := bne_eq_false_iff_eq.mpr ck
          have c2 : (kk == (nx : Int)) = true := beq_iff_eq.mpr ck
          have CK := zA ck
          have hI := ih nx wr HNX.out.2 (by have := HNX.out; have := HN.out; omega) HB.out BKG.out
          have HRK := zA (show readK (readF ps n) (p.f2.drop i) nx = (match readF ps n nx with | none => none | some (t, e) => (match readK (readF ps n) (p.f2.drop (i + 1)) e with | none => none | some (l, e') => some (t :: l, e'))) from by rw [HED.out, readK, if_pos CK.out]; rfl)
          cases hR : readF ps n nx with
          | none =>
           rw [hR] at hI HRK
           have HRR := zA (show readF ps (n + 1) at_ = none from by rw [RR.out, HRD.out, HRK.out])
           clear ck hR
           go_wp2_with (first | ((with_reducible refine gate_callee (f := 61) rfl ?_); refine goesL_ (some 89) rfl rfl Try.func61 (by kernel_rfl) rfl #[.pointer (some ⟨gg, 0, none⟩)] rfl (by (try simp only [zAA, zAB, zAC]); first | done | rfl) ?_; refine hI.mono ?_; rintro e w10 ⟨rfl, hb⟩; refine ⟨_, rfl, ?_⟩; clear HB hcg; have HB := zA hb; clear hb))
           go_ret2
           exact (show Post74 (n + 1) w0 w gg (some ad) ps.length c (readF ps (n + 1) at_) _ _ from (by rw [HRR.out]; exact ⟨by first | rfl | (simp <;> rfl), HB.out⟩))
          | some te =>
           obtain ⟨t, e1⟩ := te
           rw [hR] at hI HRK
           have HLE := zA (readF_le ps n nx t e1 hR)
           clear ck hR
           go_wp2_with (first | ((with_reducible refine gate_callee (f := 61) rfl ?_); refine goesL_ (some 89) rfl rfl Try.func61 (by kernel_rfl) rfl #[.pointer (some ⟨gg, 0, none⟩)] rfl (by (try simp only [zAA, zAB, zAC]); first | done | rfl) ?_; refine hI.mono ?_; rintro e w10 ⟨x, rfl, hx1, hM, hb, hkb, hkg⟩; refine ⟨_, rfl, ?_⟩; have HVL := zA (Kd.R_lt HOC.out); have HGL := zA (blk_lt BK5.out); have HWS := zA hkb.1; have HWR := zA HKB.out.1; have HXE := zA hx1; have HM := zA hM; have n0_ := zA hb; have n1_ := zA hkg; have n2_ := zA (hkb.blk BK5.out (NBG5.out.symm) (by simp)); have n3_ := zA (Kd.R_keep HO68.out hkb (fun k hk => by have := HGW.out; omega)); have n4_ := zA (Kd.R_keep HO71.out hkb (fun k hk => by have := HGW.out; omega)); have n5_ := zA (Kd.R_keep HOC.out hkb (fun k hk => by have := HGW.out; have := hk.1; omega)); have n6_ := zA (HKB.out.trans hkb (.inl rfl)); clear HB BKG BK5 HO68 HO71 HOC HKB hb hkb hkg hx1 hM hcg; have HB := n0_; have BKG := n1_; have BK5 := n2_; have HO68 := n3_; have HO71 := n4_; have HOC := n5_; have HKB := n6_; clear n0_ n1_ n2_ n3_ n4_ n5_ n6_; have hc9 : w10.cell? ⟨gb5, 2, none⟩ = some vC := (zP BK5.out 2).trans rfl) | ((with_reducible refine gate_builtin (b := .append) (xs := #[.tmp 98, .tmp 100]) rfl ?_); at_builtin; refine Kd.R_append k74p (w0 := w0) w0.heap.size rfl (.tmp 98) (.tmp 100) 72 60 (.pointer none) 8 rfl Try.underlying72 info60 rfl (by decide) (by omega) vC kids x [.pointer (some ⟨x.adr, 0, none⟩)] (fun k => w.heap.size ≤ k ∧ k ≠ gb5) (fun k => wr.heap.size ≤ k) rfl rfl ?aP ?aK ?aF ?aO ?aB ?aS ?aL ?_; (case aP => exact HM.out); (case aK => exact (fun k hk => ⟨⟨by have := HWR.out; omega, by have := HGL.out; omega⟩, fun e => by have := HVL.out k e.symm; omega⟩)); (case aF => exact (fun k hk => ⟨by have := HWS.out; have := HWR.out; omega, by have := HGL.out; have := HWS.out; omega⟩)); (case aO => exact HOC.out); (case aB => exact HB.out); (case aS => exact (zAE HB.out)); (case aL => have := HLN.out; have := HKL.out; omega); intro v101 w11 ho hb hg hat; obtain ⟨ys, hys⟩ : ∃ ys, ys = kids ++ [x] := ⟨_, rfl⟩; rw [← hys] at ho; have HYS := zA hys; clear hys; have n0_ := zA ho; have n1_ := zA hb; have n2_ := zA (blk_grown BK5.out hg (Kd.R_ne HOC.out BK5.out (by decide))); have n3_ := zA (blk_grown BKG.out hg (Kd.R_ne HOC.out BKG.out (by decide))); have n4_ := zA (Kd.R_mono (Kd.R_grown (R_apart HO68.out HOC.out (by decide)) hg (fun _ hk => hk.2)) (fun _ hk => hk.1) : Kd.R Kd.string 9 w11 w0.heap.size (fun k => w.heap.size ≤ k) (.slice A68 p.f0.length c68) p.f0); have n5_ := zA (Kd.R_mono (Kd.R_grown (R_apart HO71.out HOC.out (by decide)) hg (fun _ hk => hk.2)) (fun _ hk => hk.1) : Kd.R Kd.string 9 w11 w0.heap.size (fun k => w.heap.size ≤ k) (.slice A71 p.f1.length c71) p.f1); have n6_ := zA (HKB.out.trans (KeepBut.of_grown hg gg) (by cases hvo : vC.ownBlock with | none => exact .inl rfl | some b => exact .inr ⟨b, rfl, (HOC.out.1 b hvo).1⟩)); clear HB BKG BK5 HO68 HO71 HOC HKB hc9 ho hb hg hat; have HOC := n0_; have HB := n1_; have BK5 := n2_; have BKG := n3_; have HO68 := n4_; have HO71 := n5_; have HKB := n6_; clear n0_ n1_ n2_ n3_ n4_ n5_ n6_; have hc11 : w11.cell? ⟨gb5, 2, none⟩ = some vC := (zP BK5.out 2).trans rfl; have hf11 := zO BK5.out 2; obtain ⟨A97, c97, eo⟩ := Kd.R_slice HOC.out; subst eo))
           go_roundg g1
           case measure => omega
           case rel => exact ⟨i + 1, e1, ys, _, by rw [w64N i (by have := HLN.out; omega)], ⟨by have := HK.out; omega⟩, ⟨by omega⟩, ⟨by
             rw [HRD.out, HRK.out]
             cases readK (readF ps n) (p.f2.drop (i + 1)) e1 with
             | none => rfl
             | some q =>
              show some (kids.map er74 ++ (t :: q.1), q.2) = some (ys.map er74 ++ q.1, q.2)
              rw [HYS.out, List.map_append, List.append_assoc, ← HXE.out]; rfl⟩, ⟨by rw [HYS.out, List.length_append, HKL.out]; rfl⟩, ⟨by have := HNX.out; have := HLE.out; omega⟩,
            ⟨Kd.R_set HO68.out BK5.out (by decide) 2 _⟩, ⟨Kd.R_set HO71.out BK5.out (by decide) 2 _⟩, ⟨Kd.R_far (p := ⟨gb5, 2, none⟩) HOC.out (fun _ hk => hk.2) _⟩, ⟨blk_put BK5.out 2 _ rfl⟩, ⟨blk_far BKG.out NBG5.out _⟩, ⟨zI HB.out (by have := GW5.out; have := HGW.out; omega)⟩, ⟨keep_far HKB.out GW5.out _⟩⟩
         ·have c1 : (kk != (nx : Int)) = true := bne_iff_ne.mpr ck
          have c2 : (kk == (nx : Int)) = false := beq_eq_false_iff_ne.mpr ck
          have CK := zA ck
          have HRR := zA (show readF ps (n + 1) at_ = none from by rw [RR.out, HRD.out, HED.out, readK, if_neg CK.out])
          clear ck
          go_wp2
          go_ret2
          exact (show Post74 (n + 1) w0 w gg (some ad) ps.length c (readF ps (n + 1) at_) _ _ from (by rw [HRR.out]; exact ⟨by first | rfl | (simp <;> rfl), HB.out⟩))
        ·have q3 : decide ((i : Int) < (p.f2.length : Int)) = false := decide_eq_false (by omega)
         have HRR := zA (show readF ps (n + 1) at_ = some (⟨p.f0, p.f1, kids.map er74⟩, nx) from by
          rw [RR.out, HRD.out, List.drop_eq_nil_of_le (by have := HI.out; omega), readK]
          show some (T.mk p.f0 p.f1 (kids.map er74 ++ []), nx) = _
          rw [List.append_nil])
         obtain ⟨A99, c99, eo⟩ := Kd.R_slice HOC.out
         subst eo
         go_wp2
         go_ret2
         exact (show Post74 (n + 1) w0 w gg (some ad) ps.length c (readF ps (n + 1) at_) _ _ from (by
          rw [HRR.out]
          exact ⟨⟨gb5, p.f0, p.f1, kids⟩, by first | rfl | (simp <;> rfl), er74_eq _, k74p_mkM GW5.out (by have := GW5.out; have := HGW.out; show w0.heap.size ≤ gb5; omega) BK5.out (Kd.R_types HO68.out BK5.out (by decide)) (Kd.R_types HO71.out BK5.out (by decide)) HOC.out, HB.out, HKB.out, BKG.out⟩))
      ·have e4 : (((p.f2.length : Int)) != ((p.f0.length + 1 : Nat) : Int)) = true := bne_iff_ne.mpr (by omega)
       have e4' : (p.f2.length != p.f0.length + 1) = true := bne_iff_ne.mpr k4
       have e4'' : (p.f2.length == p.f0.length + 1) = false := beq_eq_false_iff_ne.mpr k4
       have e4x : (((p.f2.length : Int)) != (p.f0.length : Int) + 1) = true := bne_iff_ne.mpr (by omega)
       have K4 := zA k4
       clear k4
       have RR := zA (show readF ps (n + 1) at_ = none from by rw [readF, HP.out]; exact if_neg (fun q => q.2.2.elim K3.out K4.out))
       go_wp2
       go_ret2
       exact (show Post74 (n + 1) w0 w gg (some ad) ps.length c (readF ps (n + 1) at_) _ _ from (by rw [RR.out]; exact ⟨by first | rfl | (simp <;> rfl), zI HB.out hgg⟩))
    ·have e2 : (((p.f1.length : Int)) != (p.f0.length : Int)) = true := bne_iff_ne.mpr (by omega)
     have e2' : (p.f1.length != p.f0.length) = true := bne_iff_ne.mpr k2
     have e2'' : (p.f1.length == p.f0.length) = false := beq_eq_false_iff_ne.mpr k2
     have K2 := zA k2
     clear k2
     have RR := zA (show readF ps (n + 1) at_ = none from by rw [readF, HP.out]; exact if_neg (fun q => K2.out q.2.1))
     go_wp2
     go_ret2
     exact (show Post74 (n + 1) w0 w gg (some ad) ps.length c (readF ps (n + 1) at_) _ _ from (by rw [RR.out]; exact ⟨by first | rfl | (simp <;> rfl), zI HB.out hgg⟩))
   ·have e1 : decide ((4 : Int) < (p.f0.length : Int)) = true := decide_eq_true (by omega)
    have e1' : decide (4 < p.f0.length) = true := decide_eq_true (by omega)
    have K1 := zA k1
    clear k1
    have RR := zA (show readF ps (n + 1) at_ = none from by rw [readF, HP.out]; exact if_neg (fun q => K1.out q.1))
    go_wp2
    go_ret2
    exact (show Post74 (n + 1) w0 w gg (some ad) ps.length c (readF ps (n + 1) at_) _ _ from (by rw [RR.out]; exact ⟨by first | rfl | (simp <;> rfl), zI HB.out hgg⟩))
  ·have b1 : ((at_ : Int) == (ps.length : Int)) = true := beq_iff_eq.mpr (by omega)
   have b2 : (at_ == ps.length) = true := beq_iff_eq.mpr (by omega)
   have R := zA (show readF ps (n + 1) at_ = none by unfold readF; rw [List.getElem?_eq_none (by omega)])
   clear hb hk hC hG
   go_enter Try.func61, Try.ntmps61
   go_wp2
   repeat (go_quiet (fail); try go_wp2)
   go_ret2
   exact (show Post74 (n + 1) w0 w gg A ps.length c (readF ps (n + 1) at_) _ _ from (by rw [R.out]; exact ⟨by first | rfl | (simp <;> rfl), by repeat (first | exact HB.out | apply zH | apply zF | apply zG)⟩))
end Go.Proofs.Ytnplghcbdaiogaa.QY
end
