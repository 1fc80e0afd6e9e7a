/- Keys for one use: chains, digits, parts and signatures; what both sides' functions answer. -/
import Derived.Test.YtleegjkloclolaaPAx1
import Derived.Test.YtleegjkloclolaaPAx2
import Derived.Test.YtleegjkloclolaaPAx3
import Derived.Test.YtleegjkloclolaaPAx4
import Derived.Test.YtleegjkloclolaaPD
namespace Go.Proofs.Ytleegjkloclolaa.PK
open Go.RowKit Go.Proofs.YtleegjkloclolaaW.PrintWords Go.Proofs.YtleegjkloclolaaW.PrintLast Go.Proofs.YtleegjkloclolaaW.PrintMore Go.Proofs.Ytleegjkloclolaa.PB Go.Proofs.Ytleegjkloclolaa.PD Go.Proofs.Ytleegjkloclolaa.PA

def chainM (s : ByteArray) (i : Nat) : Nat → ByteArray
  | 0 => s
  | n + 1 => chainM (dig 99 (one (i : Int) ++ s)) (i + 1) n
theorem chainM_size (s : ByteArray) (h : s.size = 4) (n : Nat) : ∀ i, (chainM s i n).size = 4 := by
  induction n generalizing s with
  | zero => intro i; exact h
  | succ n ih => intro i; exact ih _ (dig_size _ _) _
theorem kc : Kd_ 99 := ⟨by decide, by decide⟩
theorem app_size (a b : ByteArray) : (a ++ b).size = a.size + b.size := ByteArray.size_append
theorem chainS0 (a b : Nat) (ha : a + b ≤ 1000) : ∀ (n i : Nat) (s : ByteArray), s.size ≤ 1000000 → i + n = a + b → Ev (fun k => spec_l2Chain.l0 k s (a : Int) (b : Int) (i : Int)) (chainM s i n) := by
  intro n
  induction n with
  | zero =>
    intro i s hs hi
    refine Ev.step (f := fun _ => some s) (fun k => ?_) (Ev.now _)
    simp only [spec_l2Chain.l0]
    rw [w64 (by omega) (by omega), if_neg (by omega)]
  | succ n ih =>
    intro i s hs hi
    refine Ev.step (f := fun k => (spec_l1Digest.f k 99 (one (i : Int) ++ s)).bind fun t => spec_l2Chain.l0 k t (a : Int) (b : Int) ((i + 1 : Nat) : Int)) (fun k => ?_) ?_
    · simp only [spec_l2Chain.l0]
      rw [w64 (x := (a : Int) + b) (by omega) (by omega), if_pos (by omega)]
      simp only [Option.bind_some]
      rw [if_pos (by rw [strOfNums_size]; simp only [List.length_cons, List.length_nil]; omega), w64 (x := (i : Int) + 1) (by omega) (by omega)]
      rfl
    · exact ev_bind (digS 99 kc _ (by rw [app_size, one_size]; omega)) (ih (i + 1) _ (by rw [dig_size]; omega) (by omega))
theorem chainS (s : ByteArray) (a b : Nat) (ha : a + b ≤ 1000) (hs : s.size ≤ 1000000) : Ev (fun k => spec_l2Chain.f k s (a : Int) (b : Int)) (chainM s a b) :=
  chainS0 a b ha b a s hs rfl
theorem chainI0 (a b : Nat) (ha : a + b ≤ 1000) : ∀ (n i : Nat) (s : ByteArray), s.size ≤ 1000000 → i + n = a + b → Ev (fun k => impl_chain.l0 k s (a : Int) (b : Int) (i : Int)) (chainM s i n) := by
  intro n
  induction n with
  | zero =>
    intro i s hs hi
    refine Ev.step (f := fun _ => some s) (fun k => ?_) (Ev.now _)
    simp only [impl_chain.l0]
    rw [w64 (by omega) (by omega), if_neg (by omega)]
  | succ n ih =>
    intro i s hs hi
    refine Ev.step (f := fun k => (impl_digest.f k 99 (one (i : Int) ++ s)).bind fun t => impl_chain.l0 k t (a : Int) (b : Int) ((i + 1 : Nat) : Int)) (fun k => ?_) ?_
    · simp only [impl_chain.l0]
      rw [w64 (x := (a : Int) + b) (by omega) (by omega), if_pos (by omega), oneI]
      simp only [Option.bind_some]
      rw [if_pos (by rw [one_size]; omega), w64 (x := (i : Int) + 1) (by omega) (by omega)]
      rfl
    · exact ev_bind (digI 99 kc _ (by rw [app_size, one_size]; omega)) (ih (i + 1) _ (by rw [dig_size]; omega) (by omega))
theorem chainI (s : ByteArray) (a b : Nat) (ha : a + b ≤ 1000) (hs : s.size ≤ 1000000) : Ev (fun k => impl_chain.f k s (a : Int) (b : Int)) (chainM s a b) :=
  chainI0 a b ha b a s hs rfl

/-! ### digits -/
def nibs : List UInt8 → List Int
  | [] => []
  | c :: l => (c.toNat : Int) / 16 :: (c.toNat : Int) % 16 :: nibs l
def sm : List Int → Int
  | [] => 0
  | n :: l => (15 - n) + sm l
theorem nibs_length (l : List UInt8) : (nibs l).length = 2 * l.length := by
  induction l with
  | nil => rfl
  | cons c l ih => simp only [nibs, List.length_cons, ih]; omega
theorem nibs_in (l : List UInt8) : ∀ n ∈ nibs l, 0 ≤ n ∧ n ≤ 15 := by
  induction l with
  | nil => intro n h; cases h
  | cons c l ih =>
    have hc : c.toNat < 256 := UInt8.toNat_lt _
    intro n h
    simp only [nibs, List.mem_cons] at h
    rcases h with rfl | rfl | h
    · omega
    · omega
    · exact ih n h
theorem sm_nibs (l : List UInt8) : 0 ≤ sm (nibs l) ∧ sm (nibs l) ≤ 30 * l.length := by
  induction l with
  | nil => exact ⟨by decide, by decide⟩
  | cons c l ih =>
    have hc : c.toNat < 256 := UInt8.toNat_lt _
    simp only [nibs, sm, List.length_cons]
    omega
def checksM (S : Int) : List Int := [S / 256 % 16, S / 16 % 16, S % 16]
def digitsM (s : ByteArray) : List Int := nibs (dig 109 s).toList ++ checksM (sm (nibs (dig 109 s).toList))
theorem digitsM_length (s : ByteArray) : (digitsM s).length = 11 := by
  unfold digitsM
  rw [List.length_append, nibs_length, size_toList, dig_size]
  rfl
theorem digitsM_in (s : ByteArray) : ∀ n ∈ digitsM s, 0 ≤ n ∧ n ≤ 15 := by
  intro n h
  unfold digitsM at h
  rcases List.mem_append.mp h with h | h
  · exact nibs_in _ n h
  · unfold checksM at h
    simp only [List.mem_cons, List.not_mem_nil, or_false] at h
    rcases h with rfl | rfl | rfl <;> omega
theorem rd_at (l : List Int) (i : Nat) (h : i < l.length) : rd l (i : Int) = l[i] := by
  simp [rd, List.getD_eq_getElem?_getD, List.getElem?_eq_getElem h]
theorem rd_digits (s : ByteArray) (i : Nat) (h : i < 11) : 0 ≤ rd (digitsM s) (i : Int) ∧ rd (digitsM s) (i : Int) ≤ 15 := by
  have hl : i < (digitsM s).length := by rw [digitsM_length]; exact h
  rw [rd_at _ _ hl]
  exact digitsM_in s _ (List.getElem_mem hl)
theorem drop_cons {α : Type} (l : List α) (i : Nat) (h : i < l.length) : l.drop i = l[i] :: l.drop (i + 1) := List.drop_eq_getElem_cons h

theorem sumS (out : List Int) (hin : ∀ n ∈ out, 0 ≤ n ∧ n ≤ 15) (hl : out.length ≤ 100) : ∀ (d i : Nat) (S : Int), i + d = out.length → 0 ≤ S → S ≤ 15 * i → Ev (fun k => spec_l2Digits.l1 k out S out (out.length : Int) (i : Int)) (out ++ checksM (S + sm (out.drop i))) := by
  intro d
  induction d with
  | zero =>
    intro i S hi h0 h1
    refine Ev.step (f := fun _ => some (out ++ checksM S)) (fun k => ?_) ?_
    · simp only [spec_l2Digits.l1]
      rw [if_neg (by omega)]
      simp only [Option.bind_some]
      rw [if_pos (by simp only [List.length_cons, List.length_nil]; omega)]
      have hb : ∀ x : Int, 0 ≤ x → x < 4294967296 → Go.bits .and .i64 x 15 = x % 16 := fun x hx0 hx1 => bits_mask .i64 63 (by decide) (fun n hn0 hn1 => by rw [i64_w]; exact w64 (by omega) (by omega)) 4 (by decide) x hx0 (by omega)
      rw [hb _ (by omega) (by omega), hb _ (by omega) (by omega), hb _ (by omega) (by omega)]
      rfl
    · rw [List.drop_eq_nil_of_le (by omega)]
      simp only [sm, Int.add_zero]
      exact Ev.now _
  | succ d ih =>
    intro i S hi h0 h1
    have hlt : i < out.length := by omega
    have hr := rd_at out i hlt
    have hb := hin _ (List.getElem_mem hlt)
    refine Ev.step (f := fun k => spec_l2Digits.l1 k out (S + (15 - out[i])) out (out.length : Int) ((i + 1 : Nat) : Int)) (fun k => ?_) ?_
    · simp only [spec_l2Digits.l1]
      rw [if_pos (by omega), if_pos (by omega), if_pos (by omega), hr, w64 (x := 15 - out[i]) (by omega) (by omega), w64 (x := S + (15 - out[i])) (by omega) (by omega), w64 (x := (i : Int) + 1) (by omega) (by omega)]
      rfl
    · have := ih (i + 1) (S + (15 - out[i])) (by omega) (by omega) (by omega)
      rw [drop_cons out i hlt]
      simp only [sm]
      rw [← Int.add_assoc]
      exact this
theorem nibsS (t : ByteArray) (ht : t.size = 4) : ∀ (d i : Nat) (out : List Int), i + d = t.size → out = nibs (t.toList.take i) → Ev (fun k => spec_l2Digits.l0 k out t 0 (i : Int)) (nibs t.toList ++ checksM (sm (nibs t.toList))) := by
  have hlen : t.toList.length = 4 := by rw [size_toList]; exact ht
  intro d
  induction d with
  | zero =>
    intro i out hi ho
    have ho' : out = nibs t.toList := by rw [ho, List.take_of_length_le (by omega)]
    subst ho'
    refine Ev.step (f := fun k => spec_l2Digits.l1 k (nibs t.toList) 0 (nibs t.toList) ((nibs t.toList).length : Int) ((0 : Nat) : Int)) (fun k => ?_) ?_
    · simp only [spec_l2Digits.l0]
      rw [if_neg (by omega)]
      rfl
    · have := sumS (nibs t.toList) (nibs_in _) (by rw [nibs_length]; omega) (nibs t.toList).length 0 0 (by omega) (by omega) (by omega)
      simpa using this
  | succ d ih =>
    intro i out hi ho
    have hlt : i < t.size := by omega
    have hb := bt_get t i hlt
    have hlt' : i < t.toList.length := by omega
    have hg : t.toList.getD i 0 = t.toList[i] := by simp [List.getD_eq_getElem?_getD, List.getElem?_eq_getElem hlt']
    rw [hg] at hb
    have hc : (t.toList[i]).toNat < 256 := UInt8.toNat_lt _
    have hol : out.length = 2 * i := by rw [ho, nibs_length, List.length_take]; omega
    refine Ev.step (f := fun k => spec_l2Digits.l0 k (out ++ [((t.toList[i]).toNat : Int) / 16, ((t.toList[i]).toNat : Int) % 16]) t 0 ((i + 1 : Nat) : Int)) (fun k => ?_) ?_
    · simp only [spec_l2Digits.l0]
      rw [if_pos (by omega), if_pos (by omega), hb, u8_and15 (x := ((t.toList[i]).toNat : Int)) (by omega) (by omega), w64 (x := ((t.toList[i]).toNat : Int) / 16) (by omega) (by omega), w64 (x := ((t.toList[i]).toNat : Int) % 16) (by omega) (by omega), w64 (x := (i : Int) + 1) (by omega) (by omega)]
      simp only [Option.bind_some]
      rw [if_pos (by simp only [List.length_cons, List.length_nil]; omega)]
      rfl
    · refine ih (i + 1) _ (by omega) ?_
      rw [ho, List.take_succ_eq_append_getElem hlt']
      generalize List.take i t.toList = l
      induction l with
      | nil => rfl
      | cons c l ih2 => simp only [nibs, List.cons_append, ih2]
theorem kmm : Kd_ 109 := ⟨by decide, by decide⟩
theorem digitsS (s : ByteArray) (hs : s.size ≤ 1000000) : Ev (fun k => spec_l2Digits.f k s) (digitsM s) := by
  refine ev_bind (f := fun k t => spec_l2Digits.l0 k [] t 0 0) (digS 109 kmm s (by omega)) ?_
  exact nibsS (dig 109 s) (dig_size _ _) (dig 109 s).size 0 [] (by omega) rfl

theorem rd_bytes (t : ByteArray) (i : Nat) (h : i < t.toList.length) : rd (bytesOf t) (i : Int) = ((t.toList[i]).toNat : Int) := by
  rw [rd_bytesOf, bt_get t i (by rw [size_toList] at h; exact h)]
  simp [List.getD_eq_getElem?_getD, List.getElem?_eq_getElem h]
theorem bytesOf_len (t : ByteArray) : (bytesOf t).length = t.toList.length := by rw [bytesOf_length, size_toList]
theorem nibs_app (l : List UInt8) (c : UInt8) : nibs (l ++ [c]) = nibs l ++ [(c.toNat : Int) / 16, (c.toNat : Int) % 16] := by
  induction l with
  | nil => rfl
  | cons d l ih => simp only [nibs, List.cons_append, ih]
theorem sm_app (a b : List Int) : sm (a ++ b) = sm a + sm b := by
  induction a with
  | nil => simp [sm]
  | cons n a ih => simp only [sm, List.cons_append, ih]; omega
theorem nibsI (t : ByteArray) (ht : t.size = 4) : ∀ (d i : Nat) (out : List Int) (S : Int), i + d = t.toList.length → out = nibs (t.toList.take i) → S = sm out → Ev (fun k => impl_digits.l0 k out S (bytesOf t) ((bytesOf t).length : Int) (i : Int)) (nibs t.toList ++ checksM (sm (nibs t.toList))) := by
  have hlen : t.toList.length = 4 := by rw [size_toList]; exact ht
  intro d
  induction d with
  | zero =>
    intro i out S hi ho hS
    have ho' : out = nibs t.toList := by rw [ho, List.take_of_length_le (by omega)]
    subst ho'
    have hb := sm_nibs t.toList
    rw [hlen] at hb
    refine Ev.step (f := fun k => some (nibs t.toList ++ checksM (sm (nibs t.toList)))) (fun k => ?_) (Ev.now _)
    simp only [impl_digits.l0]
    rw [if_neg (by rw [bytesOf_len]; omega)]
    simp only [Option.bind_some]
    rw [if_pos (by rw [nibs_length]; simp only [List.length_cons, List.length_nil]; omega)]
    rw [hS, Int.tdiv_eq_ediv_of_nonneg hb.1, Int.tdiv_eq_ediv_of_nonneg hb.1, w64 (x := sm (nibs t.toList) / 256) (by omega) (by omega), w64 (x := sm (nibs t.toList) / 16) (by omega) (by omega), Int.tmod_eq_emod_of_nonneg hb.1, Int.tmod_eq_emod_of_nonneg (by omega)]
    unfold checksM
    rw [show sm (nibs t.toList) / 256 % 16 = sm (nibs t.toList) / 256 from by omega]
  | succ d ih =>
    intro i out S hi ho hS
    have hlt' : i < t.toList.length := by omega
    have hb := rd_bytes t i hlt'
    have hc : (t.toList[i]).toNat < 256 := UInt8.toNat_lt _
    have hol : out.length = 2 * i := by rw [ho, nibs_length, List.length_take]; omega
    have hSb : 0 ≤ S ∧ S ≤ 30 * i := by
      have := sm_nibs (t.toList.take i)
      rw [← ho, ← hS, List.length_take] at this
      omega
    refine Ev.step (f := fun k => impl_digits.l0 k (out ++ [((t.toList[i]).toNat : Int) / 16, ((t.toList[i]).toNat : Int) % 16]) (S + (30 - ((t.toList[i]).toNat : Int) / 16 - ((t.toList[i]).toNat : Int) % 16)) (bytesOf t) ((bytesOf t).length : Int) ((i + 1 : Nat) : Int)) (fun k => ?_) ?_
    · simp only [impl_digits.l0]
      have hbl := bytesOf_len t
      rw [if_pos (by omega), if_pos (by omega), if_pos (by omega), hb, Int.tdiv_eq_ediv_of_nonneg (by omega), Int.tmod_eq_emod_of_nonneg (by omega), w64 (x := ((t.toList[i]).toNat : Int) % 16) (by omega) (by omega), w64 (x := (i : Int) + 1) (by omega) (by omega)]
      rw [show ((t.toList[i]).toNat : Int) / 16 % 256 = ((t.toList[i]).toNat : Int) / 16 from by omega]
      rw [w64 (x := 30 - ((t.toList[i]).toNat : Int) / 16 - ((t.toList[i]).toNat : Int) % 16) (by omega) (by omega), w64 (x := S + (30 - ((t.toList[i]).toNat : Int) / 16 - ((t.toList[i]).toNat : Int) % 16)) (by omega) (by omega)]
      simp only [Option.bind_some]
      rw [if_pos (by simp only [List.length_cons, List.length_nil]; omega)]
      rfl
    · refine ih (i + 1) _ _ (by omega) ?_ ?_
      · rw [ho, List.take_succ_eq_append_getElem hlt', nibs_app]
      · rw [hS, sm_app]; simp only [sm]; omega
theorem digitsI (s : ByteArray) (hs : s.size ≤ 1000000) : Ev (fun k => impl_digits.f k s) (digitsM s) := by
  refine ev_bind (f := fun k t178 => if t178.size ≤ 9223372036854775807 then ((some (bytesOf t178 : List Int)).bind fun y179 => (impl_digits.l0 k ([] : List Int) 0 y179 (y179.length : Int) 0)) else (none)) (digI 109 kmm s (by omega)) ?_
  refine ev_pos (by rw [dig_size]; omega) ?_
  exact nibsI (dig 109 s) (dig_size _ _) (dig 109 s).toList.length 0 [] 0 (by omega) rfl rfl
end Go.Proofs.Ytleegjkloclolaa.PK
