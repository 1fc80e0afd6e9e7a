/- Signatures and the keys they lead to: what both sides' functions answer. -/
import Derived.Test.YtleegjkloclolaaPAx1
import Derived.Test.YtleegjkloclolaaPAx2
import Derived.Test.YtleegjkloclolaaPAx21
import Derived.Test.YtleegjkloclolaaPAx3
import Derived.Test.YtleegjkloclolaaPAx4
import Derived.Test.YtleegjkloclolaaPK
import Derived.Test.YtleegjkloclolaaPL
namespace Go.Proofs.Ytleegjkloclolaa.PS
open Go.RowKit Go.Proofs.YtleegjkloclolaaW.PrintWords Go.Proofs.YtleegjkloclolaaW.PrintLast Go.Proofs.YtleegjkloclolaaW.PrintMore Go.Proofs.Ytleegjkloclolaa.PB Go.Proofs.Ytleegjkloclolaa.PD Go.Proofs.Ytleegjkloclolaa.PK Go.Proofs.Ytleegjkloclolaa.PL Go.Proofs.Ytleegjkloclolaa.PA

theorem chainS' (s : ByteArray) (a b : Int) (h0 : 0 ≤ a) (h1 : 0 ≤ b) (h2 : a + b ≤ 1000) (hs : s.size ≤ 1000000) : Ev (fun k => spec_l2Chain.f k s a b) (chainM s a.toNat b.toNat) := by
  obtain ⟨m, rfl⟩ := Int.eq_ofNat_of_zero_le h0
  obtain ⟨n, rfl⟩ := Int.eq_ofNat_of_zero_le h1
  exact chainS s m n (by omega) hs
theorem chainI' (s : ByteArray) (a b : Int) (h0 : 0 ≤ a) (h1 : 0 ≤ b) (h2 : a + b ≤ 1000) (hs : s.size ≤ 1000000) : Ev (fun k => impl_chain.f k s a b) (chainM s a.toNat b.toNat) := by
  obtain ⟨m, rfl⟩ := Int.eq_ofNat_of_zero_le h0
  obtain ⟨n, rfl⟩ := Int.eq_ofNat_of_zero_le h1
  exact chainI s m n (by omega) hs
theorem kk : Kd_ 107 := ⟨by decide, by decide⟩
theorem kp : Kd_ 112 := ⟨by decide, by decide⟩
def keyM (seed : ByteArray) (i : Nat) : ByteArray := dig 107 (one (i : Int) ++ seed)
theorem keyM_size (seed : ByteArray) (i : Nat) : (keyM seed i).size = 4 := dig_size _ _
theorem keyS (seed : ByteArray) (hs : seed.size ≤ 1000000) (i : Nat) : Ev (fun k => spec_l2Key.f k seed (i : Int)) (keyM seed i) := by
  refine Ev.congr (f := fun k => (spec_l1Digest.f k 107 (one (i : Int) ++ seed)).bind fun t => some t) (fun k => ?_) (ev_bind (digS 107 kk _ (by rw [app_size, one_size]; omega)) (Ev.now _))
  simp only [spec_l2Key.f, Option.bind_some]
  rw [if_pos (by rw [strOfNums_size]; simp only [List.length_cons, List.length_nil]; omega)]
  rfl
def signAt (seed text : ByteArray) (i : Nat) : ByteArray := chainM (keyM seed i) 0 (rd (digitsM text) (i : Int)).toNat
def signM (seed text : ByteArray) : List ByteArray := (List.range 11).map (signAt seed text)
theorem signM_length (seed text : ByteArray) : (signM seed text).length = 11 := by simp [signM]
theorem signS (seed text : ByteArray) (hs : seed.size ≤ 1000000) (ht : text.size ≤ 1000000) : Ev (fun k => spec_l2Sign.f k seed text) (signM seed text) := by
  have hlen := digitsM_length text
  have key : ∀ (d i : Nat), i + d = 11 → Ev (fun k => spec_l2Sign.l0 k seed ((List.range i).map (signAt seed text)) (digitsM text) ((digitsM text).length : Int) (i : Int)) (signM seed text) := by
    intro d
    induction d with
    | zero =>
      intro i hi
      refine Ev.step (f := fun _ => some (signM seed text)) (fun k => ?_) (Ev.now _)
      simp only [spec_l2Sign.l0]
      rw [if_neg (by omega), show i = 11 by omega]
      rfl
    | succ d ih =>
      intro i hi
      have hr := rd_digits text i (by omega)
      refine Ev.step (f := fun k => (spec_l2Key.f k seed (i : Int)).bind fun t145 => (spec_l2Chain.f k t145 0 (rd (digitsM text) (i : Int))).bind fun t146 => spec_l2Sign.l0 k seed ((List.range i).map (signAt seed text) ++ [t146]) (digitsM text) ((digitsM text).length : Int) ((i + 1 : Nat) : Int)) (fun k => ?_) ?_
      · simp only [spec_l2Sign.l0]
        rw [if_pos (by omega), if_pos (by omega), if_pos (by omega), w64 (x := (i : Int) + 1) (by omega) (by omega)]
        have hc : ((List.range i).map (signAt seed text)).length < 8796093022208 := by simp only [List.length_map, List.length_range]; omega
        simp only [if_pos hc]
        rfl
      · refine ev_bind (keyS seed hs i) (ev_bind (chainS' _ 0 _ (by omega) hr.1 (by omega) (by rw [keyM_size]; omega)) ?_)
        have e : (List.range i).map (signAt seed text) ++ [chainM (keyM seed i) (0 : Int).toNat (rd (digitsM text) (i : Int)).toNat] = (List.range (i + 1)).map (signAt seed text) := by
          rw [List.range_succ, List.map_append]; rfl
        rw [e]
        exact ih (i + 1) (by omega)
  exact ev_bind (digitsS text ht) (key 11 0 (by omega))
def partsM (seed : ByteArray) : List ByteArray := (List.range 11).map (keyM seed)
theorem partsI (seed : ByteArray) (hs : seed.size ≤ 1000000) : Ev (fun k => impl_parts.f k seed) (partsM seed) := by
  have key : ∀ (d i : Nat), i + d = 11 → Ev (fun k => impl_parts.l0 k seed ((List.range i).map (keyM seed)) (i : Int)) (partsM seed) := by
    intro d
    induction d with
    | zero =>
      intro i hi
      refine Ev.step (f := fun _ => some (partsM seed)) (fun k => ?_) (Ev.now _)
      simp only [impl_parts.l0]
      rw [if_neg (by omega), show i = 11 by omega]
      rfl
    | succ d ih =>
      intro i hi
      refine Ev.step (f := fun k => (impl_digest.f k 107 (one (i : Int) ++ seed)).bind fun t => impl_parts.l0 k seed ((List.range i).map (keyM seed) ++ [t]) ((i + 1 : Nat) : Int)) (fun k => ?_) ?_
      · simp only [impl_parts.l0]
        rw [if_pos (by omega), oneI]
        simp only [Option.bind_some]
        rw [if_pos (by rw [one_size]; omega), w64 (x := (i : Int) + 1) (by omega) (by omega)]
        congr 1
        funext t
        rw [if_pos (by simp only [List.length_map, List.length_range]; omega)]
        rfl
      · refine ev_bind (digI 107 kk _ (by rw [app_size, one_size]; omega)) ?_
        have e : (List.range i).map (keyM seed) ++ [dig 107 (one (i : Int) ++ seed)] = (List.range (i + 1)).map (keyM seed) := by
          rw [List.range_succ, List.map_append]; rfl
        rw [e]
        exact ih (i + 1) (by omega)
  exact key 11 0 (by omega)
theorem signI (seed text : ByteArray) (hs : seed.size ≤ 1000000) (ht : text.size ≤ 1000000) : Ev (fun k => impl_sign.f k seed text) (signM seed text) := by
  have hlen := digitsM_length text
  let mid := fun (i : Nat) => (List.range 11).map fun j => if j < i then signAt seed text j else keyM seed j
  have hmid : ∀ i, (mid i).length = 11 := fun i => by simp [mid]
  have hat : ∀ i j (h : j < 11), (mid i)[j]'(by rw [hmid]; exact h) = if j < i then signAt seed text j else keyM seed j := fun i j h => by simp [mid]
  have key : ∀ (d i : Nat), i + d = 11 → Ev (fun k => impl_sign.l0 k (mid i) (digitsM text) ((digitsM text).length : Int) (i : Int)) (signM seed text) := by
    intro d
    induction d with
    | zero =>
      intro i hi
      refine Ev.step (f := fun _ => some (signM seed text)) (fun k => ?_) (Ev.now _)
      simp only [impl_sign.l0]
      rw [if_neg (by omega), show i = 11 by omega]
      refine congrArg some ?_
      apply List.ext_getElem
      · rw [hmid, signM_length]
      · intro j h1 h2
        rw [hmid] at h1
        rw [hat 11 j h1, if_pos h1]
        simp [signM]
    | succ d ih =>
      intro i hi
      have hr := rd_digits text i (by omega)
      have hm := hmid i
      refine Ev.step (f := fun k => (impl_chain.f k (keyM seed i) 0 (rd (digitsM text) (i : Int))).bind fun t => impl_sign.l0 k ((mid i).set i t) (digitsM text) ((digitsM text).length : Int) ((i + 1 : Nat) : Int)) (fun k => ?_) ?_
      · simp only [impl_sign.l0]
        rw [if_pos (by omega), if_pos (by omega), if_pos (by omega), if_pos (by omega), rdOf_at _ _ i (by omega), hat i i (by omega), if_neg (by omega), w64 (x := (i : Int) + 1) (by omega) (by omega)]
        rfl
      · refine ev_bind (chainI' _ 0 _ (by omega) hr.1 (by omega) (by rw [keyM_size]; omega)) ?_
        have e : (mid i).set i (chainM (keyM seed i) (0 : Int).toNat (rd (digitsM text) (i : Int)).toNat) = mid (i + 1) := by
          apply List.ext_getElem
          · rw [List.length_set, hmid, hmid]
          · intro j h1 h2
            rw [hmid] at h2
            rw [List.getElem_set, hat (i + 1) j h2]
            by_cases hj : i = j
            · subst hj
              rw [if_pos rfl, if_pos (by omega)]
              rfl
            · rw [if_neg hj, hat i j h2]
              by_cases hj2 : j < i
              · rw [if_pos hj2, if_pos (by omega)]
              · rw [if_neg hj2, if_neg (by omega)]
        rw [e]
        exact ih (i + 1) (by omega)
  refine ev_bind (partsI seed hs) (ev_bind (digitsI text ht) ?_)
  have e : partsM seed = mid 0 := by simp [partsM, mid]
  rw [e]
  exact key 11 0 (by omega)

/-! ### the key that a signature leads to -/
def fromAt (text : ByteArray) (l : List ByteArray) (i : Nat) : ByteArray := chainM (l.getD i ⟨#[]⟩) (rd (digitsM text) (i : Int)).toNat (15 - rd (digitsM text) (i : Int)).toNat
def joined : List ByteArray → ByteArray → ByteArray
  | [], s => s
  | t :: l, s => joined l (s ++ t)
def fromM (text : ByteArray) (l : List ByteArray) : ByteArray := dig 112 (joined ((List.range 11).map (fromAt text l)) ⟨#[]⟩)
theorem joined_snoc (l : List ByteArray) (t s : ByteArray) : joined (l ++ [t]) s = joined l s ++ t := by
  induction l generalizing s with
  | nil => rfl
  | cons a l ih => exact ih (s ++ a)
/-- Eleven digests. -/
def Good11 (l : List ByteArray) : Prop := l.length = 11 ∧ ∀ s ∈ l, s.size = 4
theorem getD_good {l : List ByteArray} (h : Good11 l) (i : Nat) (hi : i < 11) : (l.getD i ⟨#[]⟩).size = 4 := by
  have hl : i < l.length := by rw [h.1]; exact hi
  simp only [List.getD_eq_getElem?_getD, List.getElem?_eq_getElem hl, Option.getD_some]
  exact h.2 _ (List.getElem_mem hl)
theorem joined_size (text : ByteArray) (l : List ByteArray) (h : Good11 l) : ∀ i, i ≤ 11 → (joined ((List.range i).map (fromAt text l)) ⟨#[]⟩).size = 4 * i := by
  intro i
  induction i with
  | zero => intro _; rfl
  | succ i ih =>
    intro hi
    rw [List.range_succ, List.map_append, List.map_cons, List.map_nil, joined_snoc, app_size, ih (by omega)]
    unfold fromAt
    rw [chainM_size _ (getD_good h i (by omega))]
    omega
theorem rdOf_getD (l : List ByteArray) (i : Nat) : rdOf ByteArray.empty l (i : Int) = l.getD i ⟨#[]⟩ := by
  simp only [rdOf, Int.toNat_natCast]; rfl
theorem fromS (text : ByteArray) (l : List ByteArray) (ht : text.size ≤ 1000000) (h : Good11 l) : Ev (fun k => spec_l2From.f k text l) (fromM text l) := by
  have hlen := digitsM_length text
  have key : ∀ (d i : Nat), i + d = 11 → Ev (fun k => spec_l2From.l0 k l (joined ((List.range i).map (fromAt text l)) ⟨#[]⟩) (digitsM text) ((digitsM text).length : Int) (i : Int)) (fromM text l) := by
    intro d
    induction d with
    | zero =>
      intro i hi
      have hj := joined_size text l h 11 (by omega)
      refine Ev.step (f := fun k => (spec_l1Digest.f k 112 (joined ((List.range 11).map (fromAt text l)) ⟨#[]⟩)).bind fun t => some t) (fun k => ?_) (ev_bind (digS 112 kp _ (by omega)) (Ev.now _))
      simp only [spec_l2From.l0]
      rw [if_neg (by omega), show i = 11 by omega]
    | succ d ih =>
      intro i hi
      have hr := rd_digits text i (by omega)
      have hj := joined_size text l h i (by omega)
      have hl := h.1
      refine Ev.step (f := fun k => (spec_l2Chain.f k (l.getD i ⟨#[]⟩) (rd (digitsM text) (i : Int)) (15 - rd (digitsM text) (i : Int))).bind fun t => if (joined ((List.range i).map (fromAt text l)) ⟨#[]⟩).size + t.size ≤ 9223372036854775807 then spec_l2From.l0 k l (joined ((List.range i).map (fromAt text l)) ⟨#[]⟩ ++ t) (digitsM text) ((digitsM text).length : Int) ((i + 1 : Nat) : Int) else none) (fun k => ?_) ?_
      · simp only [spec_l2From.l0]
        rw [if_pos (by omega), if_pos (by omega), if_pos (by omega), if_pos (by omega), rdOf_getD, w64 (x := 15 - rd (digitsM text) (i : Int)) (by omega) (by omega), w64 (x := (i : Int) + 1) (by omega) (by omega)]
        rfl
      · refine ev_bind (chainS' _ _ _ hr.1 (by omega) (by omega) (by rw [getD_good h i (by omega)]; omega)) (ev_pos (by rw [chainM_size _ (getD_good h i (by omega))]; omega) ?_)
        have e : joined ((List.range i).map (fromAt text l)) ⟨#[]⟩ ++ chainM (l.getD i ⟨#[]⟩) (rd (digitsM text) (i : Int)).toNat (15 - rd (digitsM text) (i : Int)).toNat = joined ((List.range (i + 1)).map (fromAt text l)) ⟨#[]⟩ := by
          rw [List.range_succ, List.map_append, List.map_cons, List.map_nil, joined_snoc]; rfl
        rw [e]
        exact ih (i + 1) (by omega)
  exact ev_bind (digitsS text ht) (key 11 0 (by omega))
theorem fromI (text : ByteArray) (l : List ByteArray) (ht : text.size ≤ 1000000) (h : Good11 l) : Ev (fun k => impl_publicFrom.f k text l) (fromM text l) := by
  have hlen := digitsM_length text
  have key : ∀ (d i : Nat), i + d = 11 → Ev (fun k => impl_publicFrom.l0 k l (joined ((List.range i).map (fromAt text l)) ⟨#[]⟩) (digitsM text) ((digitsM text).length : Int) (i : Int)) (fromM text l) := by
    intro d
    induction d with
    | zero =>
      intro i hi
      have hj := joined_size text l h 11 (by omega)
      refine Ev.step (f := fun k => (impl_digest.f k 112 (joined ((List.range 11).map (fromAt text l)) ⟨#[]⟩)).bind fun t => some t) (fun k => ?_) (ev_bind (digI 112 kp _ (by omega)) (Ev.now _))
      simp only [impl_publicFrom.l0]
      rw [if_neg (by omega), show i = 11 by omega]
    | succ d ih =>
      intro i hi
      have hr := rd_digits text i (by omega)
      have hj := joined_size text l h i (by omega)
      have hl := h.1
      refine Ev.step (f := fun k => (impl_chain.f k (l.getD i ⟨#[]⟩) (rd (digitsM text) (i : Int)) (15 - rd (digitsM text) (i : Int))).bind fun t => if (joined ((List.range i).map (fromAt text l)) ⟨#[]⟩).size + t.size ≤ 9223372036854775807 then impl_publicFrom.l0 k l (joined ((List.range i).map (fromAt text l)) ⟨#[]⟩ ++ t) (digitsM text) ((digitsM text).length : Int) ((i + 1 : Nat) : Int) else none) (fun k => ?_) ?_
      · simp only [impl_publicFrom.l0]
        rw [if_pos (by omega), if_pos (by omega), if_pos (by omega), if_pos (by omega), rdOf_getD, w64 (x := 15 - rd (digitsM text) (i : Int)) (by omega) (by omega), w64 (x := (i : Int) + 1) (by omega) (by omega)]
        rfl
      · refine ev_bind (chainI' _ _ _ hr.1 (by omega) (by omega) (by rw [getD_good h i (by omega)]; omega)) (ev_pos (by rw [chainM_size _ (getD_good h i (by omega))]; omega) ?_)
        have e : joined ((List.range i).map (fromAt text l)) ⟨#[]⟩ ++ chainM (l.getD i ⟨#[]⟩) (rd (digitsM text) (i : Int)).toNat (15 - rd (digitsM text) (i : Int)).toNat = joined ((List.range (i + 1)).map (fromAt text l)) ⟨#[]⟩ := by
          rw [List.range_succ, List.map_append, List.map_cons, List.map_nil, joined_snoc]; rfl
        rw [e]
        exact ih (i + 1) (by omega)
  exact ev_bind (digitsI text ht) (key 11 0 (by omega))
end Go.Proofs.Ytleegjkloclolaa.PS
