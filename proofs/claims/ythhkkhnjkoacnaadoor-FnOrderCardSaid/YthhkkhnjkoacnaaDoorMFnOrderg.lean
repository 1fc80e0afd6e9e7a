/- For the law FnOrder (laid by merge.py). -/
import Derived.Test.YthhkkhnjkoacnaaDoorMFnOrderf
import Derived.Deep.Slices
import Derived.ChangeArms
import Derived.DataReads
section
namespace Go.Proofs.YthhkkhnjkoacnaaDoor.QH
open Go.RowKit Go.Proofs.YthhkkhnjkoacnaaDoorW.PrintWords Go.Proofs.YthhkkhnjkoacnaaDoorW.PrintLast Go.Proofs.YthhkkhnjkoacnaaDoorW.PrintMore Go.Proofs.YthhkkhnjkoacnaaDoor.PB Go.Proofs.YthhkkhnjkoacnaaDoor.PD Go.Proofs.YthhkkhnjkoacnaaDoor.PT Go.Proofs.YthhkkhnjkoacnaaDoor.QR Go.Proofs.YthhkkhnjkoacnaaDoor.QV Go.Proofs.YthhkkhnjkoacnaaDoor.QE Go.Proofs.YthhkkhnjkoacnaaDoor.QF Go.Proofs.YthhkkhnjkoacnaaDoor.PA
set_option linter.unusedVariables false
def candV : List UInt8 → Int × Int × ByteArray
 | [] => (0, 0, ⟨#[]⟩)
 | k :: r =>
  if k = 2 then (match r with
   | [] => (2, 0, ⟨#[]⟩)
   | b :: _ => (2, (b.toNat : Int), ⟨#[]⟩))
  else if k = 3 then (match r with
   | p :: q :: u :: v :: _ => (3, num4 p q u v - 1000000000, ⟨#[]⟩)
   | _ => (3, 0, ⟨#[]⟩))
  else if k = 4 then (4, 0, str (cand r)) else ((k.toNat : Int), 0, ⟨#[]⟩)
theorem candV_ok {l : List UInt8} {a b : Int} {t : List UInt8} {n : Nat} (h : readV l = some (a, b, t, n)) : candV l = (a, b, str t) := by
 cases l with
 | nil => cases h
 | cons k r =>
  simp only [readV] at h
  simp only [candV]
  by_cases h2 : k = 2
  ·rw [if_pos h2] at h ⊢
   cases r with
   | nil => cases h
   | cons c r =>
    dsimp only at h ⊢
    by_cases hc : c.toNat ≤ 1
    ·rw [if_pos hc] at h
     injection h with h; injection h with e1 h; injection h with e2 h; injection h with e3 e4
     subst e1 e2 e3; rfl
    ·rw [if_neg hc] at h; cases h
  ·rw [if_neg h2] at h ⊢
   by_cases h3 : k = 3
   ·rw [if_pos h3] at h ⊢
    match r, h with
    | [], h => cases h
    | [_], h => cases h
    | [_, _], h => cases h
    | [_, _, _], h => cases h
    | p :: q :: u :: v :: r, h =>
     dsimp only at h ⊢
     by_cases hc : num4 p q u v ≤ 2000000000
     ·rw [if_pos hc] at h
      injection h with h; injection h with e1 h; injection h with e2 h; injection h with e3 e4
      subst e1 e2 e3; rfl
     ·rw [if_neg hc] at h; cases h
   ·rw [if_neg h3] at h ⊢
    by_cases h4 : k = 4
    ·rw [if_pos h4] at h ⊢
     cases hr : readT r with
     | none => rw [hr] at h; cases h
     | some p =>
      obtain ⟨t1, n1⟩ := p
      rw [hr] at h
      dsimp only at h
      by_cases hc : t1.length ≤ 12
      ·rw [if_pos hc] at h
       injection h with h; injection h with e1 h; injection h with e2 h; injection h with e3 e4
       obtain ⟨s, hs, hn⟩ := readT_back _ r t1 n1 (Nat.le_refl _) hr
       subst e1 e2 e3 hs
       rw [cand_esc]
      ·rw [if_neg hc] at h; cases h
    ·rw [if_neg h4] at h ⊢
     by_cases h1 : k = 1
     ·rw [if_pos h1] at h
      injection h with h; injection h with e1 h; injection h with e2 h; injection h with e3 e4
      subst e1 e2 e3 h1; rfl
     ·rw [if_neg h1] at h; cases h
def fin (l : List UInt8) (i : Int) (v : Int × Int × ByteArray) : Int × Int × ByteArray × Int :=
 if goodV v.1 v.2.1 v.2.2 = true ∧ l.take (bts v.1 v.2.1 v.2.2).length = bts v.1 v.2.1 v.2.2 then (v.1, v.2.1, v.2.2, i + ((bts v.1 v.2.1 v.2.2).length : Int)) else (0, 0, ⟨#[]⟩, -1)
theorem fin_read (l : List UInt8) (i : Int) : fin l i (candV l) = (match readV l with
  | some (a, b, t, n) => (a, b, str t, i + (n : Int))
  | none => (0, 0, ⟨#[]⟩, -1)) := by
 cases h : readV l with
 | some p =>
  obtain ⟨a, b, t, n⟩ := p
  rw [candV_ok h]
  obtain ⟨g, m, e, hn⟩ := readV_back h
  unfold fin
  dsimp only
  rw [if_pos ⟨g, by conv => { lhs; arg 2; rw [e] }; rw [List.take_left]⟩, hn]
 | none =>
  unfold fin
  refine if_neg ?_
  rintro ⟨g, e⟩
  have := readV_bts g (l.drop (bts (candV l).1 (candV l).2.1 (candV l).2.2).length)
  conv at this => { lhs; arg 1; lhs; rw [← e] }
  rw [List.take_append_drop, h] at this
  cases this
theorem fourS (s : ByteArray) (hs : s.size ≤ 600) (i : Nat) (hi : i < s.size) (a b : Int) (x : ByteArray) (hx : x.size ≤ 100000) : Ev (fun k => spec_l4Read.j4 k s (i : Int) a b x) (fin (s.toList.drop i) (i : Int) (a, b, x)) := by
 unfold fin
 dsimp only
 have hz : (strOfNums (valI a b x)).size = (bts a b x).length := (size_toList _).symm
 have hb := valI_len a b x
 have hz2 : (strOfNums (valI a b x)).size = (valI a b x).length := strOfNums_size _
 have st : ∀ {r}, Ev (fun k => if goodV a b x = true then (spec_l4Bytes.f k a b x).bind fun t => if (s.size : Int) < wrap64 ((i : Int) + (t.size : Int)) then some (0, 0, (⟨#[]⟩ : ByteArray), -1) else if 0 ≤ (i : Int) then if (i : Int) ≤ wrap64 ((i : Int) + (t.size : Int)) then if wrap64 ((i : Int) + (t.size : Int)) ≤ (s.size : Int) then if (s.extract (i : Int).toNat (wrap64 ((i : Int) + (t.size : Int))).toNat).toList = t.toList then some (a, b, x, wrap64 ((i : Int) + (t.size : Int))) else some (0, 0, ⟨#[]⟩, -1) else none else none else none else some (0, 0, ⟨#[]⟩, -1)) r → Ev (fun k => spec_l4Read.j4 k s (i : Int) a b x) r := by
  intro r h
  refine Ev.step (fun k => ?_) h
  simp only [spec_l4Read.j4]
  rw [goodVS]
  rfl
 refine st ?_
 cases g : goodV a b x with
 | false => exact ev_neg (by simp) (ev_eq (Ev.now _) (by rw [if_neg (by simp)]))
 | true =>
  have w : wrap64 ((i : Int) + ((strOfNums (valI a b x)).size : Int)) = ((i + (bts a b x).length : Nat) : Int) := by rw [hz, w64 (by omega) (by omega)]; omega
  refine ev_pos rfl (ev_bind (bytesVS a b x hx) ?_)
  rw [w]
  by_cases hl : s.size < i + (bts a b x).length
  ·refine ev_pos (by omega) (ev_eq (Ev.now _) ?_)
   rw [if_neg]
   rintro ⟨_, e⟩
   have := congrArg List.length e
   rw [List.length_take, List.length_drop] at this
   have hL := size_toList s
   omega
  ·refine ev_neg (by omega) (ev_pos (by omega) (ev_pos (by omega) (ev_pos (by omega) ?_)))
   have e : (s.extract (i : Int).toNat ((i + (bts a b x).length : Nat) : Int).toNat).toList = (s.toList.drop i).take (bts a b x).length := by
    rw [Int.toNat_natCast, Int.toNat_natCast, ex_list]
    congr 1
    omega
   rw [e]
   by_cases t : (s.toList.drop i).take (bts a b x).length = bts a b x
   ·exact ev_pos t (ev_eq (Ev.now _) (by rw [if_pos ⟨rfl, t⟩]; rw [Int.natCast_add]))
   ·exact ev_neg t (ev_eq (Ev.now _) (by rw [if_neg (fun z => t z.2)]))
theorem candS (s : ByteArray) (i : Int) (x : ByteArray) (hx : x.size ≤ 1000) (F : Int × Int × ByteArray × Int) (a b : Int) (y0 : List Int) (R : ByteArray → Int × Int × ByteArray × Int) (hR : ∀ y : ByteArray, y.size ≤ 10000 → Ev (fun k => spec_l4Read.j4 k s i a b y) (R y)) : ∀ (d j : Nat) (y : List Int), j + d = x.size → y.length ≤ j → ∀ z, Ev (fun k => spec_l4Read.l0 k s i x y (j : Int) a b z) (R (strOfNums (y ++ ints (cand (x.toList.drop j))))) := by
 intro d
 induction d using Nat.strongRecOn with
 | ind d ih =>
  intro j y hj hy z
  by_cases h0 : d = 0
  ·rw [List.drop_eq_nil_of_le (by rw [size_toList]; omega)]
   have e : y ++ ints (cand []) = y := List.append_nil y
   rw [e]
   refine Ev.step (f := fun k => spec_l4Read.j3 k s i x y (j : Int) false a b z) (fun k => ?_) (Ev.step (f := fun k => spec_l4Read.j4 k s i a b (strOfNums y)) (fun k => ?_) (hR _ (by rw [strOfNums_size]; omega)))
   ·simp only [spec_l4Read.l0]; rw [w64 (by omega) (by omega), if_neg (by omega)]
   ·simp only [spec_l4Read.j3]; rw [if_neg (by simp)]
  ·have hlt : j < x.size := by omega
   have hg := bt_get x j hlt
   have w : wrap64 ((j : Int) + 1) = ((j + 1 : Nat) : Int) := by rw [w64 (by omega) (by omega)]; omega
   rw [drop_at x.toList j (by rw [size_toList]; omega)]
   generalize hc0 : x.toList.getD j 0 = c at hg ⊢
   by_cases h1 : j + 1 < x.size
   ·have hg1 := bt_get x (j + 1) h1
    have hd := drop_at x.toList (j + 1) (by rw [size_toList]; omega)
    generalize hd0 : x.toList.getD (j + 1) 0 = dd at hg1 hd
    by_cases hc : c = 0
    ·subst hc
     have hb : bt x (j : Int) = 0 := by rw [hg]; rfl
     rw [hd]
     by_cases hd2 : dd = 0
     ·subst hd2
      have e : y ++ ints (cand (0 :: 0 :: x.toList.drop (j + 1 + 1))) = y := List.append_nil y
      rw [e]
      refine Ev.step (f := fun k => spec_l4Read.j3 k s i x y (j : Int) false a b z) (fun k => ?_) (Ev.step (f := fun k => spec_l4Read.j4 k s i a b (strOfNums y)) (fun k => ?_) (hR _ (by rw [strOfNums_size]; omega)))
      ·simp only [spec_l4Read.l0]
       rw [w, if_pos (by omega), if_pos (by omega), if_pos (by omega), if_pos hb, if_pos (by omega), hg1]
       rfl
      ·simp only [spec_l4Read.j3]; rw [if_neg (by simp)]
     ·have hz : (!(bt x ((j + 1 : Nat) : Int) == 0)) = true := by
       rw [hg1, beq_eq_false_iff_ne.2]
       ·rfl
       ·intro e; exact hd2 (UInt8.toNat_inj.1 (by show dd.toNat = 0; omega))
      have hr := ih (d - 2) (by omega) (j + 2) (y ++ [0]) (by omega) (by rw [List.length_append]; simp only [List.length_cons, List.length_nil]; omega) z
      have e : cand (0 :: dd :: x.toList.drop (j + 1 + 1)) = 0 :: cand (x.toList.drop (j + 2)) := by rw [cand, if_pos rfl, if_neg hd2]
      rw [e, ints_cons, show (((0 : UInt8).toNat : Int)) = 0 from rfl]
      refine Ev.step (f := fun k => spec_l4Read.j3 k s i x y (j : Int) true a b z) (fun k => ?_) (Ev.step (f := fun k => spec_l4Read.l0 k s i x (y ++ [0]) ((j + 2 : Nat) : Int) a b z) (fun k => ?_) (ev_eq hr ?_))
      ·simp only [spec_l4Read.l0]
       rw [w, if_pos (by omega), if_pos (by omega), if_pos (by omega), if_pos hb, if_pos (by omega), hz]
      ·simp only [spec_l4Read.j3]
       rw [if_pos trivial, if_pos (by omega), if_pos (by omega), if_pos (by omega), hb, w]
       simp only [Option.bind_some]
       rw [if_pos trivial, w64 (x := ((j + 1 : Nat) : Int) + 1) (by omega) (by omega)]
       congr 1
      ·rw [List.append_assoc]; rfl
    ·have hb : ¬ bt x (j : Int) = 0 := by
      rw [hg]
      intro e
      exact hc (UInt8.toNat_inj.1 (by show c.toNat = 0; omega))
     have hr := ih (d - 1) (by omega) (j + 1) (y ++ [bt x (j : Int)]) (by omega) (by rw [List.length_append]; simp only [List.length_cons, List.length_nil]; omega) z
     have e : cand (c :: x.toList.drop (j + 1)) = c :: cand (x.toList.drop (j + 1)) := cand_one hc (by rw [hd]; simp)
     rw [e, ints_cons, ← hg]
     refine Ev.step (f := fun k => spec_l4Read.j3 k s i x y (j : Int) true a b z) (fun k => ?_) (Ev.step (f := fun k => spec_l4Read.l0 k s i x (y ++ [bt x (j : Int)]) ((j + 1 : Nat) : Int) a b z) (fun k => ?_) (ev_eq hr ?_))
     ·simp only [spec_l4Read.l0]
      rw [w, if_pos (by omega), if_pos (by omega), if_pos (by omega), if_neg hb]
      rfl
     ·simp only [spec_l4Read.j3]
      rw [if_pos trivial, if_pos (by omega), if_pos (by omega), if_pos (by omega), w]
      simp only [Option.bind_some]
      rw [if_neg hb]
     ·rw [List.append_assoc]; rfl
   ·have e : cand (c :: x.toList.drop (j + 1)) = [] := by rw [List.drop_eq_nil_of_le (by rw [size_toList]; omega)]; rfl
    rw [e, show ints [] = [] from rfl, List.append_nil]
    refine Ev.step (f := fun k => spec_l4Read.j3 k s i x y (j : Int) false a b z) (fun k => ?_) (Ev.step (f := fun k => spec_l4Read.j4 k s i a b (strOfNums y)) (fun k => ?_) (hR _ (by rw [strOfNums_size]; omega)))
    ·simp only [spec_l4Read.l0]; rw [w, if_neg (by omega)]
    ·simp only [spec_l4Read.j3]; rw [if_neg (by simp)]
theorem u8_ne {k c : UInt8} (h : k ≠ c) : ¬ (k.toNat : Int) = (c.toNat : Int) := fun e => h (UInt8.toNat_inj.1 (by omega))
theorem bt_cons {x : ByteArray} {l : List UInt8} (hx : x.toList = l) (j : Nat) (h : j < l.length) : bt x (j : Int) = ((l.getD j 0).toNat : Int) := by
 rw [bt_get x j (by rw [← size_toList, hx]; exact h), hx]
theorem readS (s : ByteArray) (hs : s.size ≤ 600) (i : Nat) (hi : i < s.size) : Ev (fun k => spec_l4Read.f k s (i : Int)) (match readV (s.toList.drop i) with
  | some (a, b, t, n) => (a, b, str t, (i : Int) + (n : Int))
  | none => (0, 0, ⟨#[]⟩, -1)) := by
 rw [← fin_read]
 have F := fourS s hs i hi
 have hd := drop_at s.toList i (by rw [size_toList]; omega)
 have hg := bt_get s i hi
 have w : wrap64 ((i : Int) + 1) = ((i + 1 : Nat) : Int) := by rw [w64 (by omega) (by omega)]; omega
 generalize s.toList.getD i 0 = c at hg hd
 have hxl : (s.extract (((i + 1 : Nat) : Int)).toNat s.size).toList = s.toList.drop (i + 1) := by rw [Int.toNat_natCast, ex_tail]
 have hxz : (s.extract (((i + 1 : Nat) : Int)).toNat s.size).size = s.size - (i + 1) := by rw [← size_toList, hxl, List.length_drop, size_toList]
 unfold spec_l4Read.f
 refine ev_pos (by omega) (ev_pos (by omega) ?_)
 rw [w]
 refine ev_pos (by omega) (ev_pos (by omega) ?_)
 generalize s.extract (((i + 1 : Nat) : Int)).toNat s.size = x at hxl hxz ⊢
 generalize hr : s.toList.drop (i + 1) = r at hd hxl
 have hrl : r.length = x.size := by rw [← hxl, size_toList]
 have hcl := UInt8.toNat_lt c
 have wc : wrap64 (bt s (i : Int)) = (c.toNat : Int) := by rw [hg, w64 (by omega) (by omega)]
 rw [wc]
 rw [hd] at F ⊢
 simp only [candV]
 by_cases h2 : c = 2
 ·subst h2
  rw [if_pos rfl]
  refine ev_pos rfl ?_
  cases r with
  | nil =>
   simp only [List.length_nil] at hrl
   refine Ev.step (f := fun k => spec_l4Read.j1 k s (i : Int) x false ((2 : UInt8).toNat : Int) 0 ⟨#[]⟩) (fun k => ?_) (Ev.step (f := fun k => spec_l4Read.j4 k s (i : Int) ((2 : UInt8).toNat : Int) 0 ⟨#[]⟩) (fun k => ?_) (F 2 0 ⟨#[]⟩ (by decide)))
   ·simp only [spec_l4Read.j0]
    rw [decide_eq_false (by omega), if_neg (by simp), if_neg (by decide)]
   ·simp only [spec_l4Read.j1]
    rw [if_neg (by simp), if_neg (by decide)]
  | cons b r =>
   simp only [List.length_cons] at hrl
   have hb := bt_cons hxl 0 (by simp)
   have hb' : bt x 0 = (b.toNat : Int) := hb
   have := UInt8.toNat_lt b
   refine Ev.step (f := fun k => spec_l4Read.j4 k s (i : Int) ((2 : UInt8).toNat : Int) (b.toNat : Int) ⟨#[]⟩) (fun k => ?_) (F 2 (b.toNat : Int) ⟨#[]⟩ (by decide))
   simp only [spec_l4Read.j0]
   rw [decide_eq_true (by omega), if_pos rfl, if_pos (by omega), hb', w64 (by omega) (by omega)]
 ·rw [if_neg h2]
  refine ev_neg (u8_ne h2) ?_
  by_cases h3 : c = 3
  ·subst h3
   rw [if_pos rfl]
   by_cases hl : 3 < x.size
   ·match r, hrl with
    | [], hrl => simp only [List.length_nil] at hrl; omega
    | [_], hrl => simp only [List.length_cons, List.length_nil] at hrl; omega
    | [_, _], hrl => simp only [List.length_cons, List.length_nil] at hrl; omega
    | [_, _, _], hrl => simp only [List.length_cons, List.length_nil] at hrl; omega
    | p :: q :: u :: v :: r, hrl =>
     have b0 : bt x 0 = (p.toNat : Int) := bt_cons hxl 0 (by simp)
     have b1 : bt x 1 = (q.toNat : Int) := bt_cons hxl 1 (by simp)
     have b2 : bt x 2 = (u.toNat : Int) := bt_cons hxl 2 (by simp)
     have b3 : bt x 3 = (v.toNat : Int) := bt_cons hxl 3 (by simp)
     have l1 := UInt8.toNat_lt p; have l2 := UInt8.toNat_lt q; have l3 := UInt8.toNat_lt u; have l4 := UInt8.toNat_lt v
     refine Ev.step (f := fun k => spec_l4Read.j1 k s (i : Int) x true ((3 : UInt8).toNat : Int) 0 ⟨#[]⟩) (fun k => ?_) (Ev.step (f := fun k => spec_l4Read.j4 k s (i : Int) ((3 : UInt8).toNat : Int) (num4 p q u v - 1000000000) ⟨#[]⟩) (fun k => ?_) (F 3 (num4 p q u v - 1000000000) ⟨#[]⟩ (by decide)))
     ·simp only [spec_l4Read.j0]
      rw [if_neg (by simp), if_pos (by decide), decide_eq_true (by omega)]
     ·simp only [spec_l4Read.j1]
      rw [if_pos trivial, if_pos (by omega), if_pos (by omega), if_pos (by omega), if_pos (by omega), b0, b1, b2, b3]
      congr 1
      unfold num4
      rw [w64 (x := (p.toNat : Int)) (by omega) (by omega), w64 (x := (q.toNat : Int)) (by omega) (by omega), w64 (x := (u.toNat : Int)) (by omega) (by omega), w64 (x := (v.toNat : Int)) (by omega) (by omega), w64 (x := (p.toNat : Int) * 16777216) (by omega) (by omega), w64 (x := (q.toNat : Int) * 65536) (by omega) (by omega), w64 (x := (u.toNat : Int) * 256) (by omega) (by omega), w64 (x := (p.toNat : Int) * 16777216 + (q.toNat : Int) * 65536) (by omega) (by omega), w64 (x := (p.toNat : Int) * 16777216 + (q.toNat : Int) * 65536 + (u.toNat : Int) * 256) (by omega) (by omega), w64 (x := (p.toNat : Int) * 16777216 + (q.toNat : Int) * 65536 + (u.toNat : Int) * 256 + (v.toNat : Int)) (by omega) (by omega), w64 (by omega) (by omega)]
   ·have e : (match r with | p :: q :: u :: v :: _ => ((3 : Int), num4 p q u v - 1000000000, (⟨#[]⟩ : ByteArray)) | _ => (3, 0, ⟨#[]⟩)) = (3, 0, ⟨#[]⟩) := by
     match r, hrl with
     | [], _ => rfl
     | [_], _ => rfl
     | [_, _], _ => rfl
     | [_, _, _], _ => rfl
     | p :: q :: u :: v :: r, hrl => simp only [List.length_cons] at hrl; omega
    rw [e]
    refine Ev.step (f := fun k => spec_l4Read.j1 k s (i : Int) x false ((3 : UInt8).toNat : Int) 0 ⟨#[]⟩) (fun k => ?_) (Ev.step (f := fun k => spec_l4Read.j4 k s (i : Int) ((3 : UInt8).toNat : Int) 0 ⟨#[]⟩) (fun k => ?_) (F 3 0 ⟨#[]⟩ (by decide)))
    ·simp only [spec_l4Read.j0]
     rw [if_neg (by simp), if_pos (by decide), decide_eq_false (by omega)]
    ·simp only [spec_l4Read.j1]
     rw [if_neg (by simp), if_neg (by decide)]
  ·rw [if_neg h3]
   have n3 : ¬ ((c.toNat : Int)) = 3 := u8_ne h3
   refine Ev.step (f := fun k => spec_l4Read.j1 k s (i : Int) x false (c.toNat : Int) 0 ⟨#[]⟩) (fun k => ?_) ?_
   ·simp only [spec_l4Read.j0]
    rw [if_neg (by simp), if_neg n3]
   ·by_cases h4 : c = 4
    ·subst h4
     rw [if_pos rfl]
     have hcand : ∀ y : ByteArray, y.size ≤ 10000 → Ev (fun k => spec_l4Read.j4 k s (i : Int) 4 0 y) (fin (4 :: r) (i : Int) (4, 0, y)) := fun y hy => F 4 0 y (by omega)
     have hl := candS s (i : Int) x (by omega) (0, 0, ⟨#[]⟩, 0) 4 0 [] (fun y => fin (4 :: r) (i : Int) (4, 0, y)) hcand x.size 0 [] (by omega) (by simp) ⟨#[]⟩
     rw [List.drop_zero, hxl, List.nil_append] at hl
     refine Ev.step (f := fun k => spec_l4Read.l0 k s (i : Int) x [] ((0 : Nat) : Int) 4 0 ⟨#[]⟩) (fun k => ?_) hl
     simp only [spec_l4Read.j1]
     rw [if_neg (by simp), if_pos (by decide)]
     rfl
    ·rw [if_neg h4]
     have n4 : ¬ ((c.toNat : Int)) = 4 := u8_ne h4
     refine Ev.step (f := fun k => spec_l4Read.j4 k s (i : Int) (c.toNat : Int) 0 ⟨#[]⟩) (fun k => ?_) (F (c.toNat : Int) 0 ⟨#[]⟩ (by decide))
     simp only [spec_l4Read.j1]
     rw [if_neg (by simp), if_neg n4]
end Go.Proofs.YthhkkhnjkoacnaaDoor.QH
end
section
namespace Go.Proofs.YthhkkhnjkoacnaaDoor.QI
open Go.RowKit Go.Proofs.YthhkkhnjkoacnaaDoorW.PrintWords Go.Proofs.YthhkkhnjkoacnaaDoorW.PrintLast Go.Proofs.YthhkkhnjkoacnaaDoorW.PrintMore Go.Proofs.YthhkkhnjkoacnaaDoor.PB Go.Proofs.YthhkkhnjkoacnaaDoor.PD Go.Proofs.YthhkkhnjkoacnaaDoor.PT Go.Proofs.YthhkkhnjkoacnaaDoor.QR Go.Proofs.YthhkkhnjkoacnaaDoor.QV Go.Proofs.YthhkkhnjkoacnaaDoor.QE Go.Proofs.YthhkkhnjkoacnaaDoor.QF Go.Proofs.YthhkkhnjkoacnaaDoor.QH Go.Proofs.YthhkkhnjkoacnaaDoor.PA
set_option linter.unusedVariables false
def ansV (o : Option (Int × Int × List UInt8 × Nat)) : Int × Int × ByteArray × Int × Bool := match o with
 | some (a, b, t, n) => (a, b, str t, (n : Int), true)
 | none => (0, 0, ⟨#[]⟩, 0, false)
theorem or4 (p q u v : UInt8) : Go.bits .or .i64 (Go.bits .or .i64 (Go.bits .or .i64 ((p.toNat : Int) * 16777216) ((q.toNat : Int) * 65536)) ((u.toNat : Int) * 256)) (v.toNat : Int) = num4 p q u v := by
 have l1 := UInt8.toNat_lt p; have l2 := UInt8.toNat_lt q; have l3 := UInt8.toNat_lt u; have l4 := UInt8.toNat_lt v
 rw [or_add (i := 24) ((p.toNat : Int) * 16777216) ((q.toNat : Int) * 65536) (by omega) (by omega) ⟨p.toNat, by omega⟩ (by omega) (by omega) (by omega)]
 rw [or_add (i := 16) ((p.toNat : Int) * 16777216 + (q.toNat : Int) * 65536) ((u.toNat : Int) * 256) (by omega) (by omega) ⟨p.toNat * 256 + q.toNat, by omega⟩ (by omega) (by omega) (by omega)]
 rw [or_add (i := 8) ((p.toNat : Int) * 16777216 + (q.toNat : Int) * 65536 + (u.toNat : Int) * 256) (v.toNat : Int) (by omega) (by omega) ⟨p.toNat * 65536 + q.toNat * 256 + u.toNat, by omega⟩ (by omega) (by omega) (by omega)]
 rfl
theorem readI (s : ByteArray) (hs : s.size ≤ 1000) : Ev (fun k => impl_readValue.f k s) (ansV (readV s.toList)) := by
 unfold impl_readValue.f
 by_cases h0 : s.toList = []
 ·refine ev_pos h0 ?_
  rw [h0]
  exact Ev.now _
 refine ev_neg h0 ?_
 have hsz : 0 < s.size := by
  rw [← size_toList]
  exact List.length_pos_iff.2 h0
 refine ev_pos (by omega) (ev_pos (by omega) ?_)
 have hg := bt_get s 0 hsz
 have hg' : bt s 0 = ((s.toList.getD 0 0).toNat : Int) := hg
 have hd := drop_at s.toList 0 (by rw [size_toList]; omega)
 rw [List.drop_zero] at hd
 generalize s.toList.getD 0 0 = c at hg' hd
 have hxl : (s.extract 1 s.size).toList = s.toList.drop 1 := ex_tail s 1
 generalize s.extract 1 s.size = x at hxl ⊢
 generalize hr : s.toList.drop (0 + 1) = r at hd
 rw [show s.toList.drop 1 = r from hr] at hxl
 have hrl : r.length = x.size := by rw [← hxl, size_toList]
 have hxs : x.size ≤ 1000 := by
  have := congrArg List.length hd
  rw [size_toList, List.length_cons] at this
  omega
 have hcl := UInt8.toNat_lt c
 have wc : wrap64 (bt s 0) = (c.toNat : Int) := by rw [hg', w64 (by omega) (by omega)]
 rw [wc, hd]
 simp only [readV]
 by_cases h2 : c = 2
 ·subst h2
  rw [if_pos rfl]
  refine ev_pos rfl ?_
  cases r with
  | nil => exact ev_pos hxl (Ev.now _)
  | cons b r =>
   simp only [List.length_cons] at hrl
   have hb : bt x 0 = (b.toNat : Int) := bt_cons hxl 0 (by simp)
   have := UInt8.toNat_lt b
   refine ev_neg (by rw [hxl]; simp) (ev_pos (by omega) ?_)
   rw [hb, w64 (x := (b.toNat : Int)) (by omega) (by omega)]
   refine ev_const (goodVI _ _ _) ?_
   rw [show ((2 : UInt8).toNat : Int) = 2 from rfl, good2 (by omega)]
   dsimp only
   by_cases h : b.toNat ≤ 1
   ·rw [if_pos h]
    exact ev_pos (decide_eq_true (by omega)) (Ev.now _)
   ·rw [if_neg h]
    exact ev_neg (by rw [decide_eq_false (by omega)]; simp) (Ev.now _)
 ·rw [if_neg h2]
  refine ev_neg (u8_ne h2) ?_
  by_cases h3 : c = 3
  ·subst h3
   rw [if_pos rfl]
   refine ev_pos rfl ?_
   by_cases hl : 3 < x.size
   ·match r, hrl with
    | [], hrl => simp only [List.length_nil] at hrl; omega
    | [_], hrl => simp only [List.length_cons, List.length_nil] at hrl; omega
    | [_, _], hrl => simp only [List.length_cons, List.length_nil] at hrl; omega
    | [_, _, _], hrl => simp only [List.length_cons, List.length_nil] at hrl; omega
    | p :: q :: u :: v :: r, hrl =>
     have b0 : bt x 0 = (p.toNat : Int) := bt_cons hxl 0 (by simp)
     have b1 : bt x 1 = (q.toNat : Int) := bt_cons hxl 1 (by simp)
     have b2 : bt x 2 = (u.toNat : Int) := bt_cons hxl 2 (by simp)
     have b3 : bt x 3 = (v.toNat : Int) := bt_cons hxl 3 (by simp)
     have l1 := UInt8.toNat_lt p; have l2 := UInt8.toNat_lt q; have l3 := UInt8.toNat_lt u; have l4 := UInt8.toNat_lt v
     have hn := num4_lt p q u v
     refine ev_neg (by omega) (ev_pos (by omega) (ev_pos (by omega) (ev_pos (by omega) (ev_pos (by omega) ?_))))
     rw [b0, b1, b2, b3, w64 (x := (p.toNat : Int)) (by omega) (by omega), w64 (x := (q.toNat : Int)) (by omega) (by omega), w64 (x := (u.toNat : Int)) (by omega) (by omega), w64 (x := (v.toNat : Int)) (by omega) (by omega), w64 (x := (p.toNat : Int) * 16777216) (by omega) (by omega), w64 (x := (q.toNat : Int) * 65536) (by omega) (by omega), w64 (x := (u.toNat : Int) * 256) (by omega) (by omega), or4, w64 (x := num4 p q u v - 1000000000) (by omega) (by omega)]
     refine ev_const (goodVI _ _ _) ?_
     rw [show ((3 : UInt8).toNat : Int) = 3 from rfl, good3]
     dsimp only
     by_cases h : num4 p q u v ≤ 2000000000
     ·rw [if_pos h]
      exact ev_pos (decide_eq_true (by omega)) (Ev.now _)
     ·rw [if_neg h]
      exact ev_neg (by rw [decide_eq_false (by omega)]; simp) (Ev.now _)
   ·match r, hrl with
    | [], _ => exact ev_pos (by omega) (Ev.now _)
    | [_], _ => exact ev_pos (by omega) (Ev.now _)
    | [_, _], _ => exact ev_pos (by omega) (Ev.now _)
    | [_, _, _], _ => exact ev_pos (by omega) (Ev.now _)
    | p :: q :: u :: v :: r, hrl => simp only [List.length_cons] at hrl; omega
  ·rw [if_neg h3]
   refine ev_neg (u8_ne h3) ?_
   by_cases h4 : c = 4
   ·subst h4
    rw [if_pos rfl]
    refine ev_pos rfl ?_
    have ht := readTextI x (by omega) x.size 0 [] (by omega) (by simp)
    rw [List.drop_zero, hxl] at ht
    have ht' : Ev (fun k => impl_readText.f k x) (match readT r with
      | some (t, n) => (str t, (n : Int), true)
      | none => (⟨#[]⟩, 0, false)) := by
     refine ev_eq (Ev.congr (fun k => rfl) ht) ?_
     cases readT r with
     | none => rfl
     | some p =>
      show (strOfNums ([] ++ ints p.1), ((0 : Nat) : Int) + (p.2 : Int), true) = (str p.1, (p.2 : Int), true)
      rw [show ((0 : Nat) : Int) + (p.2 : Int) = (p.2 : Int) by omega]
      rfl
    cases hR : readT r with
    | none => rw [hR] at ht'; exact ev_bind ht' (ev_neg (by simp) (Ev.now _))
    | some p =>
     obtain ⟨t, n⟩ := p
     rw [hR] at ht'
     refine ev_bind ht' (ev_pos rfl ?_)
     obtain ⟨m, hm, hn⟩ := readT_back _ r t n (Nat.le_refl _) hR
     have hnl : n ≤ r.length := by rw [hm, hn, List.length_append, List.length_cons, List.length_cons]; omega
     dsimp only
     refine ev_const (goodVI _ _ _) ?_
     rw [show ((4 : UInt8).toNat : Int) = 4 from rfl, good4, str_size]
     by_cases h : t.length ≤ 12
     ·rw [if_pos h]
      refine ev_pos (decide_eq_true h) (ev_eq (Ev.now _) ?_)
      rw [w64 (by omega) (by omega)]
      show (_, _, _, _, _) = ((4 : Int), (0 : Int), str t, ((1 + n : Nat) : Int), true)
      congr 4
     ·rw [if_neg h]
      exact ev_neg (by rw [decide_eq_false h]; simp) (Ev.now _)
   ·rw [if_neg h4]
    refine ev_neg (u8_ne h4) (ev_const (goodVI _ _ _) ?_)
    by_cases h1 : c = 1
    ·subst h1
     rw [if_pos rfl]
     exact ev_pos good1 (Ev.now _)
    ·rw [if_neg h1, good_no (u8_ne h1) (u8_ne h2) (u8_ne h3) (u8_ne h4)]
     exact ev_neg (by simp) (Ev.now _)
end Go.Proofs.YthhkkhnjkoacnaaDoor.QI
end
section
namespace Go.Proofs.YthhkkhnjkoacnaaDoor.QK
open Go.RowKit Go.Proofs.YthhkkhnjkoacnaaDoorW.PrintWords Go.Proofs.YthhkkhnjkoacnaaDoorW.PrintLast Go.Proofs.YthhkkhnjkoacnaaDoorW.PrintMore Go.Proofs.YthhkkhnjkoacnaaDoor.PB Go.Proofs.YthhkkhnjkoacnaaDoor.PD Go.Proofs.YthhkkhnjkoacnaaDoor.PT Go.Proofs.YthhkkhnjkoacnaaDoor.QR Go.Proofs.YthhkkhnjkoacnaaDoor.QV Go.Proofs.YthhkkhnjkoacnaaDoor.QE Go.Proofs.YthhkkhnjkoacnaaDoor.QF Go.Proofs.YthhkkhnjkoacnaaDoor.QH Go.Proofs.YthhkkhnjkoacnaaDoor.QI Go.Proofs.YthhkkhnjkoacnaaDoor.PA
set_option linter.unusedVariables false
def rvM (s : ByteArray) (i : Int) : Int × Int × ByteArray × Int × Bool :=
 if 0 ≤ i ∧ i ≤ (s.size : Int) then (match readV (s.toList.drop i.toNat) with
  | some (a, b, t, n) => (a, b, str t, i + (n : Int), true)
  | none => (0, 0, ⟨#[]⟩, 0, false)) else (0, 0, ⟨#[]⟩, 0, false)
theorem readV_len {l : List UInt8} {a b : Int} {t : List UInt8} {n : Nat} (h : readV l = some (a, b, t, n)) : n ≤ l.length := by
 obtain ⟨_, m, e, hn⟩ := readV_back h
 rw [e, hn, List.length_append]; omega
theorem readValueI (s : ByteArray) (hs : s.size ≤ 600) (i : Int) : Ev (fun k => impl_ReadValue.f k s i) (rvM s i) := by
 unfold impl_ReadValue.f rvM
 refine ev_neg (by omega) ?_
 by_cases h : 0 ≤ i ∧ i ≤ (s.size : Int)
 ·rw [if_pos h]
  obtain ⟨n, rfl⟩ := Int.eq_ofNat_of_zero_le h.1
  refine ev_const (inI _ _ _) ?_
  rw [decide_eq_true h]
  have hr := readI (s.extract n s.size) (by have := congrArg List.length (ex_tail s n); rw [size_toList, List.length_drop, size_toList] at this; omega)
  rw [ex_tail] at hr
  refine Ev.step (f := fun k => (impl_readValue.f k (s.extract n s.size)).bind fun t => if t.2.2.2.2 = true then some (t.1, t.2.1, t.2.2.1, wrap64 ((n : Int) + t.2.2.2.1), true) else some (0, 0, (⟨#[]⟩ : ByteArray), 0, false)) (fun k => ?_) (ev_bind hr ?_)
  ·simp only [impl_ReadValue.j0]
   rw [if_neg (by simp), if_pos (by omega), if_pos (by omega), Int.toNat_natCast]
  ·rw [Int.toNat_natCast]
   cases hv : readV (s.toList.drop n) with
   | none => exact ev_neg (by show ¬ false = true; simp) (Ev.now _)
   | some p =>
    obtain ⟨a, b, t, m⟩ := p
    have hm := readV_len hv
    rw [List.length_drop, size_toList] at hm
    refine ev_pos rfl (ev_eq (Ev.now _) ?_)
    show (a, b, str t, wrap64 ((n : Int) + (m : Int)), true) = _
    rw [w64 (by omega) (by omega)]
 ·rw [if_neg h]
  refine ev_const (inI _ _ _) ?_
  rw [decide_eq_false h]
  exact Ev.step (f := fun _ => some (0, 0, (⟨#[]⟩ : ByteArray), 0, false)) (fun k => by simp only [impl_ReadValue.j0]; rw [if_pos (by simp)]) (Ev.now _)
theorem readValueS (s : ByteArray) (hs : s.size ≤ 600) (i : Int) : Ev (fun k => spec_ReadValue.f k s i) (rvM s i) := by
 have no : Ev (fun k => spec_ReadValue.j0 k s i true) (0, 0, (⟨#[]⟩ : ByteArray), 0, false) := Ev.step (f := fun _ => some (0, 0, (⟨#[]⟩ : ByteArray), 0, false)) (fun k => by simp only [spec_ReadValue.j0]; rw [if_pos trivial]) (Ev.now _)
 unfold spec_ReadValue.f rvM
 refine ev_neg (by omega) ?_
 by_cases h : i < 0
 ·rw [if_neg (by omega)]
  exact ev_pos h no
 ·refine ev_neg h ?_
  obtain ⟨n, rfl⟩ := Int.eq_ofNat_of_zero_le (show 0 ≤ i by omega)
  by_cases h2 : (n : Int) ≥ (s.size : Int)
  ·rw [decide_eq_true h2]
   refine ev_eq no ?_
   rw [Int.toNat_natCast, List.drop_eq_nil_of_le (by rw [size_toList]; omega)]
   split <;> rfl
  ·rw [decide_eq_false h2, if_pos (by omega), Int.toNat_natCast]
   have hr := readS s hs n (by omega)
   refine Ev.step (f := fun k => (spec_l4Read.f k s (n : Int)).bind fun t => if t.2.2.2 < 0 then some (0, 0, (⟨#[]⟩ : ByteArray), 0, false) else some (t.1, t.2.1, t.2.2.1, t.2.2.2, true)) (fun k => ?_) (ev_bind hr ?_)
   ·simp only [spec_ReadValue.j0]
    rw [if_neg (by simp)]
   ·cases hv : readV (s.toList.drop n) with
    | none => exact ev_pos (by show (-1 : Int) < 0; omega) (Ev.now _)
    | some p =>
     obtain ⟨a, b, t, m⟩ := p
     exact ev_neg (by show ¬ (n : Int) + (m : Int) < 0; omega) (Ev.now _)
theorem compI (a b : Int) : cmp_Compare_int.f a b = some (sgn a b) := by
 unfold cmp_Compare_int.f cmp_isNaN_int.f sgn
 simp only [Option.bind_some, bne_self_eq_false]
 rw [if_neg (by simp), if_neg (by simp)]
 split
 ·rfl
 ·split <;> rfl
theorem orI (a b c : Int) : Ev (fun k => cmp_Or_int.f k [a, b, c]) (if a = 0 then (if b = 0 then c else b) else a) := by
 unfold cmp_Or_int.f
 have r0 : rd [a, b, c] 0 = a := rfl
 have r1 : rd [a, b, c] 1 = b := rfl
 have r2 : rd [a, b, c] 2 = c := rfl
 have hl : (([a, b, c] : List Int).length : Int) = 3 := rfl
 rw [hl]
 have s3 : Ev (fun k => cmp_Or_int.l0 k 0 [a, b, c] 3 3) 0 := Ev.step (f := fun _ => some 0) (fun k => by simp only [cmp_Or_int.l0]; rw [if_neg (by omega)]) (Ev.now _)
 have s2 : Ev (fun k => cmp_Or_int.l0 k 0 [a, b, c] 3 2) c := by
  by_cases h : c = 0
  ·rw [h]
   rw [h] at s3 r2
   refine Ev.step (f := fun k => cmp_Or_int.l0 k 0 [a, b, 0] 3 3) (fun k => ?_) s3
   simp only [cmp_Or_int.l0]
   rw [if_pos (by omega), if_pos (by omega), if_pos (by show (2 : Int) < 3; omega), if_pos r2, show wrap64 (2 + 1) = 3 from w64 (by omega) (by omega)]
  ·refine Ev.step (f := fun _ => some c) (fun k => ?_) (Ev.now _)
   simp only [cmp_Or_int.l0]
   rw [if_pos (by omega), if_pos (by omega), if_pos (by show (2 : Int) < 3; omega), r2, if_neg h]
 have s1 : Ev (fun k => cmp_Or_int.l0 k 0 [a, b, c] 3 1) (if b = 0 then c else b) := by
  by_cases h : b = 0
  ·rw [if_pos h]
   refine Ev.step (f := fun k => cmp_Or_int.l0 k 0 [a, b, c] 3 2) (fun k => ?_) s2
   simp only [cmp_Or_int.l0]
   rw [if_pos (by omega), if_pos (by omega), if_pos (by show (1 : Int) < 3; omega), r1, if_pos h, show wrap64 (1 + 1) = 2 from w64 (by omega) (by omega)]
  ·rw [if_neg h]
   refine Ev.step (f := fun _ => some b) (fun k => ?_) (Ev.now _)
   simp only [cmp_Or_int.l0]
   rw [if_pos (by omega), if_pos (by omega), if_pos (by show (1 : Int) < 3; omega), r1, if_neg h]
 by_cases h : a = 0
 ·rw [if_pos h]
  refine Ev.step (f := fun k => cmp_Or_int.l0 k 0 [a, b, c] 3 1) (fun k => ?_) s1
  simp only [cmp_Or_int.l0]
  rw [if_pos (by omega), if_pos (by omega), if_pos (by show (0 : Int) < 3; omega), r0, if_pos h, show wrap64 (0 + 1) = 1 from w64 (by omega) (by omega)]
 ·rw [if_neg h]
  refine Ev.step (f := fun _ => some a) (fun k => ?_) (Ev.now _)
  simp only [cmp_Or_int.l0]
  rw [if_pos (by omega), if_pos (by omega), if_pos (by show (0 : Int) < 3; omega), r0, if_neg h]
theorem cmpI (a b : Int) (s : ByteArray) (a' b' : Int) (s' : ByteArray) : Ev (fun k => impl_Value_compare.f k a b s a' b' s') (cmpV a b s a' b' s') := by
 unfold impl_Value_compare.f strings_Compare.f
 refine ev_const (compI a a') (ev_const (compI b b') (ev_const rfl (ev_bind (orI _ _ _) (ev_eq (Ev.now _) ?_))))
 unfold cmpV
 rw [cmpL_lib, ← ByteArray.toList_eq, ← ByteArray.toList_eq]
 simp only [sgn_zero]
theorem cmpS (a b : Int) (s : ByteArray) (a' b' : Int) (s' : ByteArray) : spec_l4Compare.f a b s a' b' s' = some (cmpV a b s a' b' s') := by
 have sg : ∀ x y, spec_l4Sign.f x y = some (sgn x y) := by
  intro x y; unfold spec_l4Sign.f sgn
  split
  ·rfl
  ·split <;> rfl
 unfold spec_l4Compare.f cmpV
 rw [sg, sg, ← cmpL_less]
 by_cases h : a = a'
 ·rw [if_pos h, if_pos h]
  by_cases h2 : b = b'
  ·rw [if_pos h2, if_pos h2]
   split
   ·rfl
   ·split <;> rfl
  ·rw [if_neg h2, if_neg h2]; rfl
 ·rw [if_neg h, if_neg h]; rfl
def cvM (a b : Int) (s : ByteArray) (a' b' : Int) (s' : ByteArray) : Int × Bool := if goodV a b s = true then (if goodV a' b' s' = true then (cmpV a b s a' b' s', true) else (0, false)) else (0, false)
theorem compareI (a b : Int) (s : ByteArray) (a' b' : Int) (s' : ByteArray) : Ev (fun k => impl_CompareValues.f k a b s a' b' s') (cvM a b s a' b' s') := by
 unfold impl_CompareValues.f cvM
 refine ev_const (goodVI a b s) ?_
 by_cases h : goodV a b s = true
 ·rw [if_pos h]
  refine ev_pos h (ev_const (goodVI _ _ _) ?_)
  by_cases h2 : goodV a' b' s' = true
  ·rw [if_pos h2]
   exact ev_pos h2 (ev_bind (cmpI a b s a' b' s') (Ev.now _))
  ·rw [if_neg h2]
   exact ev_neg h2 (Ev.now _)
 ·rw [if_neg h]
  exact ev_neg h (Ev.now _)
theorem compareS (a b : Int) (s : ByteArray) (a' b' : Int) (s' : ByteArray) : spec_CompareValues.f a b s a' b' s' = some (cvM a b s a' b' s') := by
 unfold spec_CompareValues.f cvM
 rw [goodVS, goodVS]
 simp only [Option.bind_some]
 by_cases h : goodV a b s = true
 ·rw [if_pos h, if_pos h]
  by_cases h2 : goodV a' b' s' = true
  ·rw [if_pos h2, if_pos h2, cmpS]; rfl
  ·rw [if_neg h2, if_neg h2]
 ·rw [if_neg h, if_neg h]
end Go.Proofs.YthhkkhnjkoacnaaDoor.QK
end
section
namespace Go.Proofs.YthhkkhnjkoacnaaDoor.PC
open Go.RowKit Go.Proofs.YthhkkhnjkoacnaaDoorW.PrintWords Go.Proofs.YthhkkhnjkoacnaaDoorW.PrintLast Go.Proofs.YthhkkhnjkoacnaaDoorW.PrintMore Go.Proofs.YthhkkhnjkoacnaaDoor.PB Go.Proofs.YthhkkhnjkoacnaaDoor.PL Go.Proofs.YthhkkhnjkoacnaaDoor.PA
set_option linter.unusedVariables false
def Bys (c : List Int) : Prop := ∀ x ∈ c, 0 ≤ x ∧ x ≤ 255
theorem code_of (c : List Int) (h : ∀ x ∈ c, (Lit.int .u8 x).wf = true) : Bys c := by
 intro x hx
 have := h x hx
 simp [Lit.wf] at this
 have e1 : IntKind.u8.min = 0 := rfl
 have e2 : IntKind.u8.max = 255 := rfl
 rw [e1, e2] at this
 omega
theorem code_at {c : List Int} (h : Bys c) (i : Int) : 0 ≤ rd c i ∧ rd c i ≤ 255 := by
 unfold rd
 rw [List.getD_eq_getElem?_getD]
 cases e : c[i.toNat]? with
 | none => simp
 | some x => exact h x (List.mem_of_getElem? e)
theorem wrap_u64 (n : Int) : IntKind.u64.wrap n = n % 18446744073709551616 := by simp [IntKind.wrap, IntKind.bits, IntKind.signed]
theorem and255 (x : Int) (h0 : 0 ≤ x) (h1 : x < 16777216) : 0 ≤ wrap64 (Go.bits .and .u64 x 255) ∧ wrap64 (Go.bits .and .u64 x 255) ≤ 255 := by
 have h := Go.bits_mask .u64 24 (by decide) (fun n a b => by rw [wrap_u64]; omega) 8 (by decide) x h0 (by omega)
 have e : ((2 : Int) ^ 8 - 1) = 255 := by decide
 rw [e] at h
 rw [h, w64 (by omega) (by omega)]
 omega
def Drawn {α : Type} (i : Int) (K : Int) (o : Option (α × Int × Int)) (P : α → Prop) : Prop := ∃ v i' s', o = some (v, i', s') ∧ P v ∧ i ≤ i' ∧ i' ≤ i + K
theorem next_d {c : List Int} (hc : Bys c) (i s : Int) (h0 : 0 ≤ i) (h1 : i ≤ 1000000000000) : Drawn i 1 (spec_l1Cur_next.f c i s) (fun v => 0 ≤ v ∧ v ≤ 255) := by
 have e : wrap64 (i + 1) = i + 1 := w64 (by omega) (by omega)
 have hr := code_at hc i
 have hv : wrap64 (rd c i) = rd c i := w64 (by omega) (by omega)
 unfold spec_l1Cur_next.f
 rw [e]
 by_cases hi : i < (c.length : Int)
 ·rw [if_pos hi, if_pos h0, if_pos (by omega)]
  exact ⟨_, _, _, rfl, by rw [hv]; exact hr, by omega, by omega⟩
 ·rw [if_neg hi, if_neg (by omega)]
  refine ⟨_, _, _, rfl, and255 _ ?_ ?_, by omega, by omega⟩
  ·rw [wrap_u64]; omega
  ·rw [wrap_u64]; omega
theorem pick_d {c : List Int} (hc : Bys c) (i s n : Int) (h0 : 0 ≤ i) (h1 : i ≤ 100000000000) (hn : n ≤ 1000000000) : Drawn i 2 (spec_l1Cur_pick.f c i s n) (fun v => 0 ≤ v ∧ (v < n ∨ v = 0)) := by
 unfold spec_l1Cur_pick.f
 by_cases c1 : n ≤ 1
 ·rw [if_pos c1]
  exact ⟨0, i, s, rfl, ⟨by omega, Or.inr rfl⟩, by omega, by omega⟩
 ·rw [if_neg c1]
  obtain ⟨v, i', s', e, hv, hi1, hi2⟩ := next_d hc i s h0 (by omega)
  rw [e]
  simp only [Option.bind_some]
  by_cases c2 : n > 200
  ·rw [if_pos c2]
   obtain ⟨v2, i2, s2, e2, hv2, hi3, hi4⟩ := next_d hc i' s' (by omega) (by omega)
   rw [e2]
   simp only [Option.bind_some]
   rw [if_neg (by omega), w64 (x := v * 256) (by omega) (by omega), w64 (x := v * 256 + v2) (by omega) (by omega), Int.tmod_eq_emod_of_nonneg (by omega)]
   exact ⟨_, _, _, rfl, ⟨Int.emod_nonneg _ (by omega), Or.inl (Int.emod_lt_of_pos _ (by omega))⟩, by omega, by omega⟩
  ·rw [if_neg c2, if_neg (by omega), Int.tmod_eq_emod_of_nonneg (by omega)]
   exact ⟨_, _, _, rfl, ⟨Int.emod_nonneg _ (by omega), Or.inl (Int.emod_lt_of_pos _ (by omega))⟩, by omega, by omega⟩
theorem of_d {c : List Int} (hc : Bys c) (i s : Int) (l : List ByteArray) (h0 : 0 ≤ i) (h1 : i ≤ 100000000000) (hl : 1 ≤ l.length ∧ l.length ≤ 1000000000) : Drawn i 2 (spec_l1Cur_of.f c i s l) (fun v => v ∈ l) := by
 obtain ⟨v, i', s', e, hv, hi1, hi2⟩ := pick_d hc i s (l.length : Int) h0 h1 (by omega)
 unfold spec_l1Cur_of.f
 rw [e]
 simp only [Option.bind_some]
 rw [if_pos hv.1, if_pos (by omega)]
 refine ⟨_, _, _, rfl, ?_, hi1, hi2⟩
 obtain ⟨n, rfl⟩ := Int.eq_ofNat_of_zero_le hv.1
 have hn : n < l.length := by omega
 rw [rdOf_at _ _ _ hn]
 exact List.getElem_mem hn
theorem one_d {c : List Int} (hc : Bys c) (i s n : Int) (h0 : 0 ≤ i) (h1 : i ≤ 100000000000) (hn : n ≤ 1000000000) : Drawn i 2 (spec_l1Cur_one.f c i s n) (fun _ => True) := by
 obtain ⟨v, i', s', e, hv, hi1, hi2⟩ := pick_d hc i s n h0 h1 hn
 unfold spec_l1Cur_one.f
 rw [e]
 exact ⟨_, _, _, rfl, trivial, hi1, hi2⟩
theorem among_d {c : List Int} (hc : Bys c) (i s : Int) (l : List Int) (h0 : 0 ≤ i) (h1 : i ≤ 100000000000) (hl : 1 ≤ l.length ∧ l.length ≤ 1000000000) : Drawn i 2 (spec_l1Cur_among.f c i s l) (fun v => v ∈ l) := by
 obtain ⟨v, i', s', e, hv, hi1, hi2⟩ := pick_d hc i s (l.length : Int) h0 h1 (by omega)
 unfold spec_l1Cur_among.f
 rw [e]
 simp only [Option.bind_some]
 rw [if_pos hv.1, if_pos (by omega)]
 refine ⟨_, _, _, rfl, ?_, hi1, hi2⟩
 obtain ⟨n, rfl⟩ := Int.eq_ofNat_of_zero_le hv.1
 have hn : n < l.length := by omega
 unfold rd
 rw [List.getD_eq_getElem?_getD, Int.toNat_natCast, List.getElem?_eq_getElem hn]
 exact List.getElem_mem hn
def DrawnE {α : Type} (i : Int) (K : Int) (f : Nat → Option (α × Int × Int)) (P : α → Prop) : Prop := ∃ v i' s', Ev f (v, i', s') ∧ P v ∧ i ≤ i' ∧ i' ≤ i + K
end Go.Proofs.YthhkkhnjkoacnaaDoor.PC
end
section
namespace Go.Proofs.YthhkkhnjkoacnaaDoor.QD
open Go.RowKit Go.Proofs.YthhkkhnjkoacnaaDoorW.PrintWords Go.Proofs.YthhkkhnjkoacnaaDoorW.PrintLast Go.Proofs.YthhkkhnjkoacnaaDoorW.PrintMore Go.Proofs.YthhkkhnjkoacnaaDoor.PB Go.Proofs.YthhkkhnjkoacnaaDoor.PL Go.Proofs.YthhkkhnjkoacnaaDoor.PC Go.Proofs.YthhkkhnjkoacnaaDoor.QV Go.Proofs.YthhkkhnjkoacnaaDoor.PA
set_option linter.unusedVariables false
theorem value_d {c : List Int} (hc : Bys c) (i s : Int) (h0 : 0 ≤ i) (h1 : i ≤ 20000000000) : ∃ a b t i' s', spec_l1Cur_value.f c i s = some (a, b, t, i', s') ∧ t.size ≤ 13 ∧ i ≤ i' ∧ i' ≤ i + 10 := by
 unfold spec_l1Cur_value.f
 have hz : (⟨#[]⟩ : ByteArray).size ≤ 13 := by decide
 obtain ⟨v, i2, s2, e2, hv, h2, h3⟩ := pick_d hc i s 5 h0 (by omega) (by omega)
 rw [e2]
 simp only [Option.bind_some]
 by_cases c0 : v = 0
 ·rw [if_pos c0]; exact ⟨_, _, _, _, _, rfl, hz, by omega, by omega⟩
 ·rw [if_neg c0]
  by_cases c1 : v = 1
  ·rw [if_pos c1]
   obtain ⟨v3, i3, s3, e3, hv3, h4, h5⟩ := pick_d hc i2 s2 2 (by omega) (by omega) (by omega)
   obtain ⟨v4, i4, s4, e4, hv4, h6, h7⟩ := pick_d hc i3 s3 9 (by omega) (by omega) (by omega)
   rw [e3]; simp only [Option.bind_some]; rw [e4]; simp only [Option.bind_some]
   exact ⟨_, _, _, _, _, rfl, hz, by omega, by omega⟩
  ·rw [if_neg c1]
   by_cases c2 : v = 2
   ·rw [if_pos c2]
    obtain ⟨v3, i3, s3, e3, hv3, h4, h5⟩ := pick_d hc i2 s2 9 (by omega) (by omega) (by omega)
    obtain ⟨v4, i4, s4, e4, hv4, h6, h7⟩ := among_d hc i3 s3 [0, 1, -1, 5, 256, -256, 1000000000, -1000000000, wrap64 (1000000000 + wrap64 (Int.tdiv v3 8))] (by omega) (by omega) ⟨by simp, by simp⟩
    rw [e3]; simp only [Option.bind_some]; rw [e4]; simp only [Option.bind_some]
    exact ⟨_, _, _, _, _, rfl, hz, by omega, by omega⟩
   ·rw [if_neg c2]
    by_cases c3 : v = 3
    ·rw [if_pos c3]
     obtain ⟨v4, i4, s4, e4, hv4, h6, h7⟩ := of_d hc i2 s2 [(⟨#[]⟩ : ByteArray), (⟨#[97]⟩ : ByteArray), (⟨#[97, 98]⟩ : ByteArray), (⟨#[98]⟩ : ByteArray), (⟨#[0]⟩ : ByteArray), (⟨#[97, 0]⟩ : ByteArray), (⟨#[97, 0, 98]⟩ : ByteArray), (⟨#[97, 255]⟩ : ByteArray), (⟨#[116, 119, 101, 108, 118, 101, 32, 98, 121, 116, 101, 115]⟩ : ByteArray), (⟨#[116, 104, 105, 114, 116, 101, 101, 110, 32, 98, 121, 116, 101]⟩ : ByteArray)] (by omega) (by omega) ⟨by simp, by simp⟩
     rw [e4]; simp only [Option.bind_some]
     refine ⟨_, _, _, _, _, rfl, ?_, by omega, by omega⟩
     simp only [List.mem_cons, List.not_mem_nil, or_false] at hv4
     rcases hv4 with rfl | rfl | rfl | rfl | rfl | rfl | rfl | rfl | rfl | rfl <;> decide
    ·rw [if_neg c3]
     obtain ⟨v3, i3, s3, e3, hv3, h4, h5⟩ := pick_d hc i2 s2 6 (by omega) (by omega) (by omega)
     obtain ⟨v4, i4, s4, e4, hv4, h6, h7⟩ := pick_d hc i3 s3 3 (by omega) (by omega) (by omega)
     rw [e3]; simp only [Option.bind_some]; rw [e4]; simp only [Option.bind_some]
     exact ⟨_, _, _, _, _, rfl, hz, by omega, by omega⟩
theorem drawValue {c : List Int} (hc : Bys c) : ∃ a b t, spec_DrawValueBytes.f c = some (a, b, t) ∧ t.size ≤ 13 := by
 obtain ⟨a, b, t, i, s, e, h, _⟩ := value_d hc 0 0 (by omega) (by omega)
 refine ⟨a, b, t, ?_, h⟩
 unfold spec_DrawValueBytes.f spec_DrawGoodValue.f
 rw [e]; rfl
theorem drawTwo {c : List Int} (hc : Bys c) : ∃ a b t a' b' t', spec_DrawCompareValues.f c = some (a, b, t, a', b', t') ∧ t.size ≤ 13 ∧ t'.size ≤ 13 := by
 obtain ⟨a, b, t, i, s, e, h, h1, h2⟩ := value_d hc 0 0 (by omega) (by omega)
 obtain ⟨v, i2, s2, e2, _, h3, h4⟩ := one_d hc i s 6 (by omega) (by omega) (by omega)
 unfold spec_DrawCompareValues.f
 rw [e]; simp only [Option.bind_some]; rw [e2]; simp only [Option.bind_some]
 cases v with
 | true => exact ⟨a, b, t, a, b, t, by rw [if_pos rfl], h, h⟩
 | false =>
  obtain ⟨a', b', t', i3, s3, e3, h5, h6, h7⟩ := value_d hc i2 s2 (by omega) (by omega)
  exact ⟨a, b, t, a', b', t', by rw [if_neg (by simp), e3]; rfl, h, h5⟩
theorem row_d {c : List Int} (hc : Bys c) (i s : Int) (h0 : 0 ≤ i) (h1 : i ≤ 10000000000) : DrawnE i 100 (fun k => spec_l1Cur_row.f k c i s) (fun l => l.length ≤ 10) := by
 have loop : ∀ (d : Nat) (l : List S27) (i s : Int), l.length + d ≤ 10 → 0 ≤ i → i + 10 * (d : Int) ≤ 20000000000 → ∃ l' i' s', Ev (fun k => spec_l1Cur_row.l0 k l (d : Int) c i s) (l', i', s') ∧ l'.length ≤ 10 ∧ i ≤ i' ∧ i' ≤ i + 10 * (d : Int) := by
  intro d
  induction d with
  | zero =>
   intro l i s hl h0 h1
   exact ⟨l, i, s, Ev.step (f := fun _ => some (l, i, s)) (fun k => by simp only [spec_l1Cur_row.l0]; rw [if_neg (by omega)]) (Ev.now _), by omega, by omega, by omega⟩
  | succ d ih =>
   intro l i s hl h0 h1
   have wd : wrap64 (((d + 1 : Nat) : Int) - 1) = (d : Int) := by rw [w64 (by omega) (by omega)]; omega
   obtain ⟨a, b, t, i2, s2, e2, _, h2, h3⟩ := value_d hc i s h0 (by omega)
   obtain ⟨l1, i5, s5, r1, z1, z2, z3⟩ := ih (l ++ [(⟨a, b, t⟩ : S27)]) i2 s2 (by rw [List.length_append]; simp only [List.length_cons, List.length_nil]; omega) (by omega) (by omega)
   refine ⟨l1, i5, s5, Ev.step (f := fun k => spec_l1Cur_row.l0 k (l ++ [(⟨a, b, t⟩ : S27)]) (d : Int) c i2 s2) (fun k => ?_) r1, z1, by omega, by omega⟩
   simp only [spec_l1Cur_row.l0]
   rw [if_pos (by omega), e2]
   simp only [Option.bind_some]
   rw [if_pos (by omega), wd]
 have go : ∀ (n : Int) (i s : Int), 0 ≤ n → n ≤ 8 → 0 ≤ i → i ≤ 10000000100 → ∃ l' i' s', Ev (fun k => spec_l1Cur_row.j0 k [] n c i s) (l', i', s') ∧ l'.length ≤ 10 ∧ i ≤ i' ∧ i' ≤ i + 80 := by
  intro n i s hn0 hn h0 h1
  obtain ⟨m, rfl⟩ := Int.eq_ofNat_of_zero_le hn0
  obtain ⟨l1, i5, s5, r1, z1, z2, z3⟩ := loop m [] i s (by simp only [List.length_nil]; omega) h0 (by omega)
  exact ⟨l1, i5, s5, Ev.step (f := fun k => spec_l1Cur_row.l0 k [] ((m : Nat) : Int) c i s) (fun k => by simp only [spec_l1Cur_row.j0]) r1, z1, z2, by omega⟩
 obtain ⟨n, i2, s2, e2, hn, h2, h3⟩ := pick_d hc i s 5 h0 (by omega) (by omega)
 obtain ⟨b, i3, s3, e3, _, h4, h5⟩ := one_d hc i2 s2 20 (by omega) (by omega) (by omega)
 cases b with
 | true =>
  obtain ⟨v, i4, s4, e4, hv, h6, h7⟩ := pick_d hc i3 s3 2 (by omega) (by omega) (by omega)
  have w : wrap64 (6 + v) = 6 + v := w64 (by omega) (by omega)
  obtain ⟨l1, i5, s5, r1, z1, z2, z3⟩ := go (6 + v) i4 s4 (by omega) (by omega) (by omega) (by omega)
  rw [← w] at r1
  exact ⟨l1, i5, s5, ev_const e2 (ev_const e3 (ev_pos rfl (ev_const e4 r1))), z1, by omega, by omega⟩
 | false =>
  obtain ⟨l1, i5, s5, r1, z1, z2, z3⟩ := go n i3 s3 (by omega) (by omega) (by omega) (by omega)
  exact ⟨l1, i5, s5, ev_const e2 (ev_const e3 (ev_neg (by simp) r1)), z1, by omega, by omega⟩
theorem ex_size (x : ByteArray) (i j : Nat) : (x.extract i j).size = min j x.size - i := ByteArray.size_extract
theorem spoilt_d {c : List Int} (hc : Bys c) (i s : Int) (x y : ByteArray) (hx : x.size ≤ 100000) (hy : 1 ≤ y.size ∧ y.size ≤ 100000) (h0 : 0 ≤ i) (h1 : i ≤ 10000000000) : DrawnE i 100 (fun k => spec_l1Cur_spoilt.f k c i s x y) (fun t => t.size ≤ x.size + 3) := by
 have loop : ∀ (d : Nat) (x : ByteArray) (i s : Int), x.size + d ≤ 200000 → 0 ≤ i → i + 10 * (d : Int) ≤ 20000000000 → ∃ t i' s', Ev (fun k => spec_l1Cur_spoilt.l0 k x y (d : Int) c i s) (t, i', s') ∧ t.size ≤ x.size + d ∧ i ≤ i' ∧ i' ≤ i + 10 * (d : Int) := by
  intro d
  induction d with
  | zero =>
   intro x i s hl h0 h1
   refine ⟨x, i, s, Ev.step (f := fun k => spec_l1Cur_spoilt.j1 k x y ((0 : Nat) : Int) false c i s) (fun k => by simp only [spec_l1Cur_spoilt.l0]; rw [if_neg (by omega)]) (Ev.step (f := fun _ => some (x, i, s)) (fun k => by simp only [spec_l1Cur_spoilt.j1]; rw [if_neg (by simp)]) (Ev.now _)), by omega, by omega, by omega⟩
  | succ d ih =>
   intro x i s hl h0 h1
   have wd : wrap64 (((d + 1 : Nat) : Int) - 1) = (d : Int) := by rw [w64 (by omega) (by omega)]; omega
   by_cases hz : (x.size : Int) > 0
   ·obtain ⟨v, i2, s2, e2, hv, h2, h3⟩ := pick_d hc i s (x.size : Int) h0 (by omega) (by omega)
    obtain ⟨u, i3, s3, e3, hu, h4, h5⟩ := pick_d hc i2 s2 (y.size : Int) (by omega) (by omega) (by omega)
    obtain ⟨q, i4, s4, e4, hq, h6, h7⟩ := pick_d hc i3 s3 3 (by omega) (by omega) (by omega)
    have st : ∀ (x' : ByteArray), x'.size ≤ x.size + 1 → (∀ k, (if q = 0 then (if 0 ≤ v then (if v ≤ (x.size : Int) then (if (x.extract 0 (v : Int).toNat).size + (strOfNums [bt y u]).size ≤ 9223372036854775807 then (if ((x.extract 0 (v : Int).toNat) ++ (strOfNums [bt y u])).size + (x.extract (v : Int).toNat x.size).size ≤ 9223372036854775807 then (spec_l1Cur_spoilt.l0 k (((x.extract 0 (v : Int).toNat) ++ (strOfNums [bt y u])) ++ (x.extract (v : Int).toNat x.size)) y (wrap64 (((d + 1 : Nat) : Int) - 1)) c i4 s4) else (none)) else (none)) else (none)) else (none)) else (if q = 1 then (if 0 ≤ v then (if v ≤ (x.size : Int) then (if (x.extract 0 (v : Int).toNat).size + (strOfNums [bt y u]).size ≤ 9223372036854775807 then (if 0 ≤ (wrap64 (v + 1)) then (if (wrap64 (v + 1)) ≤ (x.size : Int) then (if ((x.extract 0 (v : Int).toNat) ++ (strOfNums [bt y u])).size + (x.extract ((wrap64 (v + 1)) : Int).toNat x.size).size ≤ 9223372036854775807 then (spec_l1Cur_spoilt.l0 k (((x.extract 0 (v : Int).toNat) ++ (strOfNums [bt y u])) ++ (x.extract ((wrap64 (v + 1)) : Int).toNat x.size)) y (wrap64 (((d + 1 : Nat) : Int) - 1)) c i4 s4) else (none)) else (none)) else (none)) else (none)) else (none)) else (none)) else (if 0 ≤ v then (if v ≤ (x.size : Int) then (if 0 ≤ (wrap64 (v + 1)) then (if (wrap64 (v + 1)) ≤ (x.size : Int) then (if (x.extract 0 (v : Int).toNat).size + (x.extract ((wrap64 (v + 1)) : Int).toNat x.size).size ≤ 9223372036854775807 then (spec_l1Cur_spoilt.l0 k ((x.extract 0 (v : Int).toNat) ++ (x.extract ((wrap64 (v + 1)) : Int).toNat x.size)) y (wrap64 (((d + 1 : Nat) : Int) - 1)) c i4 s4) else (none)) else (none)) else (none)) else (none)) else (none)))) = spec_l1Cur_spoilt.l0 k x' y (d : Int) c i4 s4) → ∃ t i' s', Ev (fun k => spec_l1Cur_spoilt.l0 k x y ((d + 1 : Nat) : Int) c i s) (t, i', s') ∧ t.size ≤ x.size + (d + 1) ∧ i ≤ i' ∧ i' ≤ i + 10 * ((d + 1 : Nat) : Int) := by
     intro x' hx' hk
     obtain ⟨t, i5, s5, r1, z1, z2, z3⟩ := ih x' i4 s4 (by omega) (by omega) (by omega)
     refine ⟨t, i5, s5, Ev.step (f := fun k => spec_l1Cur_spoilt.j1 k x y ((d + 1 : Nat) : Int) true c i s) (fun k => ?_) (Ev.step (f := fun k => spec_l1Cur_spoilt.l0 k x' y (d : Int) c i4 s4) (fun k => ?_) r1), by omega, by omega, by omega⟩
     ·simp only [spec_l1Cur_spoilt.l0]; rw [if_pos (by omega), decide_eq_true hz]
     ·rw [← hk]
      simp only [spec_l1Cur_spoilt.j1]
      rw [if_pos trivial, e2]; simp only [Option.bind_some]
      rw [e3]; simp only [Option.bind_some]
      rw [if_pos (by omega), if_pos (by omega)]
      rw [e4]; simp only [Option.bind_some]
    have hs1 : (strOfNums [bt y u]).size = 1 := by rw [strOfNums_size]; rfl
    have w1 : wrap64 (v + 1) = v + 1 := w64 (by omega) (by omega)
    have z1 := ex_size x 0 v.toNat
    have z2 := ex_size x v.toNat x.size
    have z3 := ex_size x (v + 1).toNat x.size
    have z4 := app_size (x.extract 0 v.toNat) (strOfNums [bt y u])
    by_cases q0 : q = 0
    ·refine st ((x.extract 0 v.toNat ++ strOfNums [bt y u]) ++ x.extract v.toNat x.size) (by rw [app_size]; omega) (fun k => ?_)
     rw [if_pos q0, if_pos hv.1, if_pos (by omega), if_pos (by omega), if_pos (by omega), wd]
    ·by_cases q1 : q = 1
     ·refine st ((x.extract 0 v.toNat ++ strOfNums [bt y u]) ++ x.extract (v + 1).toNat x.size) (by rw [app_size]; omega) (fun k => ?_)
      rw [if_neg q0, if_pos q1, if_pos hv.1, if_pos (by omega), if_pos (by omega), w1, if_pos (by omega), if_pos (by omega), if_pos (by omega), wd]
     ·refine st (x.extract 0 v.toNat ++ x.extract (v + 1).toNat x.size) (by rw [app_size]; omega) (fun k => ?_)
      rw [if_neg q0, if_neg q1, if_pos hv.1, if_pos (by omega), w1, if_pos (by omega), if_pos (by omega), if_pos (by omega), wd]
   ·refine ⟨x, i, s, Ev.step (f := fun k => spec_l1Cur_spoilt.j1 k x y ((d + 1 : Nat) : Int) false c i s) (fun k => by simp only [spec_l1Cur_spoilt.l0]; rw [if_pos (by omega), decide_eq_false hz]) (Ev.step (f := fun _ => some (x, i, s)) (fun k => by simp only [spec_l1Cur_spoilt.j1]; rw [if_neg (by simp)]) (Ev.now _)), by omega, by omega, by omega⟩
 obtain ⟨v, i2, s2, e2, hv, h2, h3⟩ := pick_d hc i s 3 h0 (by omega) (by omega)
 obtain ⟨m, rfl⟩ := Int.eq_ofNat_of_zero_le hv.1
 obtain ⟨t, i5, s5, r1, z1, z2, z3⟩ := loop m x i2 s2 (by omega) (by omega) (by omega)
 exact ⟨t, i5, s5, ev_const e2 r1, by show t.size ≤ x.size + 3; omega, by omega, by omega⟩
theorem rowText_d {c : List Int} (hc : Bys c) (i s : Int) (h0 : 0 ≤ i) (h1 : i ≤ 1000000000) : DrawnE i 500 (fun k => spec_l1Cur_rowText.f k c i s) (fun t => t.size ≤ 400) := by
 obtain ⟨l, i2, s2, e2, hl, h2, h3⟩ := row_d hc i s h0 (by omega)
 have hb := rowBytesS l (by omega)
 have hz := rowBytes_size l
 obtain ⟨b, i3, s3, e3, _, h4, h5⟩ := one_d hc i2 s2 3 (by omega) (by omega) (by omega)
 cases b with
 | true =>
  obtain ⟨t, i4, s4, e4, ht, h6, h7⟩ := spoilt_d hc i3 s3 (rowBytesM l).1 (⟨#[0, 1, 4, 255, 97]⟩ : ByteArray) (by omega) (by decide) (by omega) (by omega)
  exact ⟨t, i4, s4, ev_bind e2 (ev_bind hb (ev_const e3 (ev_pos rfl (ev_bind e4 (Ev.now _))))), by show t.size ≤ 400; omega, by omega, by omega⟩
 | false =>
  exact ⟨(rowBytesM l).1, i3, s3, ev_bind e2 (ev_bind hb (ev_const e3 (ev_neg (by simp) (Ev.now _)))), by show (rowBytesM l).1.size ≤ 400; omega, by omega, by omega⟩
theorem drawRead {c : List Int} (hc : Bys c) : ∃ t v, Ev (fun k => spec_DrawReadValue.f k c) (t, v) ∧ t.size ≤ 400 ∧ -1 ≤ v ∧ v ≤ (t.size : Int) := by
 obtain ⟨t, i, s, e, ht, h1, h2⟩ := rowText_d hc 0 0 (by omega) (by omega)
 have w : wrap64 ((t.size : Int) + 2) = (t.size : Int) + 2 := w64 (by omega) (by omega)
 obtain ⟨v, i2, s2, e2, hv, h3, h4⟩ := pick_d hc i s ((t.size : Int) + 2) (by omega) (by omega) (by omega)
 have w1 : wrap64 (v - 1) = v - 1 := w64 (by omega) (by omega)
 refine ⟨t, v - 1, ev_bind e (ev_const (by dsimp only; rw [w]; exact e2) (ev_eq (Ev.now _) (by rw [w1]))), ht, by omega, by omega⟩
end Go.Proofs.YthhkkhnjkoacnaaDoor.QD
end
section
namespace Go.Proofs.YthhkkhnjkoacnaaDoor.Pure
open Go.RowKit Go.Proofs.YthhkkhnjkoacnaaDoorW.PrintWords Go.Proofs.YthhkkhnjkoacnaaDoorW.PrintLast Go.Proofs.YthhkkhnjkoacnaaDoorW.PrintMore Go.Proofs.YthhkkhnjkoacnaaDoor.PB Go.Proofs.YthhkkhnjkoacnaaDoor.PD Go.Proofs.YthhkkhnjkoacnaaDoor.PC Go.Proofs.YthhkkhnjkoacnaaDoor.QR Go.Proofs.YthhkkhnjkoacnaaDoor.QV Go.Proofs.YthhkkhnjkoacnaaDoor.QE Go.Proofs.YthhkkhnjkoacnaaDoor.QF Go.Proofs.YthhkkhnjkoacnaaDoor.QH Go.Proofs.YthhkkhnjkoacnaaDoor.QI Go.Proofs.YthhkkhnjkoacnaaDoor.QK Go.Proofs.YthhkkhnjkoacnaaDoor.QD Go.Proofs.YthhkkhnjkoacnaaDoor.PA
set_option linter.unusedVariables false
theorem orderTail {c : List Int} (hc : Bys c) : Ev (fun k => laws_FnOrder.j3 k c) true := by
 obtain ⟨s, i, hd, hs, h1, h2⟩ := drawRead hc
 obtain ⟨a, b, t, hv, ht⟩ := drawValue hc
 have hI := readValueI s (by omega) i
 have hS := readValueS s (by omega) i
 refine Ev.step (f := fun k => _) (fun k => by simp only [laws_FnOrder.j3]; rfl) ?_
 refine ev_bind hd (ev_bind hI (ev_bind hS (ev_const hv (ev_const (valueBytesI a b t) (ev_bind (valueBytesS a b t) (ev_neg (by simp) (ev_neg (by simp) (ev_pos rfl (ev_neg (by simp) ?_)))))))))
 simp only [bne_self_eq_false]
 unfold rvM
 have no : Ev (fun k => laws_FnOrder.j4 k s i 0 false false 0 0 ⟨#[]⟩) true := Ev.step (f := fun _ => some true) (fun k => by simp only [laws_FnOrder.j4]; rw [if_neg (by simp), if_neg (by simp)]) (Ev.now _)
 by_cases h : 0 ≤ i ∧ i ≤ (s.size : Int)
 ·rw [if_pos h]
  obtain ⟨n, rfl⟩ := Int.eq_ofNat_of_zero_le h.1
  rw [Int.toNat_natCast]
  cases hv : readV (s.toList.drop n) with
  | none => exact no
  | some p =>
   obtain ⟨a, b, t, m⟩ := p
   have hm := readV_len hv
   obtain ⟨g, more, e, hn⟩ := readV_back hv
   rw [List.length_drop, size_toList] at hm
   show Ev (fun k => laws_FnOrder.j4 k s (n : Int) ((n : Int) + (m : Int)) true false a b (str t)) true
   refine Ev.step (f := fun _ => some true) (fun k => ?_) (Ev.now _)
   simp only [laws_FnOrder.j4]
   rw [if_neg (by simp), if_pos trivial, valueBytesI]
   unfold valueBytesM
   rw [if_pos g]
   simp only [Option.bind_some]
   rw [if_pos trivial, if_pos (by omega), if_pos (by omega), if_pos (by omega)]
   have e2 : (s.extract (n : Int).toNat ((n : Int) + (m : Int)).toNat).toList = bts a b (str t) := by
    rw [Int.toNat_natCast, show ((n : Int) + (m : Int)).toNat = n + m by omega, ex_list, e, hn, Nat.add_sub_cancel_left, List.take_left]
   rw [e2, beq_self_eq_true]
 ·rw [if_neg h]
  exact no
theorem sameWay (x y : ByteArray) : laws_sameWay.f x y = some (cmpL x.toList y.toList) := by
 unfold laws_sameWay.f
 rw [← cmpL_less]
 split
 ·rfl
 ·split <;> rfl
theorem FnOrder (l0 l1 : List Int) (h0 : l0.length ≤ maxLen ∧ ∀ x ∈ l0, (Lit.int .u8 x).wf = true) (h1 : l1.length ≤ maxLen ∧ ∀ x ∈ l1, (Lit.int .u8 x).wf = true) : ∃ k, laws_FnOrder.f k l0 l1 = some true := by
 refine Ev.rounds ?_
 have hc := code_of l0 h0.2
 have hc1 := code_of l1 h1.2
 have tail := orderTail hc1
 unfold laws_FnOrder.f
 by_cases hL : wrap64 ((l0.length : Int) + (l1.length : Int)) > 1048576
 ·exact ev_pos hL (Ev.now _)
 refine ev_neg hL ?_
 obtain ⟨a, b, s, a', b', s', hd, hz, hz'⟩ := drawTwo hc
 refine ev_const hd (ev_bind (compareI a b s a' b' s') (ev_const (compareS a b s a' b' s') (ev_neg (by simp) (ev_pos rfl (ev_const (goodVI a b s) (ev_const (goodVS a b s) ?_))))))
 simp only [bne_self_eq_false]
 unfold cvM
 have no : Ev (fun k => laws_FnOrder.j0 k l1 0 false false a b s a' b' s') true := Ev.step (f := fun k => laws_FnOrder.j3 k l1) (fun k => by simp only [laws_FnOrder.j0]; rw [if_neg (by simp), if_neg (by simp)]) tail
 by_cases g : goodV a b s = true
 ·rw [if_pos g]
  by_cases g' : goodV a' b' s' = true
  ·rw [if_pos g']
   have hvx : valueBytesM a b s = (strOfNums (valI a b s), true) := by unfold valueBytesM; rw [if_pos g]
   have hvy : valueBytesM a' b' s' = (strOfNums (valI a' b' s'), true) := by unfold valueBytesM; rw [if_pos g']
   have hx := valS_size g
   have hy := valS_size g'
   have hcv : cvM a' b' s' a b s = (-cmpV a b s a' b' s', true) := by unfold cvM; rw [if_pos g', if_pos g, cmpV_neg]
   have hr : -1 ≤ cmpV a b s a' b' s' ∧ cmpV a b s a' b' s' ≤ 1 := by
    have l : ∀ x y : List UInt8, -1 ≤ cmpL x y ∧ cmpL x y ≤ 1 := by
     intro x y; rw [← cmpL_less]; split
     ·omega
     ·split <;> omega
    have sg : ∀ x y : Int, -1 ≤ sgn x y ∧ sgn x y ≤ 1 := by
     intro x y; unfold sgn; split
     ·omega
     ·split <;> omega
    unfold cmpV
    split
    ·split
     ·exact l _ _
     ·exact sg _ _
    ·exact sg _ _
   have hzero : ((cmpV a b s a' b' s' == 0) != (a == a' && (b == b' && (s.toList == s'.toList)))) = false := by
    by_cases e : cmpV a b s a' b' s' = 0
    ·obtain ⟨rfl, rfl, rfl⟩ := cmpV_zero.1 e
     rw [e]; simp
    ·have h1 : (cmpV a b s a' b' s' == 0) = false := beq_eq_false_iff_ne.2 e
     have h2 : (a == a' && (b == b' && (s.toList == s'.toList))) = false := by
      cases hh : (a == a' && (b == b' && (s.toList == s'.toList))) with
      | false => rfl
      | true =>
       simp only [Bool.and_eq_true, beq_iff_eq] at hh
       exact absurd (cmpV_zero.2 ⟨hh.1, hh.2.1, ba_ext hh.2.2⟩) e
     rw [h1, h2]; rfl
   have hread := readValueI (strOfNums (valI a b s) ++ strOfNums (valI a' b' s')) (by rw [app_size]; omega) 0
   have hrv : rvM (strOfNums (valI a b s) ++ strOfNums (valI a' b' s')) 0 = (a, b, s, ((strOfNums (valI a b s)).size : Int), true) := by
    unfold rvM
    rw [if_pos (by omega), show (0 : Int).toNat = 0 from rfl, List.drop_zero, app_list, readV_bts g]
    show (a, b, str s.toList, (0 : Int) + ((strOfNums (valI a b s)).toList.length : Int), true) = _
    rw [str_of, size_toList, Int.zero_add]
   rw [hrv] at hread
   have j2 : Ev (fun k => laws_FnOrder.j2 k l1 (strOfNums (valI a b s)) (strOfNums (valI a' b' s')) false a b s) true := by
    refine Ev.step (f := fun k => (impl_ReadValue.f k (strOfNums (valI a b s) ++ strOfNums (valI a' b' s')) 0).bind fun bt561 => (if bt561.2.2.2.2 = true then (if (!(bt561.1 == a) || (!(bt561.2.1 == b) || (!(bt561.2.2.1.toList == s.toList)))) = true then (some false) else (if bt561.2.2.2.1 = ((strOfNums (valI a b s)).size : Int) then (laws_FnOrder.j3 k l1) else (some false))) else (some false))) (fun k => ?_) (ev_bind hread (ev_pos rfl (ev_neg (by simp) (ev_pos rfl tail))))
    simp only [laws_FnOrder.j2]
    rw [if_neg (by simp), if_pos (by omega)]
   have j1 : Ev (fun k => laws_FnOrder.j1 k l1 (cmpV a b s a' b' s') (strOfNums (valI a b s)) (strOfNums (valI a' b' s')) false a b s) true := by
    by_cases e : cmpV a b s a' b' s' = 0
    ·refine Ev.step (fun k => ?_) j2
     simp only [laws_FnOrder.j1]
     rw [if_neg (by simp), if_pos e]
    ·by_cases hl : ((strOfNums (valI a b s)).size : Int) ≤ ((strOfNums (valI a' b' s')).size : Int)
     ·have np : (((strOfNums (valI a' b' s')).extract 0 ((strOfNums (valI a b s)).size : Int).toNat).toList == (strOfNums (valI a b s)).toList) = false := by
       refine beq_eq_false_iff_ne.2 (fun h => e ?_)
       rw [ex_list, List.drop_zero, Nat.sub_zero, Int.toNat_natCast] at h
       have h2 : bts a' b' s' = bts a b s ++ (bts a' b' s').drop (strOfNums (valI a b s)).size := by
        conv => { lhs; rw [← List.take_append_drop (strOfNums (valI a b s)).size (bts a' b' s')] }
        rw [h]
       have r1 := readV_bts g' []
       have r2 := readV_bts g ((bts a' b' s').drop (strOfNums (valI a b s)).size)
       rw [← h2] at r2
       rw [List.append_nil, r2] at r1
       injection r1 with r1; injection r1 with e1 r1; injection r1 with e2 r1; injection r1 with e3 e4
       exact cmpV_zero.2 ⟨e1, e2, ba_ext e3⟩
      refine Ev.step (fun k => ?_) j2
      simp only [laws_FnOrder.j1]
      rw [if_neg (by simp), if_neg e, if_pos hl, if_pos (by omega), np]
     ·refine Ev.step (fun k => ?_) j2
      simp only [laws_FnOrder.j1]
      rw [if_neg (by simp), if_neg e, if_neg hl]
   refine Ev.step (f := fun k => _) (fun k => by simp only [laws_FnOrder.j0]; rfl) ?_
   refine ev_neg (by simp) (ev_pos trivial ?_)
   refine ev_const (valueBytesI a b s) (ev_const (valueBytesI a' b' s') (ev_bind (compareI a' b' s' a b s) ?_))
   rw [hvx, hvy, hcv]
   refine ev_pos rfl (ev_pos rfl (ev_const (sameWay _ _) (ev_pos (order g g') (ev_pos rfl (ev_pos ?_ ?_)))))
   ·rw [w64 (by omega) (by omega)]
   ·rw [hzero]; exact j1
  ·rw [if_neg g']; exact no
 ·rw [if_neg g]; exact no
end Go.Proofs.YthhkkhnjkoacnaaDoor.Pure
end
section
namespace Go.Proofs.YthhkkhnjkoacnaaDoor.RO
open Go.RowKit Go.Proofs.YthhkkhnjkoacnaaDoorW.PrintWords Go.ChangeShapes Go.WideShapes
set_option linter.unusedVariables false
def Opn (P : Program) (W : World) (e : TypeId) {α : Type} (d : Kd α) (G : α → Prop) : Prop :=
 ∀ {H : Type} {enc : TypeId × Value → H} {base : Nat} {spare : Nat → Bool} {held : Bool} {n : Nat} {cs : List Value} {x : DataW H × List MemPlace},
  DataW.trod enc P W base spare held n e cs = some x → ∃ y : α, d.K W y cs ∧ G y
section
variable {P : Program} {W : World} {e t : TypeId}
theorem op_int {k : IntKind} (he : P.underlying e = some (.int k)) : Opn P W e (Kd.int k) (fun n => (Lit.int k n).wf = true) := by
 intro H enc base spare held n cs x h
 obtain ⟨m, rfl, _, hs⟩ := DataW.trod_int he h
 exact ⟨m, rfl, hs⟩
theorem pick {α : Type} {p : Nat → α → Prop} : ∀ (n : Nat), (∀ i, i < n → ∃ y, p i y) → ∃ ys : List α, ys.length = n ∧ ∀ i y, ys[i]? = some y → p i y := by
 intro n
 induction n with
 | zero => intro _; exact ⟨[], rfl, fun i y h => by simp at h⟩
 | succ n ih =>
  intro h
  obtain ⟨ys, hl, hp⟩ := ih (fun i hi => h i (by omega))
  obtain ⟨y, hy⟩ := h n (by omega)
  refine ⟨ys ++ [y], by simp [hl], fun i z hz => ?_⟩
  by_cases hi : i < n
  ·rw [List.getElem?_append_left (by omega)] at hz
   exact hp i z hz
  ·rw [List.getElem?_append_right (by omega)] at hz
   have : i = n := by
    rcases Nat.lt_or_ge (i - ys.length) 1 with h1 | h1
    ·omega
    ·rw [List.getElem?_eq_none (by simpa using h1)] at hz; cases hz
   subst this
   rw [hl, Nat.sub_self] at hz
   simp at hz
   subst hz
   exact hy
theorem op_slice {α : Type} {d : Kd α} {G : α → Prop} (ht : P.underlying t = some (.slice e)) (hc : P.cellsOf e = d.sz) (ho : Opn P W e d G) : Opn P W t (Kd.slice e d) (fun l => l.length ≤ maxLen ∧ ∀ x ∈ l, G x) := by
 intro H enc base spare held n cs x h
 rcases Deep.open_slice ht h with ⟨rfl, _⟩ | ⟨a, len, cap, m, n', D, Pl, rfl, _, hl, hm, hmm, _, hx⟩
 ·exact ⟨[], ⟨none, 0, rfl, Nat.le_refl _, Kd.C_nil _ _⟩, by simp [maxLen], fun x hx => by cases hx⟩
 ·obtain ⟨ys, hyl, hy⟩ := pick (p := fun i y => ∃ c, c.length = d.sz ∧ d.K W y c ∧ G y ∧ ∀ j u, c[j]? = some u → W.cell? (a.add (i * d.sz + j)) = some u) len (fun i hi => by
   have him : i < m := by rw [hmm]; split <;> omega
   obtain ⟨c, h1, h2⟩ := hx i him
   obtain ⟨y, hk, hg⟩ := ho h2
   obtain ⟨_, hcl, hcell⟩ := World.cells?_some h1
   rw [hc] at hcl hcell
   refine ⟨y, c, hcl, hk, hg, fun j u hj => ?_⟩
   have hj' : j < d.sz := by rw [← hcl]; exact (List.getElem?_eq_some_iff.1 hj).1
   have := hcell j hj'
   rw [hj] at this
   rw [← this]
   congr 1
   have e0 : ∀ p q : Nat, (a.add p).add q = a.add (p + q) := by
    intro p q
    obtain ⟨b, o, s⟩ := a
    unfold Addr.add
    by_cases hp : p = 0
    ·subst hp; simp
    ·by_cases hq : q = 0
     ·subst hq; simp [hp]
     ·simp [hp, hq]; omega
   rw [e0])
  refine ⟨ys, ⟨some a, cap, by rw [hyl], by omega, rfl, by rw [hyl]; unfold maxLen at hm; omega, fun h0 => ⟨a, rfl, fun j p hj => ?_⟩⟩, by rw [hyl]; omega, fun x hx => ?_⟩
  ·obtain ⟨c, h1, h2, _, h3⟩ := hy j p hj
   exact ⟨c, h1, h2, h3⟩
  ·obtain ⟨i, hi⟩ := List.getElem?_of_mem hx
   obtain ⟨c, _, _, h, _⟩ := hy i x hi
   exact h
end
end Go.Proofs.YthhkkhnjkoacnaaDoor.RO
end
