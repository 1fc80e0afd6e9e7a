/- For the law FnExactTakeOut: what it needs of the words, of the printed functions and of the plain laws, in few texts (laid by merge.py of this workplace). -/
import Derived.Test.YtfajabboibcgpaaMFnExactTakeOutd
import Derived.Deep.Slices
import Derived.ChangeArms
import Derived.DataReads
section
namespace Go.Proofs.Ytfajabboibcgpaa.PVR
open Go.RowKit Go.Proofs.YtfajabboibcgpaaW.PrintWords Go.Proofs.YtfajabboibcgpaaW.PrintLast Go.Proofs.YtfajabboibcgpaaW.PrintMore Go.Proofs.Ytfajabboibcgpaa.PBR Go.Proofs.Ytfajabboibcgpaa.PDR Go.Proofs.Ytfajabboibcgpaa.PKR Go.Proofs.Ytfajabboibcgpaa.PLR Go.Proofs.Ytfajabboibcgpaa.PSR Go.Proofs.Ytfajabboibcgpaa.PTR Go.Proofs.Ytfajabboibcgpaa.PUR Go.Proofs.Ytfajabboibcgpaa.PGR Go.Proofs.Ytfajabboibcgpaa.PQR Go.Proofs.Ytfajabboibcgpaa.PR
set_option linter.unusedVariables false
theorem rdI_at (l : List S72) (i : Nat) (h : i < l.length) : rd_T72 l (i : Int) = l[i] := by
  simp [rd_T72, List.getD_eq_getElem?_getD, List.getElem?_eq_getElem h]
theorem rdL_at (l : List S113) (i : Nat) (h : i < l.length) : rd_T113 l (i : Int) = l[i] := by
  simp [rd_T113, List.getD_eq_getElem?_getD, List.getElem?_eq_getElem h]
def slotB (x : S72) : Bool := slotOk x.f0 x.f1 x.f2 x.f3 x.f4
def shelfOk (l : List S72) : Bool := decide ((l.length : Int) ≤ 20) && l.all slotB
theorem goodShelfS (l : List S72) (hl : l.length ≤ 2000000) : Ev (fun k => spec_GoodShelf.f k l) (shelfOk l) := by
  have key : ∀ (d i : Nat), i + d = l.length → Ev (fun k => spec_GoodShelf.l0 k l l (l.length : Int) (i : Int)) (decide ((l.length : Int) ≤ 20) && (l.drop i).all slotB) := by
    intro d
    induction d with
    | zero =>
      intro i hi
      rw [List.drop_eq_nil_of_le (by omega), List.all_nil, Bool.and_true]
      refine Ev.step (f := fun _ => some (decide ((l.length : Int) ≤ 20))) (fun k => ?_) (Ev.now _)
      simp only [spec_GoodShelf.l0]; rw [if_neg (by omega)]
    | succ d ih =>
      intro i hi
      have hlt : i < l.length := by omega
      rw [List.drop_eq_getElem_cons hlt, List.all_cons]
      refine Ev.step (f := fun k => (spec_l15Slot.f k l[i].f0 l[i].f1 l[i].f2 l[i].f3 l[i].f4).bind fun t => if t = true then spec_GoodShelf.l0 k l l (l.length : Int) ((i + 1 : Nat) : Int) else some false) (fun k => ?_) ?_
      · simp only [spec_GoodShelf.l0]
        rw [if_pos (by omega), if_pos (by omega), if_pos (by omega), rdI_at l i hlt, w64 (x := (i : Int) + 1) (by omega) (by omega)]
        rfl
      · refine ev_bind (slotS _ _ _ _ _) ?_
        show Ev _ (decide ((l.length : Int) ≤ 20) && (slotB l[i] && _))
        unfold slotB
        cases hb : slotOk l[i].f0 l[i].f1 l[i].f2 l[i].f3 l[i].f4 with
        | true => rw [Bool.true_and]; exact ev_pos rfl (ih (i + 1) (by omega))
        | false => rw [Bool.false_and, Bool.and_false]; exact ev_neg (by simp) (Ev.now _)
  exact key l.length 0 (by omega)
theorem goodShelfI (l : List S72) (hl : l.length ≤ 2000000) : Ev (fun k => impl_GoodShelf.f k l) (shelfOk l) := by
  unfold shelfOk impl_GoodShelf.f
  by_cases h : (l.length : Int) ≤ 20
  · refine ev_pos h ?_
    rw [decide_eq_true h, Bool.true_and]
    obtain ⟨r, hr, e⟩ := idx_any l rd_T72 (fun i h => rdI_at l i h) slices_IndexFunc_impl_GoodShelf_1.l0 (fun k x => impl_GoodShelf_1.f k x.f0 x.f1 x.f2 x.f3 x.f4) (fun x => !slotB x) (fun k n i => rfl) (fun x _ => ev_bind (f := fun _ t => some (!t)) (slotI _ _ _ _ _) (Ev.now _)) (by omega)
    have hc : Ev (fun k => slices_ContainsFunc_impl_GoodShelf_1.f k l) (l.any fun x => !slotB x) := by
      rw [← e]
      exact ev_bind (f := fun _ t => some (decide (t ≥ 0))) hr (Ev.now _)
    refine ev_eq (ev_bind (f := fun _ t => some (!t)) hc (Ev.now _)) ?_
    have : ∀ l : List S72, (!(l.any fun x => !slotB x)) = l.all slotB := by
      intro l
      induction l with
      | nil => rfl
      | cons a l ih => simp only [List.any_cons, List.all_cons, Bool.not_or, Bool.not_not, ih]
    exact this l
  · refine ev_neg h ?_
    rw [decide_eq_false h]
    exact Ev.now _
def wtL (x : S113) : Nat := x.f0.size + x.f1.size + x.f2.size + x.f3.size
def FitS (x : S113) : Prop := x.f0.size ≤ 9223372036854775807 ∧ x.f1.size ≤ 9223372036854775807 ∧ x.f2.size ≤ 9223372036854775807 ∧ x.f3.size ≤ 9223372036854775807
theorem szSlot (a b c d : ByteArray) (o : Bool) (h : a.size ≤ 9223372036854775807 ∧ b.size ≤ 9223372036854775807 ∧ c.size ≤ 9223372036854775807 ∧ d.size ≤ 9223372036854775807) (R : Int) (h0 : 0 ≤ R) (h1 : R ≤ 1000000000000) :
    laws_szSlot.f a b c d o R = some (left R (a.size + b.size + c.size + d.size)) := by
  obtain ⟨ha, hb, hc, hd⟩ := h
  unfold laws_szSlot.f left
  rw [w64 (x := R - (a.size : Int)) (by omega) (by omega)]
  by_cases c1 : R - (a.size : Int) < 0
  · rw [if_pos c1, if_neg (by omega)]
  rw [if_neg c1, w64 (x := R - (a.size : Int) - (b.size : Int)) (by omega) (by omega)]
  by_cases c2 : R - (a.size : Int) - (b.size : Int) < 0
  · rw [if_pos c2, if_neg (by omega)]
  rw [if_neg c2, w64 (x := R - (a.size : Int) - (b.size : Int) - (c.size : Int)) (by omega) (by omega)]
  by_cases c3 : R - (a.size : Int) - (b.size : Int) - (c.size : Int) < 0
  · rw [if_pos c3, if_neg (by omega)]
  rw [if_neg c3, w64 (x := R - (a.size : Int) - (b.size : Int) - (c.size : Int) - (d.size : Int)) (by omega) (by omega)]
  by_cases c4 : R - (a.size : Int) - (b.size : Int) - (c.size : Int) - (d.size : Int) < 0
  · rw [if_pos c4, if_neg (by omega)]
  rw [if_neg c4, if_pos (by omega)]
  refine congrArg some ?_
  omega
theorem szSlots (l : List S113) (hf : l.length ≤ 9223372036854775807 ∧ ∀ x ∈ l, FitS x) (R : Int) (h0 : 0 ≤ R) (h1 : R ≤ 1000000000) : Ev (fun k => laws_szSlotS.f k l R) (left R (l.length + wsum wtL l)) :=
  sz_list wtL l rd_T113 (fun i h => rdL_at l i h) laws_szSlotS.l0 laws_szSlotS.f (fun _ x R => laws_szSlot.f x.f0 x.f1 x.f2 x.f3 x.f4 R) (fun k R i => rfl) (fun k R => rfl)
    (fun x hx R h0 h1 => ev_of_eq (szSlot _ _ _ _ _ (hf.2 x hx) R h0 h1)) hf.1 R h0 h1
def conv (x : S113) : S72 := ⟨x.f0, x.f1, x.f2, x.f3, x.f4⟩
theorem toSlots (l : List S113) (hl : l.length ≤ 2000000) : Ev (fun k => laws_toSlotS.f k l) (l.map conv) := by
  refine Ev.congr (f := fun k => laws_toSlotS.l0 k l (List.replicate l.length z72) 0) (fun k => ?_) (to_list conv z72 l laws_toSlotS.l0 hl (fun k out => ?_) (fun i h out ho r hr => ?_))
  · simp only [laws_toSlotS.f]
    rw [if_pos (by omega), if_pos (by omega)]
    rfl
  · simp only [laws_toSlotS.l0]; rw [if_neg (by omega)]
  · refine Ev.step (f := fun k => laws_toSlotS.l0 k l (out.set i (conv l[i])) ((i + 1 : Nat) : Int)) (fun k => ?_) hr
    simp only [laws_toSlotS.l0, laws_toSlot.f, Option.bind_some]
    rw [if_pos (by omega), if_pos (by omega), if_pos (by omega), rdL_at l i h, w64 (x := (i : Int) + 1) (by omega) (by omega)]
    rfl
theorem eqSlots (l : List S72) (hl : l.length ≤ 2000000) : Ev (fun k => laws_eqSlotS.f k l l) true := by
  refine eq_list l laws_eqSlotS.l0 laws_eqSlotS.f (fun k => ?_) (fun k => ?_) (fun i h hr => ?_)
  · simp only [laws_eqSlotS.l0]; rw [if_neg (by omega)]
  · simp only [laws_eqSlotS.f]; rw [if_pos trivial]
  · refine Ev.step (f := fun k => laws_eqSlotS.l0 k l l ((i + 1 : Nat) : Int)) (fun k => ?_) hr
    simp only [laws_eqSlotS.l0, laws_eqSlot.f]
    rw [if_pos (by omega), if_pos (by omega), if_pos (by omega), if_pos trivial, if_pos trivial, if_pos trivial, if_pos trivial, if_neg (by simp), w64 (x := (i : Int) + 1) (by omega) (by omega)]
    rfl
end Go.Proofs.Ytfajabboibcgpaa.PVR
end
section
namespace Go.Proofs.Ytfajabboibcgpaa.PWR
open Go.RowKit Go.Proofs.YtfajabboibcgpaaW.PrintWords Go.Proofs.YtfajabboibcgpaaW.PrintLast Go.Proofs.YtfajabboibcgpaaW.PrintMore Go.Proofs.Ytfajabboibcgpaa.PBR Go.Proofs.Ytfajabboibcgpaa.PDR Go.Proofs.Ytfajabboibcgpaa.PKR Go.Proofs.Ytfajabboibcgpaa.PLR Go.Proofs.Ytfajabboibcgpaa.PSR Go.Proofs.Ytfajabboibcgpaa.PTR Go.Proofs.Ytfajabboibcgpaa.PUR Go.Proofs.Ytfajabboibcgpaa.PGR Go.Proofs.Ytfajabboibcgpaa.PQR Go.Proofs.Ytfajabboibcgpaa.PVR Go.Proofs.Ytfajabboibcgpaa.PR
set_option linter.unusedVariables false
end Go.Proofs.Ytfajabboibcgpaa.PWR
end
section
namespace Go.Proofs.Ytfajabboibcgpaa.PXR
open Go.RowKit Go.Proofs.YtfajabboibcgpaaW.PrintWords Go.Proofs.YtfajabboibcgpaaW.PrintLast Go.Proofs.YtfajabboibcgpaaW.PrintMore Go.Proofs.Ytfajabboibcgpaa.PBR Go.Proofs.Ytfajabboibcgpaa.PDR Go.Proofs.Ytfajabboibcgpaa.PKR Go.Proofs.Ytfajabboibcgpaa.PLR Go.Proofs.Ytfajabboibcgpaa.PSR Go.Proofs.Ytfajabboibcgpaa.PTR Go.Proofs.Ytfajabboibcgpaa.PUR Go.Proofs.Ytfajabboibcgpaa.PGR Go.Proofs.Ytfajabboibcgpaa.PQR Go.Proofs.Ytfajabboibcgpaa.PWR Go.Proofs.Ytfajabboibcgpaa.PR
set_option linter.unusedVariables false
end Go.Proofs.Ytfajabboibcgpaa.PXR
end
section
namespace Go.Proofs.Ytfajabboibcgpaa.PYR
open Go.RowKit Go.Proofs.YtfajabboibcgpaaW.PrintWords Go.Proofs.YtfajabboibcgpaaW.PrintLast Go.Proofs.YtfajabboibcgpaaW.PrintMore Go.Proofs.Ytfajabboibcgpaa.PBR Go.Proofs.Ytfajabboibcgpaa.PDR Go.Proofs.Ytfajabboibcgpaa.PKR Go.Proofs.Ytfajabboibcgpaa.PLR Go.Proofs.Ytfajabboibcgpaa.PSR Go.Proofs.Ytfajabboibcgpaa.PTR Go.Proofs.Ytfajabboibcgpaa.PUR Go.Proofs.Ytfajabboibcgpaa.PGR Go.Proofs.Ytfajabboibcgpaa.PQR Go.Proofs.Ytfajabboibcgpaa.PWR Go.Proofs.Ytfajabboibcgpaa.PXR Go.Proofs.Ytfajabboibcgpaa.PR
set_option linter.unusedVariables false
end Go.Proofs.Ytfajabboibcgpaa.PYR
end
section
namespace Go.Proofs.Ytfajabboibcgpaa.PZR
open Go.RowKit Go.Proofs.YtfajabboibcgpaaW.PrintWords Go.Proofs.YtfajabboibcgpaaW.PrintLast Go.Proofs.YtfajabboibcgpaaW.PrintMore Go.Proofs.Ytfajabboibcgpaa.PBR Go.Proofs.Ytfajabboibcgpaa.PDR Go.Proofs.Ytfajabboibcgpaa.PKR Go.Proofs.Ytfajabboibcgpaa.PLR Go.Proofs.Ytfajabboibcgpaa.PSR Go.Proofs.Ytfajabboibcgpaa.PTR Go.Proofs.Ytfajabboibcgpaa.PUR Go.Proofs.Ytfajabboibcgpaa.PGR Go.Proofs.Ytfajabboibcgpaa.PQR Go.Proofs.Ytfajabboibcgpaa.PVR Go.Proofs.Ytfajabboibcgpaa.PWR Go.Proofs.Ytfajabboibcgpaa.PXR Go.Proofs.Ytfajabboibcgpaa.PYR Go.Proofs.Ytfajabboibcgpaa.PR
set_option linter.unusedVariables false
end Go.Proofs.Ytfajabboibcgpaa.PZR
end
section
namespace Go.Proofs.Ytfajabboibcgpaa.PMR
open Go.RowKit Go.Proofs.YtfajabboibcgpaaW.PrintWords Go.Proofs.YtfajabboibcgpaaW.PrintLast Go.Proofs.YtfajabboibcgpaaW.PrintMore Go.Proofs.Ytfajabboibcgpaa.PBR Go.Proofs.Ytfajabboibcgpaa.PLR Go.Proofs.Ytfajabboibcgpaa.PGR Go.Proofs.Ytfajabboibcgpaa.PVR Go.Proofs.Ytfajabboibcgpaa.PR
set_option linter.unusedVariables false
noncomputable def mkS (a : Nat) : S72 := ⟨mk_ a, mk_ (a + 1), mk_ (a + 2), mk_ (a + 3), Int.tmod ((a + 4 : Nat) : Int) 3 == 0⟩
noncomputable def marksS (a n : Nat) : List S72 := (List.range n).map fun i => mkS (a + 5 * i)
theorem marksS_length (a n : Nat) : (marksS a n).length = n := by simp [marksS]
theorem marksS_at (a n i : Nat) (h : i < n) : (marksS a n)[i]'(by rw [marksS_length]; exact h) = mkS (a + 5 * i) := by simp [marksS]
theorem rd_set (x : List S72) (i : Nat) (v : S72) (h : i < x.length) : rd_T72 (x.set i v) (i : Int) = v := by
  rw [rdI_at _ i (by rw [List.length_set]; exact h), List.getElem_set_self]
theorem add1 (a : Nat) (h : a ≤ 1000000000000) : wrap64 ((a : Int) + 1) = ((a + 1 : Nat) : Int) := by rw [w64 (by omega) (by omega)]; rfl
theorem markSlots_loop (l : List S72) (a : Nat) (hl : l.length ≤ 1000000000) (ha : a ≤ 1000000000) : ∀ (d i : Nat), i + d = l.length → Ev (fun k => laws_markSlotS.l0 k (marksS a i ++ l.drop i) ((a + 5 * i : Nat) : Int) (i : Int)) (((a + 5 * l.length : Nat) : Int), marksS a l.length) := by
  intro d
  induction d with
  | zero =>
    intro i hi
    have hi' : i = l.length := by omega
    subst hi'
    refine Ev.step (f := fun _ => some (((a + 5 * l.length : Nat) : Int), marksS a l.length)) (fun k => ?_) (Ev.now _)
    simp only [laws_markSlotS.l0]
    rw [if_neg (by simp [marksS_length]), List.drop_length, List.append_nil]
  | succ d ih =>
    intro i hi
    have hlt : i < l.length := by omega
    have hxl : i < (marksS a i ++ l.drop i).length := by simp only [List.length_append, marksS_length, List.length_drop]; omega
    have i1 : (i : Int) < ((marksS a i ++ l.drop i).length : Int) := by omega
    have i0 : 0 ≤ (i : Int) := by omega
    have bi : i ≤ 1000000000000 := by omega
    have b0 : a + 5 * i ≤ 1000000000000 := by omega
    have b1 : a + 5 * i + 1 ≤ 1000000000000 := by omega
    have b2 : a + 5 * i + 2 ≤ 1000000000000 := by omega
    have b3 : a + 5 * i + 3 ≤ 1000000000000 := by omega
    have b4 : a + 5 * i + 4 ≤ 1000000000000 := by omega
    have c3 : a + 5 * i + 3 ≤ 1000000000000000000 := by omega
    have e5 : a + 5 * i + 5 = a + 5 * (i + 1) := by omega
    have hx := ih (i + 1) (by omega)
    have hfin : (marksS a i ++ l.drop i).set i (mkS (a + 5 * i)) = marksS a (i + 1) ++ l.drop (i + 1) := by
      rw [List.set_append_right _ _ (by rw [marksS_length]; omega), marksS_length, Nat.sub_self, List.drop_eq_getElem_cons hlt, List.set_cons_zero]
      simp [marksS, List.range_succ]
    rw [← hfin, ← e5] at hx
    generalize marksS a i ++ l.drop i = x at hx hxl i1 ⊢
    generalize a + 5 * i = b at hx b0 b1 b2 b3 b4 c3 ⊢
    refine Ev.step (f := fun k => (laws_markText.f k (b : Int)).bind fun t => (laws_markText.f k ((b + 1 : Nat) : Int)).bind fun t1 => (laws_markText.f k ((b + 2 : Nat) : Int)).bind fun t2 => (laws_markText.f k ((b + 3 : Nat) : Int)).bind fun t3 => laws_markSlotS.l0 k (x.set i ⟨t, t1, t2, t3, Int.tmod ((b + 4 : Nat) : Int) 3 == 0⟩) ((b + 5 : Nat) : Int) ((i + 1 : Nat) : Int)) (fun k => ?_) ?_
    · simp only [laws_markSlotS.l0]
      rw [if_pos i1, add1 b b0, add1 (b + 1) b1, add1 (b + 2) b2, add1 (b + 3) b3, add1 (b + 4) b4, add1 i bi]
      congr 1
      funext t
      rw [if_pos i0]
      simp only [Option.bind_some, Int.toNat_natCast, rd_set x i _ hxl, List.set_set]
    · exact ev_bind (markT b (Nat.le_trans b0 (by decide))) (ev_bind (markT (b + 1) (Nat.le_trans b1 (by decide))) (ev_bind (markT (b + 2) (Nat.le_trans b2 (by decide))) (ev_bind (markT (b + 3) c3) hx)))
theorem markSlotsV (l : List S72) (hl : l.length ≤ 1000000000) : Ev (fun k => laws_markSlotS.f k l 1) (((1 + 5 * l.length : Nat) : Int), marksS 1 l.length) := by
  have := markSlots_loop l 1 hl (by omega) l.length 0 (by omega)
  simp only [List.drop_zero, marksS, List.range_zero, List.map_nil, List.nil_append, Nat.mul_zero, Nat.add_zero] at this
  exact this
theorem heldSlotsV (n : Nat) (hl : n ≤ 1000000000) : Ev (fun k => laws_heldSlotS.f k (marksS 1 n) 1) ((1 + 5 * n : Nat) : Int) := by
  have key : ∀ (d i : Nat), i + d = n → Ev (fun k => laws_heldSlotS.l0 k (marksS 1 n) ((1 + 5 * i : Nat) : Int) (i : Int)) ((1 + 5 * n : Nat) : Int) := by
    intro d
    induction d with
    | zero =>
      intro i hi
      refine Ev.step (f := fun _ => some ((1 + 5 * n : Nat) : Int)) (fun k => ?_) (Ev.now _)
      simp only [laws_heldSlotS.l0]
      rw [if_neg (by rw [marksS_length]; omega), show i = n by omega]
    | succ d ih =>
      intro i hi
      have hlt : i < (marksS 1 n).length := by rw [marksS_length]; omega
      have i1 : (i : Int) < ((marksS 1 n).length : Int) := by omega
      have i0 : 0 ≤ (i : Int) := by omega
      have bi : i ≤ 1000000000000 := by omega
      have e5 : 1 + 5 * i + 5 = 1 + 5 * (i + 1) := by omega
      have b4 : 1 + 5 * i + 4 ≤ 1000000000000 := by omega
      have hx := ih (i + 1) (by omega)
      rw [← e5] at hx
      have hv : rd_T72 (marksS 1 n) (i : Int) = mkS (1 + 5 * i) := by rw [rdI_at _ i hlt, marksS_at 1 n i (by omega)]
      generalize 1 + 5 * i = b at hx hv b4 ⊢
      have b0 : b ≤ 1000000000000 := by omega
      have b1 : b + 1 ≤ 1000000000000 := by omega
      have b2 : b + 2 ≤ 1000000000000 := by omega
      have b3 : b + 3 ≤ 1000000000000 := by omega
      refine Ev.step (f := fun k => (laws_markText.f k (b : Int)).bind fun t => if (mk_ b).toList = t.toList then ((laws_markText.f k ((b + 1 : Nat) : Int)).bind fun t => if (mk_ (b + 1)).toList = t.toList then ((laws_markText.f k ((b + 2 : Nat) : Int)).bind fun t => if (mk_ (b + 2)).toList = t.toList then ((laws_markText.f k ((b + 3 : Nat) : Int)).bind fun t => if (mk_ (b + 3)).toList = t.toList then laws_heldSlotS.l0 k (marksS 1 n) ((b + 5 : Nat) : Int) ((i + 1 : Nat) : Int) else some (-1)) else some (-1)) else some (-1)) else some (-1)) (fun k => ?_) ?_
      · simp only [laws_heldSlotS.l0]
        rw [if_pos i1, if_pos i0, add1 b b0, add1 (b + 1) b1, add1 (b + 2) b2, add1 (b + 3) b3, add1 (b + 4) b4, add1 i bi, hv]
        simp only [mkS, bne_self_eq_false, Bool.false_eq_true, if_false]
      · exact ev_bind (markT b (Nat.le_trans b0 (by decide))) (ev_pos rfl (ev_bind (markT (b + 1) (Nat.le_trans b1 (by decide))) (ev_pos rfl (ev_bind (markT (b + 2) (Nat.le_trans b2 (by decide))) (ev_pos rfl (ev_bind (markT (b + 3) (Nat.le_trans b3 (by decide))) (ev_pos rfl hx)))))))
  exact key n 0 (by omega)
theorem there_two (l : List S72) (k0 : Int) (hl : l.length ≤ 2000000) : Ev (fun k => spec_l15There.f k l k0) (shelfOk l && decide (0 ≤ k0 ∧ k0 < (l.length : Int))) ∧ Ev (fun k => impl_isOn.f k l k0) (shelfOk l && decide (0 ≤ k0 ∧ k0 < (l.length : Int))) := by
  constructor
  · refine ev_bind (goodShelfS l hl) ?_
    cases hs : shelfOk l with
    | false => exact ev_neg (by simp) (Ev.now _)
    | true =>
      refine ev_pos rfl ?_
      rw [Bool.true_and]
      by_cases h : k0 ≥ 0
      · refine ev_pos h (ev_eq (Ev.now _) ?_)
        simp [show 0 ≤ k0 from h]
      · refine ev_neg h (ev_eq (Ev.now _) ?_)
        simp [show ¬ 0 ≤ k0 from h]
  · refine ev_bind (goodShelfI l hl) ?_
    cases hs : shelfOk l with
    | false => exact ev_neg (by simp) (Ev.now _)
    | true =>
      refine ev_pos rfl ?_
      rw [Bool.true_and, w64 (x := (l.length : Int) - 1) (by omega) (by omega)]
      refine ev_const (PTR.inI _ _ _) (ev_eq (Ev.now _) ?_)
      by_cases h : 0 ≤ k0 ∧ k0 < (l.length : Int)
      · rw [decide_eq_true h, decide_eq_true ⟨h.1, by omega⟩]
      · rw [decide_eq_false h, decide_eq_false (fun h2 => h ⟨h2.1, by omega⟩)]
end Go.Proofs.Ytfajabboibcgpaa.PMR
end
section
namespace Go.Proofs.Ytfajabboibcgpaa.Pure
open Go.RowKit Go.Proofs.YtfajabboibcgpaaW.PrintWords Go.Proofs.YtfajabboibcgpaaW.PrintLast Go.Proofs.YtfajabboibcgpaaW.PrintMore Go.Proofs.Ytfajabboibcgpaa.PBR Go.Proofs.Ytfajabboibcgpaa.PLR Go.Proofs.Ytfajabboibcgpaa.PGR Go.Proofs.Ytfajabboibcgpaa.PVR Go.Proofs.Ytfajabboibcgpaa.PZR Go.Proofs.Ytfajabboibcgpaa.PMR Go.Proofs.Ytfajabboibcgpaa.PR
set_option linter.unusedVariables false
def outX (x : S72) : S72 := ⟨x.f0, ⟨#[]⟩, x.f2, ⟨#[]⟩, true⟩
def takeOutM (l : List S72) (k0 : Int) : List S72 × Bool :=
  if (shelfOk l && decide (0 ≤ k0 ∧ k0 < (l.length : Int))) = true then (if (rd_T72 l k0).f4 = true then ([], false) else (l.set k0.toNat (outX (rd_T72 l k0)), true)) else ([], false)
theorem takeOut_two (l : List S72) (k0 : Int) (hl : l.length ≤ 2000000) : Ev (fun k => spec_TakeOut.f k l k0) (takeOutM l k0) ∧ Ev (fun k => impl_TakeOut.f k l k0) (takeOutM l k0) := by
  obtain ⟨hS, hI⟩ := there_two l k0 hl
  unfold takeOutM
  cases hb : shelfOk l && decide (0 ≤ k0 ∧ k0 < (l.length : Int)) with
  | true =>
    rw [hb] at hS hI
    simp only [Bool.and_eq_true, decide_eq_true_eq] at hb
    cases ho : (rd_T72 l k0).f4 with
    | true => exact ⟨ev_bind hS (ev_pos rfl (ev_pos hb.2.1 (ev_pos hb.2.2 (ev_pos ho (Ev.now _))))), ev_bind hI (ev_pos rfl (ev_pos hb.2.1 (ev_pos hb.2.2 (ev_pos ho (Ev.now _)))))⟩
    | false =>
      have hno : ¬ (rd_T72 l k0).f4 = true := by rw [ho]; simp
      refine ⟨ev_bind hS (ev_pos rfl (ev_pos hb.2.1 (ev_pos hb.2.2 (ev_neg hno (ev_const (a := []) rfl (ev_pos (by simp only [List.length_nil]; omega) (ev_const (a := l) rfl (ev_pos hb.2.2 (Ev.now _))))))))), ev_bind hI (ev_pos rfl (ev_pos hb.2.1 (ev_pos hb.2.2 (ev_neg hno (ev_const (a := l) ?_ (ev_pos hb.2.2 (Ev.now _)))))))⟩
      unfold impl_Slot_135.f
      simp only [Option.bind_some]
      rw [if_pos (by simp only [List.length_nil]; omega)]
      rfl
  | false =>
    rw [hb] at hS hI
    exact ⟨ev_bind hS (ev_neg (by simp) (Ev.now _)), ev_bind hI (ev_neg (by simp) (Ev.now _))⟩
theorem FnExactTakeOut (l : List S113) (k0 : Int) (hf : l.length ≤ maxLen ∧ ∀ x ∈ l, x.f0.size ≤ maxLen ∧ x.f1.size ≤ maxLen ∧ x.f2.size ≤ maxLen ∧ x.f3.size ≤ maxLen ∧ True) (hk : (Lit.int .i64 k0).wf = true) : ∃ k, laws_FnExactTakeOut.f k l k0 = some true := by
  refine Ev.rounds ?_
  unfold laws_FnExactTakeOut.f
  have hz := szSlots l ⟨hf.1, fun x hx => let h := hf.2 x hx; ⟨h.1, h.2.1, h.2.2.1, h.2.2.2.1⟩⟩ 1048576 (by omega) (by omega)
  by_cases ht : ((l.length + wsum wtL l : Nat) : Int) ≤ 1048576
  · rw [left_yes ht] at hz
    have hl : l.length ≤ 2000000 := by omega
    have hm : (l.map conv).length ≤ 2000000 := by rw [List.length_map]; exact hl
    obtain ⟨hS, hI⟩ := takeOut_two (l.map conv) k0 hm
    have hn : (takeOutM (l.map conv) k0).1.length ≤ 2000000 := by
      unfold takeOutM
      split
      · split
        · simp
        · show (List.set _ _ _).length ≤ _; rw [List.length_set]; exact hm
      · simp
    generalize takeOutM (l.map conv) k0 = r at hS hI hn
    obtain ⟨t, f⟩ := r
    have hn' : t.length ≤ 2000000 := hn
    refine ev_bind hz (ev_neg (by omega) (ev_bind (toSlots l hl) (ev_bind hS (ev_bind (toSlots l hl) (ev_bind hI (ev_bind (eqSlots t hn') (ev_pos rfl ?_)))))))
    simp only [bne_self_eq_false]
    have m0 := markSlotsV (l.map conv) (by omega)
    have mt := markSlotsV t (by omega)
    have ht := heldSlotsV t.length (by omega)
    refine Ev.step (f := fun k => _) (fun k => by simp only [laws_FnExactTakeOut.j0]; rfl) ?_
    refine ev_neg (by simp) (ev_bind (toSlots l hl) (ev_bind (eqSlots _ hm) (ev_pos rfl (ev_bind m0 (ev_neg (by omega) (ev_bind (eqSlots t hn') (ev_pos rfl ?_)))))))
    simp only [bne_self_eq_false]
    refine Ev.step (f := fun k => _) (fun k => by simp only [laws_FnExactTakeOut.j1]; rfl) ?_
    refine ev_neg (by simp) (ev_bind mt (ev_bind ht (ev_neg (by omega) (ev_pos rfl (ev_bind (toSlots l hl) (ev_bind hI (ev_bind (eqSlots t hn') (ev_pos rfl ?_))))))))
    simp only [bne_self_eq_false]
    refine Ev.step (f := fun k => _) (fun k => by simp only [laws_FnExactTakeOut.j2]; rfl) ?_
    exact ev_neg (by simp) (ev_bind ht (ev_neg (by omega) (ev_pos rfl (Ev.now _))))
  · rw [left_no ht] at hz
    exact ev_bind hz (ev_pos (by omega) (Ev.now _))
end Go.Proofs.Ytfajabboibcgpaa.Pure
end
section
namespace Go.Proofs.Ytfajabboibcgpaa.RO
open Go.RowKit Go.Proofs.YtfajabboibcgpaaW.PrintWords Go.ChangeShapes Go.WideShapes
set_option linter.unusedVariables false
def Opn (P : Program) (W : World) (e : TypeId) {α : Type} (d : Kd α) (G : α → Prop) : Prop :=
  ∀ {H : Type} {enc : TypeId × Value → H} {base : Nat} {spare : Nat → Bool} {held : Bool} {n : Nat} {cs : List Value} {x : DataW H × List MemPlace},
    DataW.trod enc P W base spare held n e cs = some x → ∃ y : α, d.K W y cs ∧ G y
section
variable {P : Program} {W : World} {e t : TypeId}
theorem op_string (he : P.underlying e = some .string) : Opn P W e Kd.string (fun s => s.size ≤ maxLen) := by
  intro H enc base spare held n cs x h
  obtain ⟨s, rfl, _, hs⟩ := DataW.trod_string he h
  exact ⟨s, rfl, hs⟩
theorem op_bool (he : P.underlying e = some .bool) : Opn P W e Kd.bool (fun _ => True) := by
  intro H enc base spare held n cs x h
  obtain ⟨b, rfl, _⟩ := DataW.trod_bool he h
  exact ⟨b, rfl, trivial⟩
theorem pick {α : Type} {p : Nat → α → Prop} : ∀ (n : Nat), (∀ i, i < n → ∃ y, p i y) → ∃ ys : List α, ys.length = n ∧ ∀ i y, ys[i]? = some y → p i y := by
  intro n
  induction n with
  | zero => intro _; exact ⟨[], rfl, fun i y h => by simp at h⟩
  | succ n ih =>
    intro h
    obtain ⟨ys, hl, hp⟩ := ih (fun i hi => h i (by omega))
    obtain ⟨y, hy⟩ := h n (by omega)
    refine ⟨ys ++ [y], by simp [hl], fun i z hz => ?_⟩
    by_cases hi : i < n
    · rw [List.getElem?_append_left (by omega)] at hz
      exact hp i z hz
    · rw [List.getElem?_append_right (by omega)] at hz
      have : i = n := by
        rcases Nat.lt_or_ge (i - ys.length) 1 with h1 | h1
        · omega
        · rw [List.getElem?_eq_none (by simpa using h1)] at hz; cases hz
      subst this
      rw [hl, Nat.sub_self] at hz
      simp at hz
      subst hz
      exact hy
theorem op_slice {α : Type} {d : Kd α} {G : α → Prop} (ht : P.underlying t = some (.slice e)) (hc : P.cellsOf e = d.sz) (ho : Opn P W e d G) : Opn P W t (Kd.slice e d) (fun l => l.length ≤ maxLen ∧ ∀ x ∈ l, G x) := by
  intro H enc base spare held n cs x h
  rcases Deep.open_slice ht h with ⟨rfl, _⟩ | ⟨a, len, cap, m, n', D, Pl, rfl, _, hl, hm, hmm, _, hx⟩
  · exact ⟨[], ⟨none, 0, rfl, Nat.le_refl _, Kd.C_nil _ _⟩, by simp [maxLen], fun x hx => by cases hx⟩
  · obtain ⟨ys, hyl, hy⟩ := pick (p := fun i y => ∃ c, c.length = d.sz ∧ d.K W y c ∧ G y ∧ ∀ j u, c[j]? = some u → W.cell? (a.add (i * d.sz + j)) = some u) len (fun i hi => by
      have him : i < m := by rw [hmm]; split <;> omega
      obtain ⟨c, h1, h2⟩ := hx i him
      obtain ⟨y, hk, hg⟩ := ho h2
      obtain ⟨_, hcl, hcell⟩ := World.cells?_some h1
      rw [hc] at hcl hcell
      refine ⟨y, c, hcl, hk, hg, fun j u hj => ?_⟩
      have hj' : j < d.sz := by rw [← hcl]; exact (List.getElem?_eq_some_iff.1 hj).1
      have := hcell j hj'
      rw [hj] at this
      rw [← this]
      congr 1
      have e0 : ∀ p q : Nat, (a.add p).add q = a.add (p + q) := by
        intro p q
        obtain ⟨b, o, s⟩ := a
        unfold Addr.add
        by_cases hp : p = 0
        · subst hp; simp
        · by_cases hq : q = 0
          · subst hq; simp [hp]
          · simp [hp, hq]; omega
      rw [e0])
    refine ⟨ys, ⟨some a, cap, by rw [hyl], by omega, rfl, by rw [hyl]; unfold maxLen at hm; omega, fun h0 => ⟨a, rfl, fun j p hj => ?_⟩⟩, by rw [hyl]; omega, fun x hx => ?_⟩
    · obtain ⟨c, h1, h2, _, h3⟩ := hy j p hj
      exact ⟨c, h1, h2, h3⟩
    · obtain ⟨i, hi⟩ := List.getElem?_of_mem hx
      obtain ⟨c, _, _, h, _⟩ := hy i x hi
      exact h
def OpAt (P : Program) (W : World) (fs : List (TypeId × Nat)) (off : Nat) {α : Type} (d : Kd α) (G : α → Prop) : Prop :=
  ∀ {H : Type} {enc : TypeId × Value → H} {base : Nat} {spare : Nat → Bool} {held : Bool} {n : Nat} {cs : List Value}, cs.length = off + d.sz →
    (∀ f ∈ fs, ∃ x, DataW.trod enc P W base spare held n f.1 ((cs.drop f.2).take (P.cellsOf f.1)) = some x) → ∃ y : α, d.K W y (cs.drop off) ∧ G y
theorem opAt_one {off : Nat} {α : Type} {d : Kd α} {G : α → Prop} (hc : P.cellsOf e = d.sz) (h : Opn P W e d G) : OpAt P W [(e, off)] off d G := by
  intro H enc base spare held n cs hl hf
  obtain ⟨x, hx⟩ := hf (e, off) (List.mem_singleton.2 rfl)
  dsimp only at hx
  rw [hc, List.take_of_length_le (by rw [List.length_drop]; omega)] at hx
  exact h hx
theorem opAt_cons {off : Nat} {fs : List (TypeId × Nat)} {α β : Type} {d1 : Kd α} {d2 : Kd β} {G1 : α → Prop} {G2 : β → Prop} (hc : P.cellsOf e = d1.sz) (h1 : Opn P W e d1 G1) (h2 : OpAt P W fs (off + d1.sz) d2 G2) :
    OpAt P W ((e, off) :: fs) off (Kd.pair d1 d2) (fun y => G1 y.1 ∧ G2 y.2) := by
  intro H enc base spare held n cs hl hf
  have hl' : cs.length = off + (d1.sz + d2.sz) := hl
  obtain ⟨x, hx⟩ := hf (e, off) List.mem_cons_self
  dsimp only at hx
  rw [hc] at hx
  obtain ⟨y1, hk1, hg1⟩ := h1 hx
  obtain ⟨y2, hk2, hg2⟩ := h2 (cs := cs) (by omega) (fun f hf' => hf f (List.mem_cons_of_mem _ hf'))
  refine ⟨(y1, y2), ⟨(cs.drop off).take d1.sz, cs.drop (off + d1.sz), ?_, hk1, hk2⟩, hg1, hg2⟩
  rw [← List.drop_drop, List.take_append_drop]
theorem op_struct {fs : Array Field} {L : List (TypeId × Nat)} {α β : Type} {d : Kd α} {f : β → α} {g : α → β} {G : α → Prop} (ht : P.underlying t = some (.struct fs)) (hL : fs.toList.map (fun f => (f.type, f.offset)) = L) (hc : P.cellsOf t = d.sz) (hfg : ∀ y, f (g y) = y)
    (h : OpAt P W L 0 d G) : Opn P W t (Kd.iso d f) (fun x => G (f x)) := by
  intro H enc base spare held n cs x hx
  obtain ⟨xs, m, _, _, hl, hxl, hf⟩ := DataW.trod_struct ht hx
  obtain ⟨y, hk, hg⟩ := h (cs := cs) (n := m) (enc := enc) (base := base) (spare := spare) (held := held) (by rw [hl, hc]; omega) (fun q hq => by
    rw [← hL] at hq
    obtain ⟨fd, hfd, rfl⟩ := List.mem_map.1 hq
    obtain ⟨i, hi⟩ := List.getElem?_of_mem hfd
    rw [Array.getElem?_toList] at hi
    have hlt : i < xs.length := by
      have := (Array.getElem?_eq_some_iff.1 hi).1
      omega
    exact ⟨xs[i], by rw [hf i fd hi]; exact List.getElem?_eq_getElem hlt⟩)
  rw [List.drop_zero] at hk
  refine ⟨g y, ?_, ?_⟩
  · show d.K W (f (g y)) cs
    rw [hfg]; exact hk
  · show G (f (g y))
    rw [hfg]; exact hg
end
end Go.Proofs.Ytfajabboibcgpaa.RO
end
