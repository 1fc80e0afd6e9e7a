/- For the law FnExactPiecesOf (laid by merge.py). -/
import Derived.Test.YtnplghcbdaiogaaMFnExactPiecesOff
import Derived.Deep.Slices
import Derived.ChangeArms
import Derived.DataReads
section
namespace Go.Proofs.Ytnplghcbdaiogaa.Pure
open Go.RowKit Go.Proofs.YtnplghcbdaiogaaW.PrintWords Go.Proofs.YtnplghcbdaiogaaW.PrintLast Go.Proofs.YtnplghcbdaiogaaW.PrintMore Go.Proofs.Ytnplghcbdaiogaa.PB Go.Proofs.Ytnplghcbdaiogaa.PD Go.Proofs.Ytnplghcbdaiogaa.PK Go.Proofs.Ytnplghcbdaiogaa.PL Go.Proofs.Ytnplghcbdaiogaa.PG Go.Proofs.Ytnplghcbdaiogaa.PW Go.Proofs.Ytnplghcbdaiogaa.PY Go.Proofs.Ytnplghcbdaiogaa.QW Go.Proofs.Ytnplghcbdaiogaa.PA
set_option linter.unusedVariables false
theorem add_one (a : Nat) (h : a ≤ 1000000000000) : wrap64 ((a : Int) + 1) = ((a + 1 : Nat) : Int) := by rw [w64 (by omega) (by omega)]; rfl
theorem set_mid {α : Type} (P l : List α) (x y : α) : (P ++ x :: l).set (P.length : Int).toNat y = (P ++ [y]) ++ l := by
 rw [Int.toNat_natCast, List.set_append_right _ _ (by omega), Nat.sub_self]
 simp
theorem markN_any (l : List Int) (a : Nat) (hl : l.length ≤ 1000000000) (ha : a ≤ 1000000000) : ∃ r, r.length = l.length ∧ Ev (fun k => laws_markIntS.f k l (a : Int)) (((a + l.length : Nat) : Int), r) := by
 have key : ∀ (d i : Nat) (x : List Int), i + d = l.length → x.length = l.length → ∃ r, r.length = l.length ∧ Ev (fun k => laws_markIntS.l0 k x ((a + i : Nat) : Int) (i : Int)) (((a + l.length : Nat) : Int), r) := by
  intro d
  induction d with
  | zero =>
   intro i x hi hx
   refine ⟨x, hx, Ev.step (f := fun _ => some (((a + l.length : Nat) : Int), x)) (fun k => ?_) (Ev.now _)⟩
   simp only [laws_markIntS.l0]
   rw [if_neg (by omega), show a + i = a + l.length by omega]
  | succ d ih =>
   intro i x hi hx
   obtain ⟨r, hr, he⟩ := ih (i + 1) (x.set i ((a + i : Nat) : Int)) (by omega) (by rw [List.length_set]; exact hx)
   refine ⟨r, hr, Ev.step (f := fun k => laws_markIntS.l0 k (x.set i ((a + i : Nat) : Int)) ((a + (i + 1) : Nat) : Int) ((i + 1 : Nat) : Int)) (fun k => ?_) he⟩
   simp only [laws_markIntS.l0]
   rw [if_pos (by omega), if_pos (by omega), Int.toNat_natCast, add_one _ (by omega), add_one _ (by omega)]
   rfl
 exact key l.length 0 l (by omega) rfl
def sumG : List S97 → Nat
 | [] => 0
 | x :: l => x.f0.length + x.f1.length + x.f2.length + sumG l
theorem rd_midG (P l : List S97) (x : S97) : rd_T97 (P ++ x :: l) (P.length : Int) = x := by
 rw [rdPI_at _ _ (by simp)]
 simp
theorem markG_loop : ∀ (l P : List S97) (a : Nat), P.length + l.length ≤ 100000000 → a + sumG l ≤ 100000000 → ∃ r, Ev (fun k => RG.markPL k (P ++ l) (a : Int) (P.length : Int)) (((a + sumG l : Nat) : Int), r) := by
 intro l
 induction l with
 | nil =>
  intro P a _ _
  refine ⟨P ++ [], Ev.step (f := fun _ => some (((a + 0 : Nat) : Int), P ++ [])) (fun k => ?_) (Ev.now _)⟩
  simp only [RG.markPL]
  rw [if_neg (by simp)]
  rfl
 | cons x l ih =>
  intro P a hl ha
  simp only [sumG, List.length_cons] at ha hl
  obtain ⟨c, hc, hn⟩ := markN_any x.f2 (a + x.f0.length + x.f1.length) (by omega) (by omega)
  obtain ⟨r, hx⟩ := ih (P ++ [⟨marks a x.f0.length, marks (a + x.f0.length) x.f1.length, c⟩]) (a + x.f0.length + x.f1.length + x.f2.length) (by simp only [List.length_append, List.length_cons, List.length_nil]; omega) (by omega)
  have e1 : a + sumG (x :: l) = a + x.f0.length + x.f1.length + x.f2.length + sumG l := by simp only [sumG]; omega
  rw [e1]
  have eP : ((P ++ [(⟨marks a x.f0.length, marks (a + x.f0.length) x.f1.length, c⟩ : S97)]).length : Int) = ((P.length + 1 : Nat) : Int) := by simp
  rw [eP] at hx
  have i1 : (P.length : Int) < ((P ++ x :: l).length : Int) := by simp only [List.length_append, List.length_cons]; omega
  refine ⟨r, Ev.step (f := fun k => (laws_markStringS.f k x.f0 (a : Int)).bind fun b0 => (laws_markStringS.f k x.f1 b0.1).bind fun b1 => (laws_markIntS.f k x.f2 b1.1).bind fun b2 => RG.markPL k ((P ++ [⟨b0.2, b1.2, b2.2⟩]) ++ l) b2.1 ((P.length + 1 : Nat) : Int)) (fun k => ?_) ?_⟩
  ·simp only [RG.markPL]
   rw [if_pos i1, if_pos (by omega), add_one P.length (by omega), rd_midG]
   simp only [set_mid]
  ·exact ev_bind (markS x.f0 a (by omega) (by omega)) (ev_bind (markS x.f1 (a + x.f0.length) (by omega) (by omega)) (ev_bind hn hx))
theorem markTree (l : List S97) (hl : l.length ≤ 100000000) (ha : 1 + sumG l ≤ 100000000) : ∃ r, Ev (fun k => RG.markPF k l 1) (((1 + sumG l : Nat) : Int), r) := markG_loop l [] 1 (by simpa using hl) ha
theorem sumG_wt (l : List S87) : sumG (l.map convP) ≤ l.length + wsum wtP l := by
 induction l with
 | nil => simp [sumG]
 | cons x l ih =>
  simp only [List.map_cons, sumG, List.length_cons]
  have h1 : wsum wtP (x :: l) = wtP x + wsum wtP l := rfl
  have h2 : wtP x = (x.f0.length + szL x.f0) + ((x.f1.length + szL x.f1) + x.f2.length) := rfl
  have h3 : (convP x).f0.length = x.f0.length := rfl
  have h4 : (convP x).f1.length = x.f1.length := rfl
  have h5 : (convP x).f2.length = x.f2.length := rfl
  omega
theorem FnExactPiecesOf (l : List S87) (s e : ByteArray) (hf : l.length ≤ maxLen ∧ ∀ x ∈ l, (x.f0.length ≤ maxLen ∧ ∀ s ∈ x.f0, s.size ≤ maxLen) ∧ (x.f1.length ≤ maxLen ∧ ∀ s ∈ x.f1, s.size ≤ maxLen) ∧ (x.f2.length ≤ maxLen ∧ ∀ n ∈ x.f2, (Lit.int .i64 n).wf = true)) (h0 : s.size ≤ maxLen) (h1 : e.size ≤ maxLen) : ∃ k, laws_FnExactPiecesOf.f k l s e = some true := by
 refine Ev.rounds ?_
 refine Ev.congr (f := fun k => RV.lawF k l s e) (fun k => rfl) ?_
 unfold RV.lawF
 by_cases c0 : (1048576 : Int) < (s.size : Int)
 ·simp only [if_pos c0]; exact Ev.now _
 simp only [if_neg c0]
 by_cases c1 : (1048576 : Int) < (e.size : Int)
 ·simp only [if_pos c1]; exact Ev.now _
 simp only [if_neg c1]
 have hz0 := szPages l ⟨hf.1, fun x hx => ⟨(hf.2 x hx).1, (hf.2 x hx).2.1, (hf.2 x hx).2.2.1⟩⟩ 1048576 (by omega) (by omega)
 have hz : Ev (fun k => laws_szTree.f k l 1048576) (left 1048576 (l.length + wsum wtP l)) := by
  unfold laws_szTree.f
  refine ev_bind hz0 ?_
  by_cases c : ((l.length + wsum wtP l : Nat) : Int) ≤ 1048576
  ·rw [left_yes c]; exact ev_neg (by omega) (Ev.now _)
  ·rw [left_no c]; exact ev_pos (by omega) (Ev.now _)
 by_cases ht : ((l.length + wsum wtP l : Nat) : Int) ≤ 1048576
 ·rw [left_yes ht] at hz
  have hl : l.length ≤ 2000000 := by omega
  have hi := small_pages l (by omega)
  have hm : (l.map convP).length ≤ 2000000 := by rw [List.length_map]; exact hl
  have hsm : ∀ x ∈ l.map convP, SmP x.f0 x.f1 x.f2 := fun x hx => by
   obtain ⟨y, hy, rfl⟩ := List.mem_map.1 hx
   exact hi y hy
  have hto : Ev (fun k => laws_toTree.f k l) (l.map convP) := ev_bind (toPages l hl hi) (Ev.now _)
  have heq : Ev (fun k => laws_eqTree.f k (l.map convP) (l.map convP)) true := ev_bind (eqPages _ hm hsm) (ev_pos rfl (Ev.now _))
  have hb : Go.Proofs.Ytnplghcbdaiogaa.QZ.smlB (l.map convP) = true := (Go.Proofs.Ytnplghcbdaiogaa.QZ.smlB_iff _).2 ⟨by omega, fun x hx => by
   obtain ⟨a, b, c⟩ := hsm x hx
   exact ⟨by omega, by omega, by omega⟩⟩
  have hw := sumG_wt l
  obtain ⟨r, hmk⟩ := markTree (l.map convP) (by omega) (by omega)
  refine ev_bind hz (ev_neg (by omega) (ev_bind hto (ev_bind hmk ?_)))
  obtain ⟨K2, E2⟩ := heq
  exact ⟨K2, fun k hk => if_pos ⟨hb, E2 k (by omega), Int.natCast_nonneg _⟩⟩
 ·rw [left_no ht] at hz
  exact ev_bind hz (ev_pos (by omega) (Ev.now _))
end Go.Proofs.Ytnplghcbdaiogaa.Pure
end
section
namespace Go.Proofs.Ytnplghcbdaiogaa.RO
open Go.RowKit Go.Proofs.YtnplghcbdaiogaaW.PrintWords Go.ChangeShapes Go.WideShapes
set_option linter.unusedVariables false
def Opn (P : Program) (W : World) (e : TypeId) {α : Type} (d : Kd α) (G : α → Prop) : Prop :=
 ∀ {H : Type} {enc : TypeId × Value → H} {base : Nat} {spare : Nat → Bool} {held : Bool} {n : Nat} {cs : List Value} {x : DataW H × List MemPlace},
  DataW.trod enc P W base spare held n e cs = some x → ∃ y : α, d.K W y cs ∧ G y
section
variable {P : Program} {W : World} {e t : TypeId}
theorem op_string (he : P.underlying e = some .string) : Opn P W e Kd.string (fun s => s.size ≤ maxLen) := by
 intro H enc base spare held n cs x h
 obtain ⟨s, rfl, _, hs⟩ := DataW.trod_string he h
 exact ⟨s, rfl, hs⟩
theorem op_int {k : IntKind} (he : P.underlying e = some (.int k)) : Opn P W e (Kd.int k) (fun n => (Lit.int k n).wf = true) := by
 intro H enc base spare held n cs x h
 obtain ⟨m, rfl, _, hs⟩ := DataW.trod_int he h
 exact ⟨m, rfl, hs⟩
theorem pick {α : Type} {p : Nat → α → Prop} : ∀ (n : Nat), (∀ i, i < n → ∃ y, p i y) → ∃ ys : List α, ys.length = n ∧ ∀ i y, ys[i]? = some y → p i y := by
 intro n
 induction n with
 | zero => intro _; exact ⟨[], rfl, fun i y h => by simp at h⟩
 | succ n ih =>
  intro h
  obtain ⟨ys, hl, hp⟩ := ih (fun i hi => h i (by omega))
  obtain ⟨y, hy⟩ := h n (by omega)
  refine ⟨ys ++ [y], by simp [hl], fun i z hz => ?_⟩
  by_cases hi : i < n
  ·rw [List.getElem?_append_left (by omega)] at hz
   exact hp i z hz
  ·rw [List.getElem?_append_right (by omega)] at hz
   have : i = n := by
    rcases Nat.lt_or_ge (i - ys.length) 1 with h1 | h1
    ·omega
    ·rw [List.getElem?_eq_none (by simpa using h1)] at hz; cases hz
   subst this
   rw [hl, Nat.sub_self] at hz
   simp at hz
   subst hz
   exact hy
theorem op_slice {α : Type} {d : Kd α} {G : α → Prop} (ht : P.underlying t = some (.slice e)) (hc : P.cellsOf e = d.sz) (ho : Opn P W e d G) : Opn P W t (Kd.slice e d) (fun l => l.length ≤ maxLen ∧ ∀ x ∈ l, G x) := by
 intro H enc base spare held n cs x h
 rcases Deep.open_slice ht h with ⟨rfl, _⟩ | ⟨a, len, cap, m, n', D, Pl, rfl, _, hl, hm, hmm, _, hx⟩
 ·exact ⟨[], ⟨none, 0, rfl, Nat.le_refl _, Kd.C_nil _ _⟩, by simp [maxLen], fun x hx => by cases hx⟩
 ·obtain ⟨ys, hyl, hy⟩ := pick (p := fun i y => ∃ c, c.length = d.sz ∧ d.K W y c ∧ G y ∧ ∀ j u, c[j]? = some u → W.cell? (a.add (i * d.sz + j)) = some u) len (fun i hi => by
   have him : i < m := by rw [hmm]; split <;> omega
   obtain ⟨c, h1, h2⟩ := hx i him
   obtain ⟨y, hk, hg⟩ := ho h2
   obtain ⟨_, hcl, hcell⟩ := World.cells?_some h1
   rw [hc] at hcl hcell
   refine ⟨y, c, hcl, hk, hg, fun j u hj => ?_⟩
   have hj' : j < d.sz := by rw [← hcl]; exact (List.getElem?_eq_some_iff.1 hj).1
   have := hcell j hj'
   rw [hj] at this
   rw [← this]
   congr 1
   have e0 : ∀ p q : Nat, (a.add p).add q = a.add (p + q) := by
    intro p q
    obtain ⟨b, o, s⟩ := a
    unfold Addr.add
    by_cases hp : p = 0
    ·subst hp; simp
    ·by_cases hq : q = 0
     ·subst hq; simp [hp]
     ·simp [hp, hq]; omega
   rw [e0])
  refine ⟨ys, ⟨some a, cap, by rw [hyl], by omega, rfl, by rw [hyl]; unfold maxLen at hm; omega, fun h0 => ⟨a, rfl, fun j p hj => ?_⟩⟩, by rw [hyl]; omega, fun x hx => ?_⟩
  ·obtain ⟨c, h1, h2, _, h3⟩ := hy j p hj
   exact ⟨c, h1, h2, h3⟩
  ·obtain ⟨i, hi⟩ := List.getElem?_of_mem hx
   obtain ⟨c, _, _, h, _⟩ := hy i x hi
   exact h
def OpAt (P : Program) (W : World) (fs : List (TypeId × Nat)) (off : Nat) {α : Type} (d : Kd α) (G : α → Prop) : Prop :=
 ∀ {H : Type} {enc : TypeId × Value → H} {base : Nat} {spare : Nat → Bool} {held : Bool} {n : Nat} {cs : List Value}, cs.length = off + d.sz →
  (∀ f ∈ fs, ∃ x, DataW.trod enc P W base spare held n f.1 ((cs.drop f.2).take (P.cellsOf f.1)) = some x) → ∃ y : α, d.K W y (cs.drop off) ∧ G y
theorem opAt_one {off : Nat} {α : Type} {d : Kd α} {G : α → Prop} (hc : P.cellsOf e = d.sz) (h : Opn P W e d G) : OpAt P W [(e, off)] off d G := by
 intro H enc base spare held n cs hl hf
 obtain ⟨x, hx⟩ := hf (e, off) (List.mem_singleton.2 rfl)
 dsimp only at hx
 rw [hc, List.take_of_length_le (by rw [List.length_drop]; omega)] at hx
 exact h hx
theorem opAt_cons {off : Nat} {fs : List (TypeId × Nat)} {α β : Type} {d1 : Kd α} {d2 : Kd β} {G1 : α → Prop} {G2 : β → Prop} (hc : P.cellsOf e = d1.sz) (h1 : Opn P W e d1 G1) (h2 : OpAt P W fs (off + d1.sz) d2 G2) :
  OpAt P W ((e, off) :: fs) off (Kd.pair d1 d2) (fun y => G1 y.1 ∧ G2 y.2) := by
 intro H enc base spare held n cs hl hf
 have hl' : cs.length = off + (d1.sz + d2.sz) := hl
 obtain ⟨x, hx⟩ := hf (e, off) List.mem_cons_self
 dsimp only at hx
 rw [hc] at hx
 obtain ⟨y1, hk1, hg1⟩ := h1 hx
 obtain ⟨y2, hk2, hg2⟩ := h2 (cs := cs) (by omega) (fun f hf' => hf f (List.mem_cons_of_mem _ hf'))
 refine ⟨(y1, y2), ⟨(cs.drop off).take d1.sz, cs.drop (off + d1.sz), ?_, hk1, hk2⟩, hg1, hg2⟩
 rw [← List.drop_drop, List.take_append_drop]
theorem op_struct {fs : Array Field} {L : List (TypeId × Nat)} {α β : Type} {d : Kd α} {f : β → α} {g : α → β} {G : α → Prop} (ht : P.underlying t = some (.struct fs)) (hL : fs.toList.map (fun f => (f.type, f.offset)) = L) (hc : P.cellsOf t = d.sz) (hfg : ∀ y, f (g y) = y)
  (h : OpAt P W L 0 d G) : Opn P W t (Kd.iso d f) (fun x => G (f x)) := by
 intro H enc base spare held n cs x hx
 obtain ⟨xs, m, _, _, hl, hxl, hf⟩ := DataW.trod_struct ht hx
 obtain ⟨y, hk, hg⟩ := h (cs := cs) (n := m) (enc := enc) (base := base) (spare := spare) (held := held) (by rw [hl, hc]; omega) (fun q hq => by
  rw [← hL] at hq
  obtain ⟨fd, hfd, rfl⟩ := List.mem_map.1 hq
  obtain ⟨i, hi⟩ := List.getElem?_of_mem hfd
  rw [Array.getElem?_toList] at hi
  have hlt : i < xs.length := by
   have := (Array.getElem?_eq_some_iff.1 hi).1
   omega
  exact ⟨xs[i], by rw [hf i fd hi]; exact List.getElem?_eq_getElem hlt⟩)
 rw [List.drop_zero] at hk
 refine ⟨g y, ?_, ?_⟩
 ·show d.K W (f (g y)) cs
  rw [hfg]; exact hk
 ·show G (f (g y))
  rw [hfg]; exact hg
theorem op_struct0 {fs : Array Field} {L : List (TypeId × Nat)} {α : Type} {d : Kd α} {G : α → Prop} (ht : P.underlying t = some (.struct fs)) (hL : fs.toList.map (fun f => (f.type, f.offset)) = L) (hc : P.cellsOf t = d.sz)
  (h : OpAt P W L 0 d G) : Opn P W t d G := by
 intro H enc base spare held n cs x hx
 exact op_struct (d := d) (f := fun y : α => y) (g := fun y => y) ht hL hc (fun _ => rfl) h hx
end
theorem agg_of_wide {P : Program} {w : World} {r : Reach} {base : Nat} {t : TypeId} {fs : Array Field} {v : Value} {l : List Value} (ht : P.underlying t = some (.struct fs)) (hw : Value.okWide P w r base t v) (h : v.cells.toList = l) : v = .agg l.toArray := by
 simp only [Value.okWide, ht] at hw
 obtain ⟨cs, rfl, _⟩ := hw
 rw [← h]
 simp [Value.cells]
end Go.Proofs.Ytnplghcbdaiogaa.RO
end
