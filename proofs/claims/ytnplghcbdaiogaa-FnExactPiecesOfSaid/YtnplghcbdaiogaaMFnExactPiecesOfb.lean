/- For the law FnExactPiecesOf (laid by merge.py). -/
import Derived.Test.YtnplghcbdaiogaaMFnExactPiecesOfa
import Derived.Test.YtnplghcbdaiogaaProg
import Derived.Below
import Derived.Deep.Draws
import Derived.Deep.AppendLies
import Derived.Maps.AppendAt
import Derived.OwnWalk
import Derived.Laws.BytesArg
import Derived.Laws.MakeOwn
import Derived.Laws.OwnMore
import Derived.Deep.OwnRows
import Derived.Tactics
import Derived.Lib.ConvBytes
import Derived.Laws.Slices
import Derived.WalkKit
import Derived.KernelRfl
import Derived.RowKit3
import Derived.Deep.LoopGhost
import Derived.Deep.QuietTactic
import Derived.BigQuiet
import Derived.WideLaws
import Derived.Deep.DeepCutAuto
import Derived.Deep.CutBlock
import Derived.Deep.RegionHeld3
import Derived.Laws.Rows
import Derived.Lib.AppendStr
import Derived.ArgAppend
import Derived.Laws.IdiomCopy
import Derived.OrdersHeld
import Derived.Laws.BitsLemmas
import Derived.RowKit
import Derived.WalkLawsBesides
section
namespace Go.Proofs.Ytnplghcbdaiogaa.PA
open Go.RowKit Go.Proofs.YtnplghcbdaiogaaW.PrintWords Go.Proofs.YtnplghcbdaiogaaW.PrintLast Go.Proofs.YtnplghcbdaiogaaW.PrintMore
attribute [local go_sem] max2_int min2_int max_two min_two max_three min_three max_four min_four
set_option linter.unusedVariables false
set_option linter.unusedSimpArgs false
set_option maxHeartbeats 60000000
set_option maxRecDepth 100000
def ptrA {α : Type} (t : Nat) (adr : α → Nat) (d : Kd α) : Kd α where
 sz := 1
 E := t :: d.E
 K := fun w x cs => ∃ cells, cs = [.pointer (some ⟨adr x, 0, none⟩)] ∧ w.heap[adr x]? = some (.cells cells t (0, 0)) ∧ d.K w x cells.toList
 M := fun w base ok x cs => ∃ cells, cs = [.pointer (some ⟨adr x, 0, none⟩)] ∧ ok (adr x) ∧ base ≤ adr x ∧ w.heap[adr x]? = some (.cells cells t (0, 0)) ∧ d.M w base (fun k => ok k ∧ k ≠ adr x) x cells.toList
 K_len := by
  rintro w x cs ⟨cells, rfl, _⟩
  rfl
 K_one := by
  rintro w x cs ⟨cells, rfl, _⟩ u hu
  rw [List.mem_singleton.1 hu]
  rfl
 K_below := by
  rintro w w1 x cs hb ⟨cells, rfl, hg, h⟩
  exact ⟨cells, rfl, (hb.block _ (blk_lt hg)).trans hg, d.K_below hb h⟩
 K_of_M := by
  rintro w base ok x cs ⟨cells, rfl, _, _, hg, h⟩
  exact ⟨cells, rfl, hg, d.K_of_M h⟩
 M_mono := by
  rintro w base ok ok' x cs hok ⟨cells, rfl, h0, h1, hg, h⟩
  exact ⟨cells, rfl, hok _ h0, h1, hg, d.M_mono (fun k hk => ⟨hok _ hk.1, hk.2⟩) h⟩
 M_bound := by
  rintro w base ok x cs ⟨cells, rfl, h0, h1, hg, h⟩
  refine ⟨cells, rfl, ⟨h0, h1, blk_lt hg, t, List.mem_cons_self, cells, hg⟩, h1, hg, d.M_mono ?_ (d.M_bound h)⟩
  rintro k ⟨h2, h3, h4, q, hq, hc⟩
  exact ⟨⟨h2.1, h3, h4, q, List.mem_cons_of_mem _ hq, hc⟩, h2.2⟩
 M_move := by
  rintro w w1 base ok x cs hm ⟨cells, rfl, h0, h1, hg, h⟩
  exact ⟨cells, rfl, h0, h1, (hm _ h0).trans hg, d.M_move (fun k hk => hm k hk.1) h⟩
 M_lower := by
  rintro w base base' ok x cs hb ⟨cells, rfl, h0, h1, hg, h⟩
  exact ⟨cells, rfl, h0, Nat.le_trans hb h1, hg, d.M_lower hb h⟩
theorem mono_ptrA {α β : Type} (t : Nat) (adr : β → Nat) {G : Kd α → Kd β} (hG : Kd.Mono G) : Kd.Mono (fun d => ptrA t adr (G d)) := by
 refine ⟨fun d d' hs => rfl, ?_, ?_⟩
 ·rintro d d' hs h w x cs ⟨cells, rfl, hg, hr⟩
  exact ⟨cells, rfl, hg, hG.K d d' hs h _ _ _ hr⟩
 ·rintro d d' hs h w base ok x cs ⟨cells, rfl, h0, h1, hg, hr⟩
  exact ⟨cells, rfl, h0, h1, hg, hG.M d d' hs h _ _ _ _ _ hr⟩
theorem sub_ptrA {α β : Type} {E : List Nat} (t : Nat) (adr : β → Nat) {G : Kd α → Kd β} (ht : t ∈ E) (hG : Kd.Sub G E) : Kd.Sub (fun d => ptrA t adr (G d)) E := fun d h q hq => by
 rcases List.mem_cons.1 hq with rfl | hq
 ·exact ht
 ·exact hG d h q hq
theorem strs_sub {t s p : Nat} : ∀ q, q ∈ (Kd.slice s Kd.string).E → q ∈ [t, s, p] := fun q hq => by
 have : q ∈ [s] := hq
 rcases List.mem_cons.1 this with rfl | hq
 ·simp
 ·cases hq
theorem less_none : ∀ a : List UInt8, Op.bytesLess a a = false := by
 intro a
 induction a with
 | nil => rfl
 | cons x a ih => simp [Op.bytesLess, ih]
theorem less_three : ∀ a b : List UInt8, Op.bytesLess a b = false → Op.bytesLess b a = false → a = b := by
 intro a
 induction a with
 | nil => intro b h1 h2; cases b with
  | nil => rfl
  | cons y b => simp [Op.bytesLess] at h1
 | cons x a ih => intro b h1 h2; cases b with
  | nil => simp [Op.bytesLess] at h2
  | cons y b =>
   simp only [Op.bytesLess, Bool.or_eq_false_iff, decide_eq_false_iff_not] at h1 h2
   have e : x = y := UInt8.le_antisymm (UInt8.not_lt.1 h2.1) (UInt8.not_lt.1 h1.1)
   subst e
   simp only [beq_self_eq_true, Bool.true_and] at h1 h2
   rw [ih b h1.2 h2.2]
theorem less_both : ∀ a b : List UInt8, Op.bytesLess b a = true → Op.bytesLess a b = false := by
 intro a
 induction a with
 | nil => intro b h; cases b <;> simp [Op.bytesLess] at h
 | cons x a ih => intro b h; cases b with
  | nil => rfl
  | cons y b =>
   simp only [Op.bytesLess, Bool.or_eq_true, Bool.and_eq_true, decide_eq_true_eq, beq_iff_eq] at h
   simp only [Op.bytesLess, Bool.or_eq_false_iff, decide_eq_false_iff_not]
   rcases h with h | ⟨e, h⟩
   ·exact ⟨fun h2 => UInt8.lt_irrefl _ (UInt8.lt_trans h h2), by rw [beq_eq_false_iff_ne.2 (fun e => by subst e; exact UInt8.lt_irrefl _ h)]; rfl⟩
   ·subst e; exact ⟨UInt8.lt_irrefl _, by rw [ih b h]; simp⟩
theorem gtr_eq (a b : List UInt8) : (!Op.bytesLess a b && !(a == b)) = Op.bytesLess b a := by
 cases h : Op.bytesLess b a with
 | true =>
  rw [less_both a b h, beq_eq_false_iff_ne.2 (fun e => by subst e; rw [less_none] at h; cases h)]
  rfl
 | false =>
  cases h2 : Op.bytesLess a b with
  | true => rfl
  | false => rw [less_three a b h2 h]; simp
theorem zA : ∀ {p : Prop}, p → Aside0 p := @Aside0.mk
theorem zB : ∀ (w : World) (a : Addr) {u : Value}, World.cell? w a = some u → Addr.block a < w.heap.size := @World.block_lt_of_cell?
theorem zC : ∀ {α : Type _} (l : List α) (i : Nat) (a : α), Array.setIfInBounds (List.toArray l) i a = List.toArray (List.set l i a) := @List.setIfInBounds_toArray
theorem zD : ∀ {α : Type _} {x : α} {xs : List α} {a : α}, List.set (x :: xs) 0 a = a :: xs := @List.set_cons_zero
theorem zE : ∀ {α : Type _} {x : α} {xs : List α} {i : Nat} {a : α}, List.set (x :: xs) (i + 1) a = x :: List.set xs i a := @List.set_cons_succ
theorem zF : ∀ {B : Nat} {w W : World}, Below B w W → ∀ (n : Nat), Below B w (World.drewN W n) := @pw_below_drewN
theorem zG : ∀ {base : Nat} {w W : World}, Below base w W → Below base w (World.drew W) := @below_drew1
theorem zH : ∀ {w W : World}, Below (w.heap.size) w W → ∀ (o : Obj), Below (w.heap.size) w (World.alloc W o) := @below_alloc
theorem zI : ∀ {w W : World} {g j : Nat} {v : Value}, Below (w.heap.size) w W → w.heap.size ≤ g → Below (w.heap.size) w (World.setCell W { block := g, off := j } v) := @below_set
theorem zJ : ∀ {n m k : Nat}, n < m → m ≤ k → n < k := @Nat.lt_of_lt_of_le
theorem zK : ∀ {a b : Nat}, a < b → a ≠ b := @Nat.ne_of_lt
theorem zL : ∀ {w : World} {g : Nat} {o : Obj}, w.heap[g]? = some o → ∀ (n : Nat), (World.heap (World.drewN w n))[g]? = some o := @blk_drewN
theorem zM : ∀ {w : World} {g : Nat} {o : Obj}, w.heap[g]? = some o → ∀ (o' : Obj), (World.heap (World.alloc w o'))[g]? = some o := @blk_alloc
theorem zN : ∀ {w : World} {g : Nat} {o : Obj}, w.heap[g]? = some o → (World.heap (World.drew w))[g]? = some o := @blk_drew
theorem zO : ∀ {w : World} {g : Nat} {t : TypeId} {cs : Array Value}, w.heap[g]? = some (Obj.cells cs t) → ∀ (i : Nat), World.frozen? w { block := g, off := i } = false := @blk_frozen
theorem zP : ∀ {w : World} {g : Nat} {t : TypeId} {cs : Array Value}, w.heap[g]? = some (Obj.cells cs t) → ∀ (i : Nat), World.cell? w { block := g, off := i } = cs[i]? := @blk_cell
theorem zQ : ∀ {α : Type} {d : Kd α} {e : Nat} {w : World} {base : Nat} {ok : Nat → Prop} {v : Value} {xs : List α}, Kd.R d e w base ok v xs → ∀ (o : Obj), Kd.R d e (World.alloc w o) base ok v xs := @Kd.R_alloc
theorem zR : ∀ {α : Type} {d : Kd α} {e : Nat} {w : World} {base : Nat} {ok : Nat → Prop} {v : Value} {xs : List α}, Kd.R d e w base ok v xs → ∀ (m : Nat), Kd.R d e (World.drewN w m) base ok v xs := @Kd.R_drewN
theorem zS : ∀ {α : Type} {d : Kd α} {e : Nat} {w : World} {base : Nat} {ok : Nat → Prop} {v : Value} {xs : List α}, Kd.R d e w base ok v xs → Kd.R d e (World.drew w) base ok v xs := @Kd.R_drew
theorem zT : ∀ {α : Type} {d : Kd α} {w : World} {xs : List α} {A : Option Addr} {n : Nat}, Kd.C d w A n xs → ∀ (o : Obj), Kd.C d (World.alloc w o) A n xs := @Kd.C_alloc
theorem zU : ∀ {α : Type} {d : Kd α} {w : World} {xs : List α} {A : Option Addr} {n : Nat}, Kd.C d w A n xs → ∀ (m : Nat), Kd.C d (World.drewN w m) A n xs := @Kd.C_drewN
theorem zV : ∀ {α : Type} {d : Kd α} {w : World} {xs : List α} {A : Option Addr} {n : Nat}, Kd.C d w A n xs → Kd.C d (World.drew w) A n xs := @Kd.C_drew
theorem zW : ∀ {p : Prop} [inst : Decidable p], decide p = true → p := @of_decide_eq_true
theorem zX : ∀ {p : Prop} [inst : Decidable p], p → decide p = true := @decide_eq_true
theorem zY : ∀ {α : Type _} {i : Nat} {l : List α}, List.length (List.take i l) = Min.min i (List.length l) := @List.length_take
theorem zZ : ∀ {α : Type _} {i : Nat} {l : List α}, List.length (List.drop i l) = List.length l - i := @List.length_drop
theorem zAA : ∀ {α : Type _} {β : Type _} {f : α → β} {l : List α}, Array.map f (List.toArray l) = List.toArray (List.map f l) := @List.map_toArray
theorem zAB : ∀ {α : Type _} {β : Type _} {f : α → β} {a : α} {l : List α}, List.map f (a :: l) = f a :: List.map f l := @List.map_cons
theorem zAC : ∀ {α : Type _} {β : Type _} {f : α → β}, List.map f [] = [] := @List.map_nil
theorem zAD : ∀ {w W w2 : World}, Below (w.heap.size) w W → Below (W.heap.size) W w2 → Below (w.heap.size) w w2 := @below_step
theorem zAE : ∀ {w W : World}, Below (w.heap.size) w W → w.heap.size ≤ W.heap.size := @below_size
theorem zAF {α β : Type} {o : Option α} {f : α → Option β} {b : β} (h : o.bind f = some b) : ∃ a, o = some a ∧ f a = some b := Option.bind_eq_some_iff.mp h
def bA (n m : Nat) : Array Bool := ((List.range n).map fun i => m.testBit i).toArray
theorem wzC {W w : World} {p a : Addr} {x u : Value} {y : Option Value} (hw : w.cell? a = some x) (hg : w.heap.size ≤ p.block) (h : W.cell? a = y) : (W.setCell p u).cell? a = y := (cell_far (Nat.ne_of_lt (Nat.lt_of_lt_of_le (World.block_lt_of_cell? _ _ hw) hg)) u).trans h
theorem wzP {P : Program} {md : Region.Mode} {ops : Array Oper} {Q : Exit → Act → World → Prop} {S : World → Prop} {ds : List Nat} {T : Bool × List (List Nat × List Nat)} {oi : Oper} {v : Value} {fuel : Nat} {l : Array Bool} {a a' : Act} {w : World} (i : Nat) (N : Tmp) (l' : Array Bool) (hT : Aside0 (rtab md ops = T)) (h : wpAnyLast P md ops Q S ds fuel l' a' w)
  (hi : ops[i]? = some oi := by rfl) (hN : oi.dst = some N := by rfl) (hc : anyT T l.toList l'.toList i = true := by kernel_rfl) (hQ : ∀ c a w, Q (.panic c) (a.put oi.dst v) w → Q (.panic c) a w := by exact fun _ _ _ h => h)
  (hw : Region.wanted oi (yielded ops a.tmps) = true := by rfl) (hr : ∀ w, (execOp a.eval oi).run P w = .ok (.value v) w := by intro w'; go_simp; with_reducible rfl) (ha : a.put (some N) v = a' := by simp only [Act.put, zC, zD, zE, i64_w, i32_w]; rfl) : wpAnyLast P md ops Q S ds (fuel + 1) l a w :=
 pure_ l' hi hN (any_of hT.out hc) hQ (Or.inl ⟨hw, hr⟩) ha h
theorem wzT {P : Program} {md : Region.Mode} {ops : Array Oper} {Q : Exit → Act → World → Prop} {S : World → Prop} {ds : List Nat} {T : Bool × List (List Nat × List Nat)} {B : List Nat} {oi : Oper} {v : Value} {fuel : Nat} {l : Array Bool} {a a' : Act} {w : World} (i : Nat) (N : Tmp) (l' : Array Bool) (hT : Aside0 (rtab md ops = T)) (hB : Aside0 (waitsOk T.2 B = true)) (hS : S w) (h : wpAnyLast P md ops Q S ds fuel l' a' w)
  (hi : ops[i]? = some oi := by rfl) (hN : oi.dst = some N := by rfl) (hc : takeW T B ds l.toList l'.toList i = true := by kernel_rfl) (hQ : ∀ c a w, Q (.panic c) (a.put oi.dst v) w → Q (.panic c) a w := by exact fun _ _ _ h => h)
  (hw : Region.wanted oi (yielded ops a.tmps) = true := by rfl) (hr : ∀ w, S w → (execOp a.eval oi).run P w = .ok (.value v) w := by intro w' s0; go_simp; with_reducible rfl) (ha : a.put (some N) v = a' := by simp only [Act.put, zC, zD, zE, i64_w, i32_w]; rfl) : wpAnyLast P md ops Q S ds (fuel + 1) l a w :=
 take_ l' hi hN (take_ofW hT.out hB.out hc) hQ (Or.inl ⟨hw, hr⟩) hS ha h
theorem wzN {P : Program} {md : Region.Mode} {ops : Array Oper} {Q : Exit → Act → World → Prop} {S : World → Prop} {ds : List Nat} {v : Value} {fuel : Nat} {l : Array Bool} {a a' : Act} {w : World} (N : Tmp) (h : wpAnyLast P md ops Q S ds fuel l a' w) (ha : a.put (some N) v = a' := by simp only [Act.put, zC, zD, zE, i64_w, i32_w]; rfl) : wpAnyLast P md ops Q S ds fuel l (a.put (some N) v) w := ha ▸ h
def errW : Option Int → Value
 | none => .nilIface
 | some c => .iface 0 (.int .i64 c)
theorem errW_none : errW none = .nilIface := rfl
theorem errW_some (c : Int) : errW (some c) = .iface 0 (.int .i64 c) := rfl
theorem info3 : (Try.prog.info? 3).map (fun i => (i.zero, i.size, i.bytes)) = some (some (.int .i64 0), 1, 8) := by kernel_rfl
theorem info9 : (Try.prog.info? 9).map (fun i => (i.zero, i.size, i.bytes)) = some (some (.string ⟨#[]⟩), 1, 16) := by kernel_rfl
theorem info47 : (Try.prog.info? 47).map (fun i => (i.zero, i.size, i.bytes)) = some (some (.agg #[(.slice none 0 0), (.slice none 0 0), (.slice none 0 0), (.int .i64 0), (.slice none 0 0), (.slice none 0 0)]), 6, 128) := by kernel_rfl
theorem info97 : (Try.prog.info? 97).map (fun i => (i.zero, i.size, i.bytes)) = some (some (.agg #[(.slice none 0 0), (.slice none 0 0), (.slice none 0 0)]), 3, 72) := by kernel_rfl
structure S87 where
 f0 : (List ByteArray)
 f1 : (List ByteArray)
 f2 : (List Int)
def z87 : S87 := ⟨([] : List ByteArray), ([] : List ByteArray), ([] : List Int)⟩
def k87 : Kd S87 := Kd.iso (Kd.pair (Kd.slice 9 Kd.string) (Kd.pair (Kd.slice 9 Kd.string) (Kd.slice 3 (Kd.int .i64)))) (fun x : S87 => (x.f0, x.f1, x.f2))
theorem k87_open {w : World} {x : S87} {cs : List Value} (h : k87.K w x cs) : ∃ A0 c0 A1 c1 A2 c2, cs = [.slice A0 x.f0.length c0, .slice A1 x.f1.length c1, .slice A2 x.f2.length c2] ∧ x.f0.length ≤ c0 ∧ Kd.string.C w A0 x.f0.length x.f0 ∧ x.f1.length ≤ c1 ∧ Kd.string.C w A1 x.f1.length x.f1 ∧ x.f2.length ≤ c2 ∧ (Kd.int .i64).C w A2 x.f2.length x.f2 := by
 obtain ⟨_, _, rfl, ⟨A0, c0, rfl, l0, g0⟩, ⟨_, _, rfl, ⟨A1, c1, rfl, l1, g1⟩, ⟨A2, c2, rfl, l2, g2⟩⟩⟩ := h
 exact ⟨A0, c0, A1, c1, A2, c2, rfl, l0, g0, l1, g1, l2, g2⟩
def rd_T87 (xs : List S87) (i : Int) : S87 := xs.getD i.toNat z87
theorem at_T87 {w : World} {A : Option Addr} {n : Nat} {xs : List S87} (h : Kd.C k87 w A n xs) (i : Int) (h0 : 0 ≤ i) (h1 : i < n) : ∃ ad A0 c0 A1 c1 A2 c2, A = some ad ∧ w.cell? (ad.add (i.toNat * 3)) = some (.slice A0 (rd_T87 xs i).f0.length c0) ∧ w.cell? ⟨(ad.add (i.toNat * 3)).block, (ad.add (i.toNat * 3)).off + 1, none⟩ = some (.slice A1 (rd_T87 xs i).f1.length c1) ∧ w.cell? ⟨(ad.add (i.toNat * 3)).block, (ad.add (i.toNat * 3)).off + 2, none⟩ = some (.slice A2 (rd_T87 xs i).f2.length c2) ∧ (rd_T87 xs i).f0.length ≤ c0 ∧ Kd.string.C w A0 (rd_T87 xs i).f0.length (rd_T87 xs i).f0 ∧ (rd_T87 xs i).f1.length ≤ c1 ∧ Kd.string.C w A1 (rd_T87 xs i).f1.length (rd_T87 xs i).f1 ∧ (rd_T87 xs i).f2.length ≤ c2 ∧ (Kd.int .i64).C w A2 (rd_T87 xs i).f2.length (rd_T87 xs i).f2 := by
 obtain ⟨ad, c, e, _, hK, hc0⟩ := Kd.C_get h z87 i h0 h1
 have hc : ∀ j u, c[j]? = some u → w.cell? (ad.add (i.toNat * 3 + j)) = some u := hc0
 obtain ⟨A0, c0, A1, c1, A2, c2, rfl, l0, g0, l1, g1, l2, g2⟩ := k87_open hK
 exact ⟨ad, A0, c0, A1, c1, A2, c2, e, hc 0 _ rfl, by rw [← add_field _ _ 1 (by omega)]; exact hc 1 _ rfl, by rw [← add_field _ _ 2 (by omega)]; exact hc 2 _ rfl, l0, g0, l1, g1, l2, g2⟩
structure S97 where
 f0 : (List ByteArray)
 f1 : (List ByteArray)
 f2 : (List Int)
def z97 : S97 := ⟨([] : List ByteArray), ([] : List ByteArray), ([] : List Int)⟩
def k97 : Kd S97 := Kd.iso (Kd.pair (Kd.slice 9 Kd.string) (Kd.pair (Kd.slice 9 Kd.string) (Kd.slice 3 (Kd.int .i64)))) (fun x : S97 => (x.f0, x.f1, x.f2))
theorem k97_open {w : World} {x : S97} {cs : List Value} (h : k97.K w x cs) : ∃ A0 c0 A1 c1 A2 c2, cs = [.slice A0 x.f0.length c0, .slice A1 x.f1.length c1, .slice A2 x.f2.length c2] ∧ x.f0.length ≤ c0 ∧ Kd.string.C w A0 x.f0.length x.f0 ∧ x.f1.length ≤ c1 ∧ Kd.string.C w A1 x.f1.length x.f1 ∧ x.f2.length ≤ c2 ∧ (Kd.int .i64).C w A2 x.f2.length x.f2 := by
 obtain ⟨_, _, rfl, ⟨A0, c0, rfl, l0, g0⟩, ⟨_, _, rfl, ⟨A1, c1, rfl, l1, g1⟩, ⟨A2, c2, rfl, l2, g2⟩⟩⟩ := h
 exact ⟨A0, c0, A1, c1, A2, c2, rfl, l0, g0, l1, g1, l2, g2⟩
theorem k97_openM {w : World} {base : Nat} {ok : Nat → Prop} {x : S97} {cs : List Value} (h : k97.M w base ok x cs) : ∃ v0 v1 v2, cs = [v0, v1, v2] ∧ Kd.string.R 9 w base ok v0 x.f0 ∧ Kd.string.R 9 w base ok v1 x.f1 ∧ (Kd.int .i64).R 3 w base ok v2 x.f2 := by
 obtain ⟨_, _, rfl, ⟨v0, rfl, g0⟩, ⟨_, _, rfl, ⟨v1, rfl, g1⟩, ⟨v2, rfl, g2⟩⟩⟩ := h
 exact ⟨v0, v1, v2, rfl, g0, g1, g2⟩
theorem k97_mkM (w : World) (base : Nat) (ok : Nat → Prop) (x : S97) {v0 : Value} (g0 : Kd.string.R 9 w base ok v0 x.f0) {v1 : Value} (g1 : Kd.string.R 9 w base ok v1 x.f1) {v2 : Value} (g2 : (Kd.int .i64).R 3 w base ok v2 x.f2) : k97.M w base ok x [v0, v1, v2] := ⟨[v0], [v1, v2], rfl, ⟨v0, rfl, g0⟩, ⟨[v1], [v2], rfl, ⟨v1, rfl, g1⟩, ⟨v2, rfl, g2⟩⟩⟩
def rd_T97 (xs : List S97) (i : Int) : S97 := xs.getD i.toNat z97
theorem at_T97 {w : World} {A : Option Addr} {n : Nat} {xs : List S97} (h : Kd.C k97 w A n xs) (i : Int) (h0 : 0 ≤ i) (h1 : i < n) : ∃ ad A0 c0 A1 c1 A2 c2, A = some ad ∧ w.cell? (ad.add (i.toNat * 3)) = some (.slice A0 (rd_T97 xs i).f0.length c0) ∧ w.cell? ⟨(ad.add (i.toNat * 3)).block, (ad.add (i.toNat * 3)).off + 1, none⟩ = some (.slice A1 (rd_T97 xs i).f1.length c1) ∧ w.cell? ⟨(ad.add (i.toNat * 3)).block, (ad.add (i.toNat * 3)).off + 2, none⟩ = some (.slice A2 (rd_T97 xs i).f2.length c2) ∧ (rd_T97 xs i).f0.length ≤ c0 ∧ Kd.string.C w A0 (rd_T97 xs i).f0.length (rd_T97 xs i).f0 ∧ (rd_T97 xs i).f1.length ≤ c1 ∧ Kd.string.C w A1 (rd_T97 xs i).f1.length (rd_T97 xs i).f1 ∧ (rd_T97 xs i).f2.length ≤ c2 ∧ (Kd.int .i64).C w A2 (rd_T97 xs i).f2.length (rd_T97 xs i).f2 := by
 obtain ⟨ad, c, e, _, hK, hc0⟩ := Kd.C_get h z97 i h0 h1
 have hc : ∀ j u, c[j]? = some u → w.cell? (ad.add (i.toNat * 3 + j)) = some u := hc0
 obtain ⟨A0, c0, A1, c1, A2, c2, rfl, l0, g0, l1, g1, l2, g2⟩ := k97_open hK
 exact ⟨ad, A0, c0, A1, c1, A2, c2, e, hc 0 _ rfl, by rw [← add_field _ _ 1 (by omega)]; exact hc 1 _ rfl, by rw [← add_field _ _ 2 (by omega)]; exact hc 2 _ rfl, l0, g0, l1, g1, l2, g2⟩
structure S95 where
 adr : Nat
 f0 : List ByteArray
 f1 : List ByteArray
 f2 : List S95
def z95 : S95 := ⟨0, [], [], []⟩
def r95 (d : Kd S95) : Kd S95 := Kd.iso (Kd.pair (Kd.slice 9 Kd.string) (Kd.pair (Kd.slice 9 Kd.string) (Kd.slice 54 d))) (fun x : S95 => (x.f0, x.f1, x.f2))
def F95 (d : Kd S95) : Kd S95 := ptrA 95 S95.adr (r95 d)
theorem mono95 : Kd.Mono F95 := mono_ptrA 95 _ (Kd.mono_iso _ (Kd.mono_pair (Kd.mono_const _) (Kd.mono_pair (Kd.mono_const _) (Kd.mono_slice 54 Kd.mono_id))))
theorem sub95 : Kd.Sub F95 [95, 9, 54] := sub_ptrA 95 _ (by simp) (Kd.sub_iso _ (Kd.sub_pair (Kd.sub_const _ strs_sub) (Kd.sub_pair (Kd.sub_const _ strs_sub) (Kd.sub_slice 54 (by simp) Kd.sub_id))))
theorem sz95 : ∀ n, (Kd.upto F95 1 [95, 9, 54] n).sz = 1 := Kd.upto_sz (fun _ => rfl)
def k95p : Kd S95 := Kd.fix F95 1 [95, 9, 54] sz95 (Kd.upto_E sub95)
theorem k95p_shape {w : World} {x : S95} {cs : List Value} (h : k95p.K w x cs) : cs = [.pointer (some ⟨x.adr, 0, none⟩)] := by
 obtain ⟨n, h⟩ := h
 cases n with
 | zero => exact h.elim
 | succ n => exact h.choose_spec.1
theorem k95p_open {w : World} {x : S95} {cs : List Value} (h : k95p.K w x cs) : ∃ A0 c0 A1 c1 A2 c2, w.heap[x.adr]? = some (.cells #[.slice A0 x.f0.length c0, .slice A1 x.f1.length c1, .slice A2 x.f2.length c2] 95 (0, 0)) ∧ x.f0.length ≤ c0 ∧ Kd.string.C w A0 x.f0.length x.f0 ∧ x.f1.length ≤ c1 ∧ Kd.string.C w A1 x.f1.length x.f1 ∧ x.f2.length ≤ c2 ∧ k95p.C w A2 x.f2.length x.f2 := by
 obtain ⟨n, h⟩ := h
 cases n with
 | zero => exact h.elim
 | succ n =>
  obtain ⟨cells, e, hg, h⟩ := h
  obtain ⟨_, _, e1, ⟨A0, c0, rfl, l0, g0⟩, ⟨_, _, rfl, ⟨A1, c1, rfl, l1, g1⟩, ⟨A2, c2, rfl, l2, g2⟩⟩⟩ := h
  refine ⟨A0, c0, A1, c1, A2, c2, ?_, l0, g0, l1, g1, l2, Kd.fix_C g2⟩
  rw [hg]
  have : cells = #[.slice A0 x.f0.length c0, .slice A1 x.f1.length c1, .slice A2 x.f2.length c2] := by
   apply Array.ext'
   rw [e1]
   rfl
  rw [this]
theorem at_P95 {w : World} {x : S95} {cs : List Value} (h : k95p.K w x cs) : ∃ A0 c0 A1 c1 A2 c2, w.cell? ⟨x.adr, 0, none⟩ = some (.slice A0 x.f0.length c0) ∧ w.cell? ⟨x.adr, 1, none⟩ = some (.slice A1 x.f1.length c1) ∧ w.cell? ⟨x.adr, 2, none⟩ = some (.slice A2 x.f2.length c2) ∧ x.f0.length ≤ c0 ∧ Kd.string.C w A0 x.f0.length x.f0 ∧ x.f1.length ≤ c1 ∧ Kd.string.C w A1 x.f1.length x.f1 ∧ x.f2.length ≤ c2 ∧ k95p.C w A2 x.f2.length x.f2 := by
 obtain ⟨A0, c0, A1, c1, A2, c2, hg, l0, g0, l1, g1, l2, g2⟩ := k95p_open h
 exact ⟨A0, c0, A1, c1, A2, c2, (blk_cell hg 0).trans rfl, (blk_cell hg 1).trans rfl, (blk_cell hg 2).trans rfl, l0, g0, l1, g1, l2, g2⟩
def rd_N95 (xs : List S95) (i : Int) : S95 := xs.getD i.toNat z95
theorem nd_el95 {w : World} {A : Option Addr} {n : Nat} {xs : List S95} (h : Kd.C k95p w A n xs) (i : Int) (h0 : 0 ≤ i) (h1 : i < n) : k95p.K w (rd_N95 xs i) [.pointer (some ⟨(rd_N95 xs i).adr, 0, none⟩)] := by
 obtain ⟨ad, c, e, _, hK, hc0⟩ := Kd.C_get h z95 i h0 h1
 have := k95p_shape hK
 rw [this] at hK
 exact hK
theorem at_N95 {w : World} {A : Option Addr} {n : Nat} {xs : List S95} (h : Kd.C k95p w A n xs) (i : Int) (h0 : 0 ≤ i) (h1 : i < n) : ∃ ad, A = some ad ∧ w.cell? (ad.add i.toNat) = some (.pointer (some ⟨(rd_N95 xs i).adr, 0, none⟩)) := by
 obtain ⟨ad, c, e, _, hK, hc0⟩ := Kd.C_get h z95 i h0 h1
 have hc : ∀ j u, c[j]? = some u → w.cell? (ad.add (i.toNat * 1 + j)) = some u := hc0
 have := k95p_shape hK
 rw [this] at hc
 exact ⟨ad, e, by have hq := hc 0 _ rfl; rwa [Nat.mul_one, Nat.add_zero] at hq⟩
theorem k95p_drewN {w : World} {x : S95} {cs : List Value} (h : k95p.K w x cs) (m : Nat) : k95p.K (w.drewN m) x cs := k95p.K_below (pw_below_drewN (Below.refl _ _) m) h
structure S43 where
 f0 : (List ByteArray)
 f1 : (List ByteArray)
 f2 : (List ByteArray)
 f3 : Int
structure S74 where
 adr : Nat
 f0 : List ByteArray
 f1 : List ByteArray
 f2 : List S74
def z74 : S74 := ⟨0, [], [], []⟩
def r74 (d : Kd S74) : Kd S74 := Kd.iso (Kd.pair (Kd.slice 9 Kd.string) (Kd.pair (Kd.slice 9 Kd.string) (Kd.slice 60 d))) (fun x : S74 => (x.f0, x.f1, x.f2))
def F74 (d : Kd S74) : Kd S74 := ptrA 74 S74.adr (r74 d)
theorem mono74 : Kd.Mono F74 := mono_ptrA 74 _ (Kd.mono_iso _ (Kd.mono_pair (Kd.mono_const _) (Kd.mono_pair (Kd.mono_const _) (Kd.mono_slice 60 Kd.mono_id))))
theorem sub74 : Kd.Sub F74 [74, 9, 60] := sub_ptrA 74 _ (by simp) (Kd.sub_iso _ (Kd.sub_pair (Kd.sub_const _ strs_sub) (Kd.sub_pair (Kd.sub_const _ strs_sub) (Kd.sub_slice 60 (by simp) Kd.sub_id))))
theorem sz74 : ∀ n, (Kd.upto F74 1 [74, 9, 60] n).sz = 1 := Kd.upto_sz (fun _ => rfl)
def k74p : Kd S74 := Kd.fix F74 1 [74, 9, 60] sz74 (Kd.upto_E sub74)
theorem k74p_shape {w : World} {x : S74} {cs : List Value} (h : k74p.K w x cs) : cs = [.pointer (some ⟨x.adr, 0, none⟩)] := by
 obtain ⟨n, h⟩ := h
 cases n with
 | zero => exact h.elim
 | succ n => exact h.choose_spec.1
theorem k74p_open {w : World} {x : S74} {cs : List Value} (h : k74p.K w x cs) : ∃ A0 c0 A1 c1 A2 c2, w.heap[x.adr]? = some (.cells #[.slice A0 x.f0.length c0, .slice A1 x.f1.length c1, .slice A2 x.f2.length c2] 74 (0, 0)) ∧ x.f0.length ≤ c0 ∧ Kd.string.C w A0 x.f0.length x.f0 ∧ x.f1.length ≤ c1 ∧ Kd.string.C w A1 x.f1.length x.f1 ∧ x.f2.length ≤ c2 ∧ k74p.C w A2 x.f2.length x.f2 := by
 obtain ⟨n, h⟩ := h
 cases n with
 | zero => exact h.elim
 | succ n =>
  obtain ⟨cells, e, hg, h⟩ := h
  obtain ⟨_, _, e1, ⟨A0, c0, rfl, l0, g0⟩, ⟨_, _, rfl, ⟨A1, c1, rfl, l1, g1⟩, ⟨A2, c2, rfl, l2, g2⟩⟩⟩ := h
  refine ⟨A0, c0, A1, c1, A2, c2, ?_, l0, g0, l1, g1, l2, Kd.fix_C g2⟩
  rw [hg]
  have : cells = #[.slice A0 x.f0.length c0, .slice A1 x.f1.length c1, .slice A2 x.f2.length c2] := by
   apply Array.ext'
   rw [e1]
   rfl
  rw [this]
theorem at_P74 {w : World} {x : S74} {cs : List Value} (h : k74p.K w x cs) : ∃ A0 c0 A1 c1 A2 c2, w.cell? ⟨x.adr, 0, none⟩ = some (.slice A0 x.f0.length c0) ∧ w.cell? ⟨x.adr, 1, none⟩ = some (.slice A1 x.f1.length c1) ∧ w.cell? ⟨x.adr, 2, none⟩ = some (.slice A2 x.f2.length c2) ∧ x.f0.length ≤ c0 ∧ Kd.string.C w A0 x.f0.length x.f0 ∧ x.f1.length ≤ c1 ∧ Kd.string.C w A1 x.f1.length x.f1 ∧ x.f2.length ≤ c2 ∧ k74p.C w A2 x.f2.length x.f2 := by
 obtain ⟨A0, c0, A1, c1, A2, c2, hg, l0, g0, l1, g1, l2, g2⟩ := k74p_open h
 exact ⟨A0, c0, A1, c1, A2, c2, (blk_cell hg 0).trans rfl, (blk_cell hg 1).trans rfl, (blk_cell hg 2).trans rfl, l0, g0, l1, g1, l2, g2⟩
def rd_N74 (xs : List S74) (i : Int) : S74 := xs.getD i.toNat z74
theorem nd_el74 {w : World} {A : Option Addr} {n : Nat} {xs : List S74} (h : Kd.C k74p w A n xs) (i : Int) (h0 : 0 ≤ i) (h1 : i < n) : k74p.K w (rd_N74 xs i) [.pointer (some ⟨(rd_N74 xs i).adr, 0, none⟩)] := by
 obtain ⟨ad, c, e, _, hK, hc0⟩ := Kd.C_get h z74 i h0 h1
 have := k74p_shape hK
 rw [this] at hK
 exact hK
theorem at_N74 {w : World} {A : Option Addr} {n : Nat} {xs : List S74} (h : Kd.C k74p w A n xs) (i : Int) (h0 : 0 ≤ i) (h1 : i < n) : ∃ ad, A = some ad ∧ w.cell? (ad.add i.toNat) = some (.pointer (some ⟨(rd_N74 xs i).adr, 0, none⟩)) := by
 obtain ⟨ad, c, e, _, hK, hc0⟩ := Kd.C_get h z74 i h0 h1
 have hc : ∀ j u, c[j]? = some u → w.cell? (ad.add (i.toNat * 1 + j)) = some u := hc0
 have := k74p_shape hK
 rw [this] at hc
 exact ⟨ad, e, by have hq := hc 0 _ rfl; rwa [Nat.mul_one, Nat.add_zero] at hq⟩
theorem k74p_drewN {w : World} {x : S74} {cs : List Value} (h : k74p.K w x cs) (m : Nat) : k74p.K (w.drewN m) x cs := k74p.K_below (pw_below_drewN (Below.refl _ _) m) h
theorem yB : ∀ {P : Program} {ops : Array Oper} {rest : List Oper} {o : Oper} {a : Act} {Q : Exit → Act → World → Prop} {W : World} {f : FuncId} {«as» : Array Operand} {ts : Array TypeId}, Oper.op o = Op.call { callee := Callee.value (Operand.func f), args := «as», argTypes := ts } → wpList P ops Q (o :: rest) a W → wpList P ops Q (o :: rest) a W := @gate_callee
theorem yC : ∀ {α : Type} {d : Kd α} {e : Nat} {w : World} {base : Nat} {ok ok' : Nat → Prop} {v : Value} {xs : List α}, Kd.R d e w base ok v xs → (∀ (k : Nat), ok k → ok' k) → Kd.R d e w base ok' v xs := @Kd.R_mono
theorem yD : ∀ {α : Type} {d : Kd α} {e : Nat} {w : World} {base : Nat} {ok : Nat → Prop} {xs : List α} {A : Option Addr} {n c : Nat}, Kd.R d e w base ok (Value.slice A n c) xs → n = List.length xs ∧ n ≤ c ∧ Kd.C d w A (List.length xs) xs := @Kd.R_reads'
theorem yE : ∀ {w w1 : World} {g : Nat} {o : Obj}, w.heap[g]? = some o → Below (w.heap.size) w w1 → w1.heap[g]? = some o := @blk_below
theorem yF : ∀ {W : World} {p a : Addr}, Addr.block a ≠ Addr.block p → ∀ (u : Value), World.cell? (World.setCell W p u) a = World.cell? W a := @cell_far
theorem yJ : ∀ {α : Type} {d : Kd α} {e : Nat} {w1 W : World} {base : Nat} {ok : Nat → Prop} {u v : Value} {xs : List α}, Kd.R d e W base ok u xs → (∀ (k : Nat), Value.ownBlock v = some k → W.heap.size ≤ k) → Below (W.heap.size) W w1 → Kd.R d e w1 base (fun k => ok k ∧ some k ≠ Value.ownBlock v) u xs := @Kd.R_elder'
theorem yK : ∀ {α : Type} {d : Kd α} {e : Nat} {w1 W : World} {ok : Nat → Prop} {u v : Value} {xs : List α}, Kd.R d e w1 (W.heap.size) ok v xs → (∀ (k : Nat), Value.ownBlock u = some k → k < W.heap.size) → Kd.R d e w1 (W.heap.size) (fun k => ok k ∧ some k ≠ Value.ownBlock u) v xs := @Kd.R_new'
theorem yL : ∀ {w : World} {g : Nat} {t : TypeId} {cs : Array Value}, w.heap[g]? = some (Obj.cells cs t) → ∀ (i : Nat) (u : Value), cs[i]? = some u → World.cell? w { block := g, off := i } = some u := fun h i _ hu => (blk_cell h i).trans hu
theorem yM : ∀ {α : Type _} {a b : α}, some a = some b → a = b := fun h => Option.some.inj h
theorem yN : ∀ {α : Type} {d : Kd α} {w w1 : World} {A : Option Addr} {n : Nat} {xs : List α}, Kd.C d w A n xs → Below w.heap.size w w1 → Kd.C d w1 A n xs := fun h hb => Kd.C_below h hb
theorem yO : ∀ {b : Bool}, b ≠ true → b = false := fun h => Bool.eq_false_iff.mpr h
def laws_szStringS.l0 : Nat → List ByteArray → Int → Int → Option (Int)
 | 0, _, _, _ => none
 | k + 1, x0, x1, x5 => if x5 < (x0.length : Int) then (if 0 ≤ x5 then (if (wrap64 (x1 - ((rdOf ByteArray.empty x0 x5).size : Int))) < 0 then (some (-1)) else (laws_szStringS.l0 k x0 (wrap64 (x1 - ((rdOf ByteArray.empty x0 x5).size : Int))) (wrap64 (x5 + 1)))) else (none)) else (some x1)
def laws_szStringS.f (k : Nat) (l0 : List ByteArray) (a1 : Int) : Option (Int) := if (wrap64 (a1 - (l0.length : Int))) < 0 then (some (-1)) else (laws_szStringS.l0 k l0 (wrap64 (a1 - (l0.length : Int))) 0)
theorem laws_szStringS.calls (k : Nat) (A0 : Option Addr) (c0 : Nat) (l0 : List ByteArray) (a1 : Int) (r : Int) (w : World) (hr0 : Kd.C Kd.string w A0 l0.length l0) (hc0 : l0.length ≤ c0) (h : laws_szStringS.f k l0 a1 = some r) :
  Calls Try.prog 77 #[.slice A0 l0.length c0, .int .i64 a1] w fun e w' => e = .returned (.int .i64 r) ∧ Drawn0 w w' := by
 have HR0 := zA hr0; have HC0 := zA hc0; clear hr0 hc0; have H : (if (wrap64 (a1 - (l0.length : Int))) < 0 then (some (-1)) else (laws_szStringS.l0 k l0 (wrap64 (a1 - (l0.length : Int))) 0)) = some r := h; clear h
 by_cases c3 : (wrap64 (a1 - (l0.length : Int))) < 0
 ·rw [if_pos c3] at H
  have c3b0 : decide ((wrap64 (a1 - (l0.length : Int))) < 0) = true := zX c3; clear c3; obtain rfl := yM H; go_enter Try.func77, Try.ntmps77; go_wp2; go_ret; exact ⟨by first | rfl | (simp; done) | (simp [*]; done) | (simp [bne]; done), by repeat (first | exact Drawn0.refl _ | apply Drawn0.step)⟩
 ·rw [if_neg c3] at H
  have c3b0 : decide ((wrap64 (a1 - (l0.length : Int))) < 0) = false := decide_eq_false c3; clear c3; have H' := zA H; clear H; go_enter Try.func77, Try.ntmps77; go_wp2; go_loopg [1, 5] k (fun kq v1 v5 w' => ∃ (x1_1 : Int) (x5_1 : Int), v1 = .int .i64 x1_1 ∧ v5 = .int .i64 x5_1 ∧ Aside0 (laws_szStringS.l0 kq l0 x1_1 x5_1 = some r) ∧ Aside0 (kq ≤ k) ∧ Drawn0 w w')
  case atStart => exact ⟨(wrap64 (a1 - (l0.length : Int))), (0), rfl, rfl, H', ⟨Nat.le_refl _⟩, by repeat (first | exact Drawn0.refl _ | apply Drawn0.step)⟩
  case round =>
   clear H'
   try clear p2
   try clear c3
   try clear c3b0
   obtain ⟨x1_1, x5_1, rfl, rfl, HA, HK1, ⟨m1, rfl⟩⟩ := hrel
   cases gk with
   | zero => exact absurd HA.out (by simp [laws_szStringS.l0])
   | succ k1 =>
    have H := HA.out; clear HA; simp only [laws_szStringS.l0] at H
    by_cases c4 : x5_1 < (l0.length : Int)
    ·rw [if_pos c4] at H
     have c4b0 : decide (x5_1 < (l0.length : Int)) = true := zX c4; clear c4
     by_cases c5 : 0 ≤ x5_1
     ·rw [if_pos c5] at H
      have c5b0 : decide (0 ≤ x5_1) = true := zX c5; clear c5
      by_cases c6 : (wrap64 (x1_1 - ((rdOf ByteArray.empty l0 x5_1).size : Int))) < 0
      ·rw [if_pos c6] at H
       have c6b0 : decide ((wrap64 (x1_1 - ((rdOf ByteArray.empty l0 x5_1).size : Int))) < 0) = true := zX c6; clear c6; obtain rfl := yM H; have p10 : 0 ≤ (x5_1 : Int) := zW (by assumption); have q10 : x5_1 < (l0.length : Int) := zW (by assumption); obtain ⟨ad10, e10, hx10_0⟩ := Kd.at_string HR0.out x5_1 p10 q10
       cases e10
       replace p10 := eq_true p10; replace q10 := eq_true q10; go_wp2; go_ret; exact ⟨by first | rfl | (simp; done) | (simp [*]; done) | (simp [bne]; done), by repeat (first | exact Drawn0.refl _ | apply Drawn0.step)⟩
      ·rw [if_neg c6] at H
       have c6b0 : decide ((wrap64 (x1_1 - ((rdOf ByteArray.empty l0 x5_1).size : Int))) < 0) = false := decide_eq_false c6; clear c6; have H' := zA H; clear H; have p10 : 0 ≤ (x5_1 : Int) := zW (by assumption); have q10 : x5_1 < (l0.length : Int) := zW (by assumption); obtain ⟨ad10, e10, hx10_0⟩ := Kd.at_string HR0.out x5_1 p10 q10
       cases e10
       replace p10 := eq_true p10; replace q10 := eq_true q10; go_wp2; go_roundg k1
       case measure => have := HK1.out; omega
       case rel => exact ⟨(wrap64 (x1_1 - ((rdOf ByteArray.empty l0 x5_1).size : Int))), (wrap64 (x5_1 + 1)), rfl, rfl, H', ⟨by have := HK1.out; omega⟩, by repeat (first | exact Drawn0.refl _ | apply Drawn0.step)⟩
     ·rw [if_neg c5] at H
      exact absurd H (by simp)
    ·rw [if_neg c4] at H
     have c4b0 : decide (x5_1 < (l0.length : Int)) = false := decide_eq_false c4; clear c4; obtain rfl := yM H; go_wp2; go_ret; exact ⟨by first | rfl | (simp; done) | (simp [*]; done) | (simp [bne]; done), by repeat (first | exact Drawn0.refl _ | apply Drawn0.step)⟩
def laws_szIntS.f (l0 : List Int) (a1 : Int) : Option (Int) := if (wrap64 (a1 - (l0.length : Int))) < 0 then (some (-1)) else (some (wrap64 (a1 - (l0.length : Int))))
theorem laws_szIntS.calls (A0 : Option Addr) (c0 : Nat) (l0 : List Int) (a1 : Int) (r : Int) (w : World) (hr0 : Kd.C (Kd.int .i64) w A0 l0.length l0) (hc0 : l0.length ≤ c0) (h : laws_szIntS.f l0 a1 = some r) :
  Calls Try.prog 78 #[.slice A0 l0.length c0, .int .i64 a1] w fun e w' => e = .returned (.int .i64 r) ∧ Drawn0 w w' := by
 have HR0 := zA hr0; have HC0 := zA hc0; clear hr0 hc0; have H : (if (wrap64 (a1 - (l0.length : Int))) < 0 then (some (-1)) else (some (wrap64 (a1 - (l0.length : Int))))) = some r := h; clear h
 by_cases c3 : (wrap64 (a1 - (l0.length : Int))) < 0
 ·rw [if_pos c3] at H
  have c3b0 : decide ((wrap64 (a1 - (l0.length : Int))) < 0) = true := zX c3; clear c3; obtain rfl := yM H; go_enter Try.func78, Try.ntmps78; go_wp2; go_ret; exact ⟨by first | rfl | (simp; done) | (simp [*]; done) | (simp [bne]; done), by repeat (first | exact Drawn0.refl _ | apply Drawn0.step)⟩
 ·rw [if_neg c3] at H
  have c3b0 : decide ((wrap64 (a1 - (l0.length : Int))) < 0) = false := decide_eq_false c3; clear c3; obtain rfl := yM H; go_enter Try.func78, Try.ntmps78; go_wp2; go_ret; exact ⟨by first | rfl | (simp; done) | (simp [*]; done) | (simp [bne]; done), by repeat (first | exact Drawn0.refl _ | apply Drawn0.step)⟩
def laws_szPage.f (k : Nat) (l0_0 : List ByteArray) (l0_1 : List ByteArray) (l0_2 : List Int) (a1 : Int) : Option (Int) := (laws_szStringS.f k l0_0 a1).bind fun t10 => (if t10 < 0 then (some (-1)) else ((laws_szStringS.f k l0_1 t10).bind fun t11 => (if t11 < 0 then (some (-1)) else ((laws_szIntS.f l0_2 t11).bind fun t12 => (if t12 < 0 then (some (-1)) else (some t12))))))
theorem laws_szPage.calls (k : Nat) (A0_0 : Option Addr) (c0_0 : Nat) (l0_0 : List ByteArray) (A0_1 : Option Addr) (c0_1 : Nat) (l0_1 : List ByteArray) (A0_2 : Option Addr) (c0_2 : Nat) (l0_2 : List Int) (a1 : Int) (r : Int) (w : World) (hr0_0 : Kd.C Kd.string w A0_0 l0_0.length l0_0) (hc0_0 : l0_0.length ≤ c0_0) (hr0_1 : Kd.C Kd.string w A0_1 l0_1.length l0_1) (hc0_1 : l0_1.length ≤ c0_1) (hr0_2 : Kd.C (Kd.int .i64) w A0_2 l0_2.length l0_2) (hc0_2 : l0_2.length ≤ c0_2) (h : laws_szPage.f k l0_0 l0_1 l0_2 a1 = some r) :
  Calls Try.prog 53 #[.agg #[.slice A0_0 l0_0.length c0_0, .slice A0_1 l0_1.length c0_1, .slice A0_2 l0_2.length c0_2], .int .i64 a1] w fun e w' => e = .returned (.int .i64 r) ∧ Below w.heap.size w w' := by
 have hu87 := Try.underlying87; have HR0_0 := zA hr0_0; have HC0_0 := zA hc0_0; clear hr0_0 hc0_0; have HR0_1 := zA hr0_1; have HC0_1 := zA hc0_1; clear hr0_1 hc0_1; have HR0_2 := zA hr0_2; have HC0_2 := zA hc0_2; clear hr0_2 hc0_2; have HB := zA (Below.refl w.heap.size w); have H : ((laws_szStringS.f k l0_0 a1).bind fun t17 => (if t17 < 0 then (some (-1)) else ((laws_szStringS.f k l0_1 t17).bind fun t18 => (if t18 < 0 then (some (-1)) else ((laws_szIntS.f l0_2 t18).bind fun t19 => (if t19 < 0 then (some (-1)) else (some t19))))))) = some r := h; clear h; replace H := zAF H; obtain ⟨t17, A30, H⟩ := H; replace H : (if t17 < 0 then (some (-1)) else ((laws_szStringS.f k l0_1 t17).bind fun t18 => (if t18 < 0 then (some (-1)) else ((laws_szIntS.f l0_2 t18).bind fun t19 => (if t19 < 0 then (some (-1)) else (some t19)))))) = some r := H; have A3 := zA A30; clear A30
 by_cases c4 : t17 < 0
 ·rw [if_pos c4] at H
  have c4b0 : decide (t17 < 0) = true := zX c4; clear c4; obtain rfl := yM H; go_enter Try.func53, Try.ntmps53; go_wp2_with (first | ((with_reducible refine gate_dst (N := 2) rfl ?_); refine box_event ?hg (N := 2) ?hd (cs := #[.slice A0_0 l0_0.length c0_0, .slice A0_1 l0_1.length c0_1, .slice A0_2 l0_2.length c0_2]) (t := 87) ?hr ?_; (case hd => rfl); (case hg => rfl); (case hr => first | (go_simp; done) | (go_simp; rfl)); intro gb20 hg w5 hbox hb; have n0_ := zA (zAD HB.out hb); have n1_ := zA (hbox); have n2_ := zA ((by rw [hg]; exact (zAE HB.out) : w.heap.size ≤ gb20)); have n3_ := zA ((by rw [hg]; exact (zAE HB.out) : w.heap.size ≤ gb20)); clear HB; have HB := n0_; have BK20 := n1_; have GW20 := n2_; have GE20 := n3_; clear n0_ n1_ n2_ n3_; clear hb hbox hg; have hcz6_0 := yL BK20.out 0 (.slice A0_0 l0_0.length c0_0) rfl; have hcz6_1 := yL BK20.out 1 (.slice A0_1 l0_1.length c0_1) rfl; have hcz6_2 := yL BK20.out 2 (.slice A0_2 l0_2.length c0_2) rfl; have hfz6_0 := zO BK20.out 0; have hfz6_1 := zO BK20.out 1; have hfz6_2 := zO BK20.out 2) | ((with_reducible refine yB (f := 77) rfl ?_); refine goesL_ (some 8) rfl rfl Try.func77 (by kernel_rfl) rfl #[.slice A0_0 l0_0.length c0_0, .int .i64 a1] rfl (by (try simp only [zAA, zAB, zAC]); first | done | rfl | (simp only [zZ, zY]; rfl)) ?_; (with_reducible refine (laws_szStringS.calls k _ _ l0_0 a1 t17 _ ?side1 ?side2 A3.out).mono ?_); (case side1 => repeat (first | exact (yN HR0_0.out HB.out) | (with_reducible first | refine zT ?_ _ | refine zU ?_ _ | refine zV ?_))); (case side2 => exact HC0_0.out); rintro e w' ⟨rfl, ⟨nd, rfl⟩⟩; refine ⟨_, rfl, ?_⟩)); go_ret; exact ⟨by first | rfl | (simp <;> rfl) | (simp [*] <;> rfl), by repeat (first | (with_reducible first | exact HB.out | apply zH | apply zF | apply zG | refine zI ?_ GE20.out) | exact HB.out)⟩
 ·rw [if_neg c4] at H
  have c4b0 : decide (t17 < 0) = false := decide_eq_false c4; clear c4; replace H := zAF H; obtain ⟨t18, A70, H⟩ := H; replace H : (if t18 < 0 then (some (-1)) else ((laws_szIntS.f l0_2 t18).bind fun t19 => (if t19 < 0 then (some (-1)) else (some t19)))) = some r := H; have A7 := zA A70; clear A70
  by_cases c8 : t18 < 0
  ·rw [if_pos c8] at H
   have c8b0 : decide (t18 < 0) = true := zX c8; clear c8; obtain rfl := yM H; go_enter Try.func53, Try.ntmps53; go_wp2_with (first | ((with_reducible refine gate_dst (N := 2) rfl ?_); refine box_event ?hg (N := 2) ?hd (cs := #[.slice A0_0 l0_0.length c0_0, .slice A0_1 l0_1.length c0_1, .slice A0_2 l0_2.length c0_2]) (t := 87) ?hr ?_; (case hd => rfl); (case hg => rfl); (case hr => first | (go_simp; done) | (go_simp; rfl)); intro gb20 hg w9 hbox hb; have n0_ := zA (zAD (by (with_reducible repeat first | exact HB.out | apply zH | apply zF | apply zG) <;> exact HB.out) hb); have n1_ := zA (hbox); have n2_ := zA ((by rw [hg]; exact (zAE HB.out) : w.heap.size ≤ gb20)); have n3_ := zA ((by rw [hg]; exact (zAE HB.out) : w.heap.size ≤ gb20)); clear HB; have HB := n0_; have BK20 := n1_; have GW20 := n2_; have GE20 := n3_; clear n0_ n1_ n2_ n3_; clear hb hbox hg; have hcz10_0 := yL BK20.out 0 (.slice A0_0 l0_0.length c0_0) rfl; have hcz10_1 := yL BK20.out 1 (.slice A0_1 l0_1.length c0_1) rfl; have hcz10_2 := yL BK20.out 2 (.slice A0_2 l0_2.length c0_2) rfl; have hfz10_0 := zO BK20.out 0; have hfz10_1 := zO BK20.out 1; have hfz10_2 := zO BK20.out 2) | ((with_reducible refine yB (f := 77) rfl ?_); refine goesL_ (some 8) rfl rfl Try.func77 (by kernel_rfl) rfl #[.slice A0_0 l0_0.length c0_0, .int .i64 a1] rfl (by (try simp only [zAA, zAB, zAC]); first | done | rfl | (simp only [zZ, zY]; rfl)) ?_; (with_reducible refine (laws_szStringS.calls k _ _ l0_0 a1 t17 _ ?side1 ?side2 A3.out).mono ?_); (case side1 => exact (yN HR0_0.out HB.out)); (case side2 => exact HC0_0.out); rintro e w' ⟨rfl, ⟨nd, rfl⟩⟩; refine ⟨_, rfl, ?_⟩) | ((with_reducible refine yB (f := 77) rfl ?_); refine goesL_ (some 14) rfl rfl Try.func77 (by kernel_rfl) rfl #[.slice A0_1 l0_1.length c0_1, .int .i64 t17] rfl (by (try simp only [zAA, zAB, zAC]); first | done | rfl | (simp only [zZ, zY]; rfl)) ?_; (with_reducible refine (laws_szStringS.calls k _ _ l0_1 t17 t18 _ ?side1 ?side2 A7.out).mono ?_); (case side1 => repeat (first | exact (yN HR0_1.out (by repeat (first | (with_reducible first | exact HB.out | apply zH | apply zF | apply zG | refine zI ?_ GE20.out) | exact HB.out))) | (with_reducible first | refine zT ?_ _ | refine zU ?_ _ | refine zV ?_))); (case side2 => exact HC0_1.out); rintro e w' ⟨rfl, ⟨nd, rfl⟩⟩; refine ⟨_, rfl, ?_⟩)); go_ret; exact ⟨by first | rfl | (simp <;> rfl) | (simp [*] <;> rfl), by repeat (first | (with_reducible first | exact HB.out | apply zH | apply zF | apply zG | refine zI ?_ GE20.out) | exact HB.out)⟩
  ·rw [if_neg c8] at H
   have c8b0 : decide (t18 < 0) = false := decide_eq_false c8; clear c8; replace H := zAF H; obtain ⟨t19, A21, H⟩ := H; replace H : (if t19 < 0 then (some (-1)) else (some t19)) = some r := H; have A11 := zA A21; clear A21
   by_cases c12 : t19 < 0
   ·rw [if_pos c12] at H
    have c12b0 : decide (t19 < 0) = true := zX c12; clear c12; obtain rfl := yM H; go_enter Try.func53, Try.ntmps53; go_wp2_with (first | ((with_reducible refine gate_dst (N := 2) rfl ?_); refine box_event ?hg (N := 2) ?hd (cs := #[.slice A0_0 l0_0.length c0_0, .slice A0_1 l0_1.length c0_1, .slice A0_2 l0_2.length c0_2]) (t := 87) ?hr ?_; (case hd => rfl); (case hg => rfl); (case hr => first | (go_simp; done) | (go_simp; rfl)); intro gb20 hg w13 hbox hb; have n0_ := zA (zAD (by (with_reducible repeat first | exact HB.out | apply zH | apply zF | apply zG) <;> exact HB.out) hb); have n1_ := zA (hbox); have n2_ := zA ((by rw [hg]; exact (zAE HB.out) : w.heap.size ≤ gb20)); have n3_ := zA ((by rw [hg]; exact (zAE HB.out) : w.heap.size ≤ gb20)); clear HB; have HB := n0_; have BK20 := n1_; have GW20 := n2_; have GE20 := n3_; clear n0_ n1_ n2_ n3_; clear hb hbox hg; have hcz14_0 := yL BK20.out 0 (.slice A0_0 l0_0.length c0_0) rfl; have hcz14_1 := yL BK20.out 1 (.slice A0_1 l0_1.length c0_1) rfl; have hcz14_2 := yL BK20.out 2 (.slice A0_2 l0_2.length c0_2) rfl; have hfz14_0 := zO BK20.out 0; have hfz14_1 := zO BK20.out 1; have hfz14_2 := zO BK20.out 2) | ((with_reducible refine yB (f := 77) rfl ?_); refine goesL_ (some 8) rfl rfl Try.func77 (by kernel_rfl) rfl #[.slice A0_0 l0_0.length c0_0, .int .i64 a1] rfl (by (try simp only [zAA, zAB, zAC]); first | done | rfl | (simp only [zZ, zY]; rfl)) ?_; (with_reducible refine (laws_szStringS.calls k _ _ l0_0 a1 t17 _ ?side1 ?side2 A3.out).mono ?_); (case side1 => exact (yN HR0_0.out HB.out)); (case side2 => exact HC0_0.out); rintro e w' ⟨rfl, ⟨nd, rfl⟩⟩; refine ⟨_, rfl, ?_⟩) | ((with_reducible refine yB (f := 77) rfl ?_); refine goesL_ (some 14) rfl rfl Try.func77 (by kernel_rfl) rfl #[.slice A0_1 l0_1.length c0_1, .int .i64 t17] rfl (by (try simp only [zAA, zAB, zAC]); first | done | rfl | (simp only [zZ, zY]; rfl)) ?_; (with_reducible refine (laws_szStringS.calls k _ _ l0_1 t17 t18 _ ?side1 ?side2 A7.out).mono ?_); (case side1 => repeat (first | exact (yN HR0_1.out (by repeat (first | (with_reducible first | exact HB.out | apply zH | apply zF | apply zG | refine zI ?_ GE20.out) | exact HB.out))) | (with_reducible first | refine zT ?_ _ | refine zU ?_ _ | refine zV ?_))); (case side2 => exact HC0_1.out); rintro e w' ⟨rfl, ⟨nd, rfl⟩⟩; refine ⟨_, rfl, ?_⟩) | ((with_reducible refine yB (f := 78) rfl ?_); refine goesL_ (some 20) rfl rfl Try.func78 (by kernel_rfl) rfl #[.slice A0_2 l0_2.length c0_2, .int .i64 t18] rfl (by (try simp only [zAA, zAB, zAC]); first | done | rfl | (simp only [zZ, zY]; rfl)) ?_; (with_reducible refine (laws_szIntS.calls _ _ l0_2 t18 t19 _ ?side1 ?side2 A11.out).mono ?_); (case side1 => repeat (first | exact (yN HR0_2.out (by repeat (first | (with_reducible first | exact HB.out | apply zH | apply zF | apply zG | refine zI ?_ GE20.out) | exact HB.out))) | (with_reducible first | refine zT ?_ _ | refine zU ?_ _ | refine zV ?_))); (case side2 => exact HC0_2.out); rintro e w' ⟨rfl, ⟨nd, rfl⟩⟩; refine ⟨_, rfl, ?_⟩)); go_ret; exact ⟨by first | rfl | (simp <;> rfl) | (simp [*] <;> rfl), by repeat (first | (with_reducible first | exact HB.out | apply zH | apply zF | apply zG | refine zI ?_ GE20.out) | exact HB.out)⟩
   ·rw [if_neg c12] at H
    have c12b0 : decide (t19 < 0) = false := decide_eq_false c12; clear c12; obtain rfl := yM H; go_enter Try.func53, Try.ntmps53; go_wp2_with (first | ((with_reducible refine gate_dst (N := 2) rfl ?_); refine box_event ?hg (N := 2) ?hd (cs := #[.slice A0_0 l0_0.length c0_0, .slice A0_1 l0_1.length c0_1, .slice A0_2 l0_2.length c0_2]) (t := 87) ?hr ?_; (case hd => rfl); (case hg => rfl); (case hr => first | (go_simp; done) | (go_simp; rfl)); intro gb20 hg w15 hbox hb; have n0_ := zA (zAD (by (with_reducible repeat first | exact HB.out | apply zH | apply zF | apply zG) <;> exact HB.out) hb); have n1_ := zA (hbox); have n2_ := zA ((by rw [hg]; exact (zAE (by (with_reducible repeat first | exact HB.out | apply zH | apply zF | apply zG) <;> exact HB.out)) : w.heap.size ≤ gb20)); have n3_ := zA ((by rw [hg]; exact (zAE (by (with_reducible repeat first | exact HB.out | apply zH | apply zF | apply zG) <;> exact HB.out)) : w.heap.size ≤ gb20)); clear HB; have HB := n0_; have BK20 := n1_; have GW20 := n2_; have GE20 := n3_; clear n0_ n1_ n2_ n3_; clear hb hbox hg; have hcz16_0 := yL BK20.out 0 (.slice A0_0 l0_0.length c0_0) rfl; have hcz16_1 := yL BK20.out 1 (.slice A0_1 l0_1.length c0_1) rfl; have hcz16_2 := yL BK20.out 2 (.slice A0_2 l0_2.length c0_2) rfl; have hfz16_0 := zO BK20.out 0; have hfz16_1 := zO BK20.out 1; have hfz16_2 := zO BK20.out 2) | ((with_reducible refine yB (f := 77) rfl ?_); refine goesL_ (some 8) rfl rfl Try.func77 (by kernel_rfl) rfl #[.slice A0_0 l0_0.length c0_0, .int .i64 a1] rfl (by (try simp only [zAA, zAB, zAC]); first | done | rfl | (simp only [zZ, zY]; rfl)) ?_; (with_reducible refine (laws_szStringS.calls k _ _ l0_0 a1 t17 _ ?side1 ?side2 A3.out).mono ?_); (case side1 => repeat (first | exact (yN HR0_0.out HB.out) | (with_reducible first | refine zT ?_ _ | refine zU ?_ _ | refine zV ?_))); (case side2 => exact HC0_0.out); rintro e w' ⟨rfl, ⟨nd, rfl⟩⟩; refine ⟨_, rfl, ?_⟩) | ((with_reducible refine yB (f := 77) rfl ?_); refine goesL_ (some 14) rfl rfl Try.func77 (by kernel_rfl) rfl #[.slice A0_1 l0_1.length c0_1, .int .i64 t17] rfl (by (try simp only [zAA, zAB, zAC]); first | done | rfl | (simp only [zZ, zY]; rfl)) ?_; (with_reducible refine (laws_szStringS.calls k _ _ l0_1 t17 t18 _ ?side1 ?side2 A7.out).mono ?_); (case side1 => repeat (first | exact (yN HR0_1.out (by repeat (first | (with_reducible first | exact HB.out | apply zH | apply zF | apply zG | refine zI ?_ GE20.out) | exact HB.out))) | (with_reducible first | refine zT ?_ _ | refine zU ?_ _ | refine zV ?_))); (case side2 => exact HC0_1.out); rintro e w' ⟨rfl, ⟨nd, rfl⟩⟩; refine ⟨_, rfl, ?_⟩) | ((with_reducible refine yB (f := 78) rfl ?_); refine goesL_ (some 20) rfl rfl Try.func78 (by kernel_rfl) rfl #[.slice A0_2 l0_2.length c0_2, .int .i64 t18] rfl (by (try simp only [zAA, zAB, zAC]); first | done | rfl | (simp only [zZ, zY]; rfl)) ?_; (with_reducible refine (laws_szIntS.calls _ _ l0_2 t18 t19 _ ?side1 ?side2 A11.out).mono ?_); (case side1 => repeat (first | exact (yN HR0_2.out (by repeat (first | (with_reducible first | exact HB.out | apply zH | apply zF | apply zG | refine zI ?_ GE20.out) | exact HB.out))) | (with_reducible first | refine zT ?_ _ | refine zU ?_ _ | refine zV ?_))); (case side2 => exact HC0_2.out); rintro e w' ⟨rfl, ⟨nd, rfl⟩⟩; refine ⟨_, rfl, ?_⟩)); go_ret; exact ⟨by first | rfl | (simp <;> rfl) | (simp [*] <;> rfl), by repeat (first | (with_reducible first | exact HB.out | apply zH | apply zF | apply zG | refine zI ?_ GE20.out) | exact HB.out)⟩
def laws_szPageS.l0 : Nat → List (S87) → Int → Int → Option (Int)
 | 0, _, _, _ => none
 | k + 1, x0, x1, x5 => if x5 < (x0.length : Int) then (if 0 ≤ x5 then ((laws_szPage.f k ((rd_T87 x0 x5).f0) ((rd_T87 x0 x5).f1) ((rd_T87 x0 x5).f2) x1).bind fun t10 => (if t10 < 0 then (some (-1)) else (laws_szPageS.l0 k x0 t10 (wrap64 (x5 + 1))))) else (none)) else (some x1)
def laws_szPageS.f (k : Nat) (l0 : List (S87)) (a1 : Int) : Option (Int) := if (wrap64 (a1 - (l0.length : Int))) < 0 then (some (-1)) else (laws_szPageS.l0 k l0 (wrap64 (a1 - (l0.length : Int))) 0)
theorem laws_szPageS.calls (k : Nat) (A0 : Option Addr) (c0 : Nat) (l0 : List (S87)) (a1 : Int) (r : Int) (w : World) (hr0 : Kd.C k87 w A0 l0.length l0) (hc0 : l0.length ≤ c0) (h : laws_szPageS.f k l0 a1 = some r) :
  Calls Try.prog 22 #[.slice A0 l0.length c0, .int .i64 a1] w fun e w' => e = .returned (.int .i64 r) ∧ Below w.heap.size w w' := by
 have hu87 := Try.underlying87; have HR0 := zA hr0; have HC0 := zA hc0; clear hr0 hc0; have HB := zA (Below.refl w.heap.size w); have H : (if (wrap64 (a1 - (l0.length : Int))) < 0 then (some (-1)) else (laws_szPageS.l0 k l0 (wrap64 (a1 - (l0.length : Int))) 0)) = some r := h; clear h
 by_cases c3 : (wrap64 (a1 - (l0.length : Int))) < 0
 ·rw [if_pos c3] at H
  have c3b0 : decide ((wrap64 (a1 - (l0.length : Int))) < 0) = true := zX c3; clear c3; obtain rfl := yM H; go_enter Try.func22, Try.ntmps22; go_wp2; go_ret; exact ⟨by first | rfl | (simp <;> rfl) | (simp [*] <;> rfl), HB.out⟩
 ·rw [if_neg c3] at H
  have c3b0 : decide ((wrap64 (a1 - (l0.length : Int))) < 0) = false := decide_eq_false c3; clear c3; have H' := zA H; clear H; go_enter Try.func22, Try.ntmps22; go_wp2; go_loopg [1, 5] k (fun kq v1 v5 w' => ∃ (x1_1 : Int) (x5_1 : Int), v1 = .int .i64 x1_1 ∧ v5 = .int .i64 x5_1 ∧ Aside0 (laws_szPageS.l0 kq l0 x1_1 x5_1 = some r) ∧ Aside0 (kq ≤ k) ∧ Aside0 (Below w.heap.size w w'))
  case atStart => exact ⟨(wrap64 (a1 - (l0.length : Int))), (0), rfl, rfl, H', ⟨Nat.le_refl _⟩, ⟨HB.out⟩⟩
  case round =>
   clear H'
   try clear c2
   try clear p2
   try clear c3
   try clear c3b0
   obtain ⟨x1_1, x5_1, rfl, rfl, HA, HK1, HB⟩ := hrel
   cases gk with
   | zero => exact absurd HA.out (by simp [laws_szPageS.l0])
   | succ k1 =>
    have H := HA.out; clear HA; simp only [laws_szPageS.l0] at H
    by_cases c4 : x5_1 < (l0.length : Int)
    ·rw [if_pos c4] at H
     have c4b0 : decide (x5_1 < (l0.length : Int)) = true := zX c4; clear c4
     by_cases c5 : 0 ≤ x5_1
     ·rw [if_pos c5] at H
      have c5b0 : decide (0 ≤ x5_1) = true := zX c5; clear c5; replace H := zAF H; obtain ⟨t10, A60, H⟩ := H; replace H : (if t10 < 0 then (some (-1)) else (laws_szPageS.l0 k1 l0 t10 (wrap64 (x5_1 + 1)))) = some r := H; have A6 := zA A60; clear A60
      by_cases c7 : t10 < 0
      ·rw [if_pos c7] at H
       have c7b0 : decide (t10 < 0) = true := zX c7; clear c7; obtain rfl := yM H; have p11 : 0 ≤ (x5_1 : Int) := zW (by assumption); have q11 : x5_1 < (l0.length : Int) := zW (by assumption); obtain ⟨ad11, A11_0, c11_0, A11_1, c11_1, A11_2, c11_2, e11, hx11_0, hx11_1, hx11_2, hl11_0, hi11_0, hl11_1, hi11_1, hl11_2, hi11_2⟩ := at_T87 HR0.out x5_1 p11 q11
       cases e11
       replace hx11_0 := (HB.out.cell (zB w _ hx11_0)).trans hx11_0; replace hx11_1 := (HB.out.cell (zB w _ hx11_1)).trans hx11_1; replace hx11_2 := (HB.out.cell (zB w _ hx11_2)).trans hx11_2; have HR11_0 := zA hi11_0; have HC11_0 := zA hl11_0; clear hi11_0 hl11_0; have HR11_1 := zA hi11_1; have HC11_1 := zA hl11_1; clear hi11_1 hl11_1; have HR11_2 := zA hi11_2; have HC11_2 := zA hl11_2; clear hi11_2 hl11_2; replace p11 := eq_true p11; replace q11 := eq_true q11; go_wp2_with (first | ((with_reducible refine yB (f := 53) rfl ?_); refine goesL_ (some 23) rfl rfl Try.func53 (by kernel_rfl) rfl #[.agg #[.slice A11_0 ((rd_T87 l0 x5_1).f0).length c11_0, .slice A11_1 ((rd_T87 l0 x5_1).f1).length c11_1, .slice A11_2 ((rd_T87 l0 x5_1).f2).length c11_2], .int .i64 x1_1] rfl (by (try simp only [zAA, zAB, zAC]); first | done | rfl | (simp only [zZ, zY]; rfl)) ?_; (with_reducible refine (laws_szPage.calls k1 _ _ ((rd_T87 l0 x5_1).f0) _ _ ((rd_T87 l0 x5_1).f1) _ _ ((rd_T87 l0 x5_1).f2) x1_1 t10 _ ?side1 ?side2 ?side3 ?side4 ?side5 ?side6 A6.out).mono ?_); (case side1 => exact (yN HR11_0.out HB.out)); (case side2 => exact HC11_0.out); (case side3 => exact (yN HR11_1.out HB.out)); (case side4 => exact HC11_1.out); (case side5 => exact (yN HR11_2.out HB.out)); (case side6 => exact HC11_2.out); rintro e w8 ⟨rfl, hb⟩; refine ⟨_, rfl, ?_⟩; have n0_ := zA (zAD HB.out hb); clear HB; have HB := n0_; clear n0_; (try clear hb))); go_ret; exact ⟨by first | rfl | (simp <;> rfl) | (simp [*] <;> rfl), HB.out⟩
      ·rw [if_neg c7] at H
       have c7b0 : decide (t10 < 0) = false := decide_eq_false c7; clear c7; have H' := zA H; clear H; have p11 : 0 ≤ (x5_1 : Int) := zW (by assumption); have q11 : x5_1 < (l0.length : Int) := zW (by assumption); obtain ⟨ad11, A11_0, c11_0, A11_1, c11_1, A11_2, c11_2, e11, hx11_0, hx11_1, hx11_2, hl11_0, hi11_0, hl11_1, hi11_1, hl11_2, hi11_2⟩ := at_T87 HR0.out x5_1 p11 q11
       cases e11
       replace hx11_0 := (HB.out.cell (zB w _ hx11_0)).trans hx11_0; replace hx11_1 := (HB.out.cell (zB w _ hx11_1)).trans hx11_1; replace hx11_2 := (HB.out.cell (zB w _ hx11_2)).trans hx11_2; have HR11_0 := zA hi11_0; have HC11_0 := zA hl11_0; clear hi11_0 hl11_0; have HR11_1 := zA hi11_1; have HC11_1 := zA hl11_1; clear hi11_1 hl11_1; have HR11_2 := zA hi11_2; have HC11_2 := zA hl11_2; clear hi11_2 hl11_2; replace p11 := eq_true p11; replace q11 := eq_true q11; go_wp2_with (first | ((with_reducible refine yB (f := 53) rfl ?_); refine goesL_ (some 23) rfl rfl Try.func53 (by kernel_rfl) rfl #[.agg #[.slice A11_0 ((rd_T87 l0 x5_1).f0).length c11_0, .slice A11_1 ((rd_T87 l0 x5_1).f1).length c11_1, .slice A11_2 ((rd_T87 l0 x5_1).f2).length c11_2], .int .i64 x1_1] rfl (by (try simp only [zAA, zAB, zAC]); first | done | rfl | (simp only [zZ, zY]; rfl)) ?_; (with_reducible refine (laws_szPage.calls k1 _ _ ((rd_T87 l0 x5_1).f0) _ _ ((rd_T87 l0 x5_1).f1) _ _ ((rd_T87 l0 x5_1).f2) x1_1 t10 _ ?side1 ?side2 ?side3 ?side4 ?side5 ?side6 A6.out).mono ?_); (case side1 => exact (yN HR11_0.out HB.out)); (case side2 => exact HC11_0.out); (case side3 => exact (yN HR11_1.out HB.out)); (case side4 => exact HC11_1.out); (case side5 => exact (yN HR11_2.out HB.out)); (case side6 => exact HC11_2.out); rintro e w9 ⟨rfl, hb⟩; refine ⟨_, rfl, ?_⟩; have n0_ := zA (zAD HB.out hb); clear HB; have HB := n0_; clear n0_; (try clear hb))); go_roundg k1
       case measure => have := HK1.out; omega
       case rel => exact ⟨(t10), (wrap64 (x5_1 + 1)), rfl, rfl, H', ⟨by have := HK1.out; omega⟩, ⟨HB.out⟩⟩
     ·rw [if_neg c5] at H
      exact absurd H (by simp)
    ·rw [if_neg c4] at H
     have c4b0 : decide (x5_1 < (l0.length : Int)) = false := decide_eq_false c4; clear c4; obtain rfl := yM H; go_wp2; go_ret; exact ⟨by first | rfl | (simp <;> rfl) | (simp [*] <;> rfl), HB.out⟩
def laws_szTree.f (k : Nat) (l0_0 : List (S87)) (a1 : Int) : Option (Int) := (laws_szPageS.f k l0_0 a1).bind fun t10 => (if t10 < 0 then (some (-1)) else (some t10))
theorem laws_szTree.calls (k : Nat) (A0_0 : Option Addr) (c0_0 : Nat) (l0_0 : List (S87)) (a1 : Int) (r : Int) (w : World) (hr0_0 : Kd.C k87 w A0_0 l0_0.length l0_0) (hc0_0 : l0_0.length ≤ c0_0) (h : laws_szTree.f k l0_0 a1 = some r) :
  Calls Try.prog 6 #[.agg #[.slice A0_0 l0_0.length c0_0], .int .i64 a1] w fun e w' => e = .returned (.int .i64 r) ∧ Below w.heap.size w w' := by
 have hu24 := Try.underlying24; have HR0_0 := zA hr0_0; have HC0_0 := zA hc0_0; clear hr0_0 hc0_0; have HB := zA (Below.refl w.heap.size w); have H : ((laws_szPageS.f k l0_0 a1).bind fun t11 => (if t11 < 0 then (some (-1)) else (some t11))) = some r := h; clear h; replace H := zAF H; obtain ⟨t11, A30, H⟩ := H; replace H : (if t11 < 0 then (some (-1)) else (some t11)) = some r := H; have A3 := zA A30; clear A30
 by_cases c4 : t11 < 0
 ·rw [if_pos c4] at H
  have c4b0 : decide (t11 < 0) = true := zX c4; clear c4; obtain rfl := yM H; go_enter Try.func6, Try.ntmps6; go_wp2_with (first | ((with_reducible refine gate_dst (N := 2) rfl ?_); refine box_event ?hg (N := 2) ?hd (cs := #[.slice A0_0 l0_0.length c0_0]) (t := 24) ?hr ?_; (case hd => rfl); (case hg => rfl); (case hr => first | (go_simp; done) | (go_simp; rfl)); intro gb12 hg w5 hbox hb; have n0_ := zA (zAD HB.out hb); have n1_ := zA (hbox); have n2_ := zA ((by rw [hg]; exact (zAE HB.out) : w.heap.size ≤ gb12)); have n3_ := zA ((by rw [hg]; exact (zAE HB.out) : w.heap.size ≤ gb12)); clear HB; have HB := n0_; have BK12 := n1_; have GW12 := n2_; have GE12 := n3_; clear n0_ n1_ n2_ n3_; clear hb hbox hg; have hcz6_0 := yL BK12.out 0 (.slice A0_0 l0_0.length c0_0) rfl; have hfz6_0 := zO BK12.out 0) | ((with_reducible refine yB (f := 22) rfl ?_); refine goesL_ (some 8) rfl rfl Try.func22 (by kernel_rfl) rfl #[.slice A0_0 l0_0.length c0_0, .int .i64 a1] rfl (by (try simp only [zAA, zAB, zAC]); first | done | rfl | (simp only [zZ, zY]; rfl)) ?_; (with_reducible refine (laws_szPageS.calls k _ _ l0_0 a1 t11 _ ?side1 ?side2 A3.out).mono ?_); (case side1 => exact (yN HR0_0.out HB.out)); (case side2 => exact HC0_0.out); rintro e w7 ⟨rfl, hb⟩; refine ⟨_, rfl, ?_⟩; have n0_ := zA (yE BK12.out hb); have n1_ := zA (zAD HB.out hb); clear BK12; clear HB; have BK12 := n0_; have HB := n1_; clear n0_ n1_; (try clear hb))); go_ret; exact ⟨by first | rfl | (simp <;> rfl) | (simp [*] <;> rfl), HB.out⟩
 ·rw [if_neg c4] at H
  have c4b0 : decide (t11 < 0) = false := decide_eq_false c4; clear c4; obtain rfl := yM H; go_enter Try.func6, Try.ntmps6; go_wp2_with (first | ((with_reducible refine gate_dst (N := 2) rfl ?_); refine box_event ?hg (N := 2) ?hd (cs := #[.slice A0_0 l0_0.length c0_0]) (t := 24) ?hr ?_; (case hd => rfl); (case hg => rfl); (case hr => first | (go_simp; done) | (go_simp; rfl)); intro gb12 hg w8 hbox hb; have n0_ := zA (zAD HB.out hb); have n1_ := zA (hbox); have n2_ := zA ((by rw [hg]; exact (zAE HB.out) : w.heap.size ≤ gb12)); have n3_ := zA ((by rw [hg]; exact (zAE HB.out) : w.heap.size ≤ gb12)); clear HB; have HB := n0_; have BK12 := n1_; have GW12 := n2_; have GE12 := n3_; clear n0_ n1_ n2_ n3_; clear hb hbox hg; have hcz9_0 := yL BK12.out 0 (.slice A0_0 l0_0.length c0_0) rfl; have hfz9_0 := zO BK12.out 0) | ((with_reducible refine yB (f := 22) rfl ?_); refine goesL_ (some 8) rfl rfl Try.func22 (by kernel_rfl) rfl #[.slice A0_0 l0_0.length c0_0, .int .i64 a1] rfl (by (try simp only [zAA, zAB, zAC]); first | done | rfl | (simp only [zZ, zY]; rfl)) ?_; (with_reducible refine (laws_szPageS.calls k _ _ l0_0 a1 t11 _ ?side1 ?side2 A3.out).mono ?_); (case side1 => exact (yN HR0_0.out HB.out)); (case side2 => exact HC0_0.out); rintro e w10 ⟨rfl, hb⟩; refine ⟨_, rfl, ?_⟩; have n0_ := zA (yE BK12.out hb); have n1_ := zA (zAD HB.out hb); clear BK12; clear HB; have BK12 := n0_; have HB := n1_; clear n0_ n1_; (try clear hb))); go_ret; exact ⟨by first | rfl | (simp <;> rfl) | (simp [*] <;> rfl), HB.out⟩
def laws_toStringS.l0 : Nat → List ByteArray → List ByteArray → Int → Option (List ByteArray)
 | 0, _, _, _ => none
 | k + 1, x0, x3, x4 => if x4 < (x0.length : Int) then (if 0 ≤ x4 then (if x4 < (x3.length : Int) then (laws_toStringS.l0 k x0 (x3.set (x4 : Int).toNat (rdOf ByteArray.empty x0 x4)) (wrap64 (x4 + 1))) else (none)) else (none)) else (some x3)
def laws_toStringS.f (k : Nat) (l0 : List ByteArray) : Option (List ByteArray) := if 0 ≤ (l0.length : Int) then (if ((l0.length : Int) : Int).toNat ≤ 17592186044416 then (laws_toStringS.l0 k l0 (List.replicate ((l0.length : Int) : Int).toNat (⟨#[]⟩ : ByteArray)) 0) else (none)) else (none)
theorem laws_toStringS.calls (k : Nat) (A0 : Option Addr) (c0 : Nat) (l0 : List ByteArray) (r : List ByteArray) (w : World) (hr0 : Kd.C Kd.string w A0 l0.length l0) (hc0 : l0.length ≤ c0) (h : laws_toStringS.f k l0 = some r) :
  Calls Try.prog 82 #[.slice A0 l0.length c0] w fun e w' => ∃ v0_ : Value, e = .returned (v0_) ∧ Kd.R Kd.string 9 w' w.heap.size (fun _ => True) v0_ r ∧ Below w.heap.size w w' := by
 have HR0 := zA hr0; have HC0 := zA hc0; clear hr0 hc0; have HB := zA (Below.refl w.heap.size w); have H : (if 0 ≤ (l0.length : Int) then (if ((l0.length : Int) : Int).toNat ≤ 17592186044416 then (laws_toStringS.l0 k l0 (List.replicate ((l0.length : Int) : Int).toNat (⟨#[]⟩ : ByteArray)) 0) else (none)) else (none)) = some r := h; clear h
 by_cases c2 : 0 ≤ (l0.length : Int)
 ·rw [if_pos c2] at H
  have c2b0 := eq_true c2; have c2b1 : decide (0 ≤ (l0.length : Int)) = true := zX c2; clear c2
  by_cases c3 : ((l0.length : Int) : Int).toNat ≤ 17592186044416
  ·rw [if_pos c3] at H
   have c3b0 := eq_true c3; have c3b1 : decide (((l0.length : Int) : Int).toNat ≤ 17592186044416) = true := zX c3; clear c3; obtain ⟨y12, hy12⟩ : ∃ y_ : List ByteArray, y_ = (List.replicate ((l0.length : Int) : Int).toNat (⟨#[]⟩ : ByteArray)) := ⟨_, rfl⟩; replace H : (laws_toStringS.l0 k l0 y12 0) = some r := by first | (rw [hy12]; with_reducible exact H) | (have H2_ := (Option.bind_some _ _).symm.trans H; rw [hy12]; with_reducible exact H2_) | (have H2_ := (Option.bind_some _ _).symm.trans H; with_reducible exact H2_) | with_reducible exact H | (rw [hy12]; exact H) | exact H
   have Ny12 := zA hy12; clear hy12; have H' := zA H; clear H; go_enter Try.func82, Try.ntmps82; go_wp2_with (first | ((with_reducible refine gate_dst (N := 7) rfl ?_); refine Kd.R_make Kd.string _ 9 rfl (N := 7) rfl 41 _ _ rfl (l0.length : Int) rfl rfl Try.underlying41 (.string ⟨#[]⟩) 16 info9 rfl (by decide) (by omega) (⟨#[]⟩ : ByteArray) (ok := fun _ => True) (okp := fun _ => True) rfl (fun _ hk => hk) trivial (zW (by assumption)) (Nat.le_trans (Nat.mul_le_mul_right _ (zW (by assumption) : (l0.length : Int).toNat ≤ 17592186044416)) (by omega)) (Below.refl _ _) (Nat.le_refl _) ?_; intro v13 w4 ho5 hb hg_ hnew_; clear hg_ hnew_; (first | rw [← Ny12.out] at ho5 | (simp only [Int.reduceToNat] at ho5; rw [← Ny12.out] at ho5)); have n0_ := zA (Kd.R_lower ho5 (zAE HB.out)); have n1_ := zA (zAD HB.out hb); clear HB; have HO14 := n0_; have HB := n1_; clear n0_ n1_; clear hb ho5)); go_loopg [4] k (fun kq v4 w' => ∃ (x3_1 : List ByteArray) (x4_1 : Int), v4 = .int .i64 x4_1 ∧ Aside0 (laws_toStringS.l0 kq l0 x3_1 x4_1 = some r) ∧ Aside0 (kq ≤ k) ∧ Aside0 (Kd.R Kd.string 9 w' w.heap.size (fun _ => True) v13 x3_1) ∧ Aside0 (Below w.heap.size w w'))
   case atStart => exact ⟨(y12), (0), rfl, H', ⟨Nat.le_refl _⟩, ⟨by (with_reducible repeat first | apply zQ | apply zR | apply zS); exact HO14.out⟩, ⟨HB.out⟩⟩
   case round =>
    clear H'
    try clear c2
    try clear c2b0
    try clear c2b1
    try clear p2
    try clear c3
    try clear c3b0
    try clear c3b1
    obtain ⟨x3_1, x4_1, rfl, HA, HK1, HO_3, HB⟩ := hrel
    cases gk with
    | zero => exact absurd HA.out (by simp [laws_toStringS.l0])
    | succ k1 =>
     have H := HA.out; clear HA; simp only [laws_toStringS.l0] at H
     by_cases c6 : x4_1 < (l0.length : Int)
     ·rw [if_pos c6] at H
      have c6b0 : decide (x4_1 < (l0.length : Int)) = true := zX c6; clear c6
      by_cases c7 : 0 ≤ x4_1
      ·rw [if_pos c7] at H
       have c7b0 : decide (0 ≤ x4_1) = true := zX c7; clear c7
       by_cases c8 : x4_1 < (x3_1.length : Int)
       ·rw [if_pos c8] at H
        have c8b0 : decide (x4_1 < (x3_1.length : Int)) = true := zX c8; clear c8; obtain ⟨y15, hy15⟩ : ∃ y_ : List ByteArray, y_ = (x3_1.set (x4_1 : Int).toNat (rdOf ByteArray.empty l0 x4_1)) := ⟨_, rfl⟩; replace H : (laws_toStringS.l0 k1 l0 y15 (wrap64 (x4_1 + 1))) = some r := by first | (rw [hy15]; with_reducible exact H) | (have H2_ := (Option.bind_some _ _).symm.trans H; rw [hy15]; with_reducible exact H2_) | (have H2_ := (Option.bind_some _ _).symm.trans H; with_reducible exact H2_) | with_reducible exact H | (rw [hy15]; exact H) | exact H
        have Ny15 := zA hy15; clear hy15; have H' := zA H; clear H; have p16 : 0 ≤ (x4_1 : Int) := zW (by assumption); have q16 : x4_1 < (l0.length : Int) := zW (by assumption); obtain ⟨ad16, e16, hx16_0⟩ := Kd.at_string HR0.out x4_1 p16 q16
        cases e16
        replace hx16_0 := (HB.out.cell (zB w _ hx16_0)).trans hx16_0; replace p16 := eq_true p16; replace q16 := eq_true q16; have p9 : 0 ≤ (x4_1 : Int) := zW (by assumption); have q9 : (x4_1 : Int) < ((x3_1.length : Int) : Int) := zW (by assumption); obtain ⟨go9, co9, eo9, gb9, gl9, cl9, HG9⟩ := Kd.R_form HO_3.out (by omega); (first | cases eo9 | (injection eo9 with ea_ en_ ec_; (first | subst ea_ | (injection ea_ with ea_; subst ea_)); subst ec_; clear en_)); have GB9 := zA gb9; have GG9 := zA HG9; clear gb9 gl9 HG9; obtain ⟨hx9_0, hf9_0⟩ := Kd.R_celln (⟨#[]⟩ : ByteArray) HO_3.out (x4_1 : Int) p9 q9; replace p9 := eq_true p9; replace q9 := eq_true q9; have HP10 := Kd.R_putg HO_3.out (x4_1 : Int) (rdOf ByteArray.empty l0 x4_1); go_wp2_with (first | ((with_reducible refine gate_store (t := 9) (p := 20) rfl ?_); refine store_event (t := 9) (p := 20) (v := ?vo_w11) (w1 := (wr.setCell ⟨go9, (x4_1 : Int).toNat, none⟩ (.string (rdOf ByteArray.empty l0 x4_1)))) ?hg ?ho ?hn ?hr ?_; (case ho => rfl); (case hg => rfl); (case hn => rfl); (case hr => first | (go_simp; done) | (go_simp; rfl)); intro w11 hw; have hg : wr.grownBy w11 (some go9) := (by rw [hw]; exact HP10.2); have hp_ : Kd.R Kd.string 9 w11 w.heap.size (fun _ => True) (.slice (some ⟨go9, 0, none⟩) x3_1.length co9) y15 := (by rw [hw, Ny15.out]; exact HP10.1); clear HP10; have n0_ := zA (hp_); have n1_ := zA ((by rw [hw]; exact zI (HB.out) GB9.out : Below w.heap.size w w11)); clear HO_3; clear HB; have HO_3 := n0_; have HB := n1_; clear n0_ n1_; clear hg hw hp_)); go_roundg k1
        case measure => have := HK1.out; omega
        case rel => exact ⟨(y15), (wrap64 (x4_1 + 1)), rfl, H', ⟨by have := HK1.out; omega⟩, ⟨by (with_reducible repeat first | apply zQ | apply zR | apply zS); exact HO_3.out⟩, ⟨HB.out⟩⟩
       ·rw [if_neg c8] at H
        exact absurd H (by simp)
      ·rw [if_neg c7] at H
       exact absurd H (by simp)
     ·rw [if_neg c6] at H
      have c6b0 : decide (x4_1 < (l0.length : Int)) = false := decide_eq_false c6; clear c6; obtain rfl := yM H; go_wp2; go_ret; exact ⟨_, by first | rfl | (simp <;> rfl) | (simp [*] <;> rfl), by (with_reducible repeat first | apply zQ | apply zR | apply zS); exact HO_3.out, HB.out⟩
  ·rw [if_neg c3] at H
   exact absurd H (by simp)
 ·rw [if_neg c2] at H
  exact absurd H (by simp)
def laws_toIntS.l0 : Nat → List Int → List Int → Int → Option (List Int)
 | 0, _, _, _ => none
 | k + 1, x0, x3, x4 => if x4 < (x0.length : Int) then (if 0 ≤ x4 then (if x4 < (x3.length : Int) then (laws_toIntS.l0 k x0 (x3.set (x4 : Int).toNat (rd x0 x4)) (wrap64 (x4 + 1))) else (none)) else (none)) else (some x3)
def laws_toIntS.f (k : Nat) (l0 : List Int) : Option (List Int) := if 0 ≤ (l0.length : Int) then (if ((l0.length : Int) : Int).toNat ≤ 35184372088832 then (laws_toIntS.l0 k l0 (List.replicate ((l0.length : Int) : Int).toNat 0) 0) else (none)) else (none)
theorem laws_toIntS.calls (k : Nat) (A0 : Option Addr) (c0 : Nat) (l0 : List Int) (r : List Int) (w : World) (hr0 : Kd.C (Kd.int .i64) w A0 l0.length l0) (hc0 : l0.length ≤ c0) (h : laws_toIntS.f k l0 = some r) :
  Calls Try.prog 83 #[.slice A0 l0.length c0] w fun e w' => ∃ v0_ : Value, e = .returned (v0_) ∧ Kd.R (Kd.int .i64) 3 w' w.heap.size (fun _ => True) v0_ r ∧ Below w.heap.size w w' := by
 have HR0 := zA hr0; have HC0 := zA hc0; clear hr0 hc0; have HB := zA (Below.refl w.heap.size w); have H : (if 0 ≤ (l0.length : Int) then (if ((l0.length : Int) : Int).toNat ≤ 35184372088832 then (laws_toIntS.l0 k l0 (List.replicate ((l0.length : Int) : Int).toNat 0) 0) else (none)) else (none)) = some r := h; clear h
 by_cases c2 : 0 ≤ (l0.length : Int)
 ·rw [if_pos c2] at H
  have c2b0 := eq_true c2; have c2b1 : decide (0 ≤ (l0.length : Int)) = true := zX c2; clear c2
  by_cases c3 : ((l0.length : Int) : Int).toNat ≤ 35184372088832
  ·rw [if_pos c3] at H
   have c3b0 := eq_true c3; have c3b1 : decide (((l0.length : Int) : Int).toNat ≤ 35184372088832) = true := zX c3; clear c3; obtain ⟨y12, hy12⟩ : ∃ y_ : List Int, y_ = (List.replicate ((l0.length : Int) : Int).toNat 0) := ⟨_, rfl⟩; replace H : (laws_toIntS.l0 k l0 y12 0) = some r := by first | (rw [hy12]; with_reducible exact H) | (have H2_ := (Option.bind_some _ _).symm.trans H; rw [hy12]; with_reducible exact H2_) | (have H2_ := (Option.bind_some _ _).symm.trans H; with_reducible exact H2_) | with_reducible exact H | (rw [hy12]; exact H) | exact H
   have Ny12 := zA hy12; clear hy12; have H' := zA H; clear H; go_enter Try.func83, Try.ntmps83; go_wp2_with (first | ((with_reducible refine gate_dst (N := 7) rfl ?_); refine Kd.R_make (Kd.int .i64) _ 3 rfl (N := 7) rfl 44 _ _ rfl (l0.length : Int) rfl rfl Try.underlying44 (.int .i64 0) 8 info3 rfl (by decide) (by omega) 0 (ok := fun _ => True) (okp := fun _ => True) rfl (fun _ hk => hk) trivial (zW (by assumption)) (Nat.le_trans (Nat.mul_le_mul_right _ (zW (by assumption) : (l0.length : Int).toNat ≤ 35184372088832)) (by omega)) (Below.refl _ _) (Nat.le_refl _) ?_; intro v13 w4 ho5 hb hg_ hnew_; clear hg_ hnew_; (first | rw [← Ny12.out] at ho5 | (simp only [Int.reduceToNat] at ho5; rw [← Ny12.out] at ho5)); have n0_ := zA (Kd.R_lower ho5 (zAE HB.out)); have n1_ := zA (zAD HB.out hb); clear HB; have HO14 := n0_; have HB := n1_; clear n0_ n1_; clear hb ho5)); go_loopg [4] k (fun kq v4 w' => ∃ (x3_1 : List Int) (x4_1 : Int), v4 = .int .i64 x4_1 ∧ Aside0 (laws_toIntS.l0 kq l0 x3_1 x4_1 = some r) ∧ Aside0 (kq ≤ k) ∧ Aside0 (Kd.R (Kd.int .i64) 3 w' w.heap.size (fun _ => True) v13 x3_1) ∧ Aside0 (Below w.heap.size w w'))
   case atStart => exact ⟨(y12), (0), rfl, H', ⟨Nat.le_refl _⟩, ⟨by (with_reducible repeat first | apply zQ | apply zR | apply zS); exact HO14.out⟩, ⟨HB.out⟩⟩
   case round =>
    clear H'
    try clear c2
    try clear c2b0
    try clear c2b1
    try clear p2
    try clear c3
    try clear c3b0
    try clear c3b1
    obtain ⟨x3_1, x4_1, rfl, HA, HK1, HO_3, HB⟩ := hrel
    cases gk with
    | zero => exact absurd HA.out (by simp [laws_toIntS.l0])
    | succ k1 =>
     have H := HA.out; clear HA; simp only [laws_toIntS.l0] at H
     by_cases c6 : x4_1 < (l0.length : Int)
     ·rw [if_pos c6] at H
      have c6b0 : decide (x4_1 < (l0.length : Int)) = true := zX c6; clear c6
      by_cases c7 : 0 ≤ x4_1
      ·rw [if_pos c7] at H
       have c7b0 : decide (0 ≤ x4_1) = true := zX c7; clear c7
       by_cases c8 : x4_1 < (x3_1.length : Int)
       ·rw [if_pos c8] at H
        have c8b0 : decide (x4_1 < (x3_1.length : Int)) = true := zX c8; clear c8; obtain ⟨y15, hy15⟩ : ∃ y_ : List Int, y_ = (x3_1.set (x4_1 : Int).toNat (rd l0 x4_1)) := ⟨_, rfl⟩; replace H : (laws_toIntS.l0 k1 l0 y15 (wrap64 (x4_1 + 1))) = some r := by first | (rw [hy15]; with_reducible exact H) | (have H2_ := (Option.bind_some _ _).symm.trans H; rw [hy15]; with_reducible exact H2_) | (have H2_ := (Option.bind_some _ _).symm.trans H; with_reducible exact H2_) | with_reducible exact H | (rw [hy15]; exact H) | exact H
        have Ny15 := zA hy15; clear hy15; have H' := zA H; clear H; have p16 : 0 ≤ (x4_1 : Int) := zW (by assumption); have q16 : x4_1 < (l0.length : Int) := zW (by assumption); obtain ⟨ad16, e16, hx16_0⟩ := Kd.at_int HR0.out x4_1 p16 q16
        cases e16
        replace hx16_0 := (HB.out.cell (zB w _ hx16_0)).trans hx16_0; replace p16 := eq_true p16; replace q16 := eq_true q16; have p9 : 0 ≤ (x4_1 : Int) := zW (by assumption); have q9 : (x4_1 : Int) < ((x3_1.length : Int) : Int) := zW (by assumption); obtain ⟨go9, co9, eo9, gb9, gl9, cl9, HG9⟩ := Kd.R_form HO_3.out (by omega); (first | cases eo9 | (injection eo9 with ea_ en_ ec_; (first | subst ea_ | (injection ea_ with ea_; subst ea_)); subst ec_; clear en_)); have GB9 := zA gb9; have GG9 := zA HG9; clear gb9 gl9 HG9; obtain ⟨hx9_0, hf9_0⟩ := Kd.R_celln 0 HO_3.out (x4_1 : Int) p9 q9; replace p9 := eq_true p9; replace q9 := eq_true q9; have HP10 := Kd.R_putg HO_3.out (x4_1 : Int) (rd l0 x4_1); go_wp2_with (first | ((with_reducible refine gate_store (t := 3) (p := 20) rfl ?_); refine store_event (t := 3) (p := 20) (v := ?vo_w11) (w1 := (wr.setCell ⟨go9, (x4_1 : Int).toNat, none⟩ (.int .i64 (rd l0 x4_1)))) ?hg ?ho ?hn ?hr ?_; (case ho => rfl); (case hg => rfl); (case hn => rfl); (case hr => first | (go_simp; done) | (go_simp; rfl)); intro w11 hw; have hg : wr.grownBy w11 (some go9) := (by rw [hw]; exact HP10.2); have hp_ : Kd.R (Kd.int .i64) 3 w11 w.heap.size (fun _ => True) (.slice (some ⟨go9, 0, none⟩) x3_1.length co9) y15 := (by rw [hw, Ny15.out]; exact HP10.1); clear HP10; have n0_ := zA (hp_); have n1_ := zA ((by rw [hw]; exact zI (HB.out) GB9.out : Below w.heap.size w w11)); clear HO_3; clear HB; have HO_3 := n0_; have HB := n1_; clear n0_ n1_; clear hg hw hp_)); go_roundg k1
        case measure => have := HK1.out; omega
        case rel => exact ⟨(y15), (wrap64 (x4_1 + 1)), rfl, H', ⟨by have := HK1.out; omega⟩, ⟨by (with_reducible repeat first | apply zQ | apply zR | apply zS); exact HO_3.out⟩, ⟨HB.out⟩⟩
       ·rw [if_neg c8] at H
        exact absurd H (by simp)
      ·rw [if_neg c7] at H
       exact absurd H (by simp)
     ·rw [if_neg c6] at H
      have c6b0 : decide (x4_1 < (l0.length : Int)) = false := decide_eq_false c6; clear c6; obtain rfl := yM H; go_wp2; go_ret; exact ⟨_, by first | rfl | (simp <;> rfl) | (simp [*] <;> rfl), by (with_reducible repeat first | apply zQ | apply zR | apply zS); exact HO_3.out, HB.out⟩
  ·rw [if_neg c3] at H
   exact absurd H (by simp)
 ·rw [if_neg c2] at H
  exact absurd H (by simp)
def laws_toPage.f (k : Nat) (l0_0 : List ByteArray) (l0_1 : List ByteArray) (l0_2 : List Int) : Option (List ByteArray × List ByteArray × List Int) := (laws_toStringS.f k l0_0).bind fun t10 => ((laws_toStringS.f k l0_1).bind fun t11 => ((laws_toIntS.f k l0_2).bind fun t12 => (some (t10, t11, t12))))
theorem laws_toPage.calls (k : Nat) (A0_0 : Option Addr) (c0_0 : Nat) (l0_0 : List ByteArray) (A0_1 : Option Addr) (c0_1 : Nat) (l0_1 : List ByteArray) (A0_2 : Option Addr) (c0_2 : Nat) (l0_2 : List Int) (r1 : List ByteArray) (r2 : List ByteArray) (r3 : List Int) (w : World) (hr0_0 : Kd.C Kd.string w A0_0 l0_0.length l0_0) (hc0_0 : l0_0.length ≤ c0_0) (hr0_1 : Kd.C Kd.string w A0_1 l0_1.length l0_1) (hc0_1 : l0_1.length ≤ c0_1) (hr0_2 : Kd.C (Kd.int .i64) w A0_2 l0_2.length l0_2) (hc0_2 : l0_2.length ≤ c0_2) (h : laws_toPage.f k l0_0 l0_1 l0_2 = some (r1, r2, r3)) :
  Calls Try.prog 60 #[.agg #[.slice A0_0 l0_0.length c0_0, .slice A0_1 l0_1.length c0_1, .slice A0_2 l0_2.length c0_2]] w fun e w' => ∃ v0_ v1_ v2_ : Value, e = .returned (.agg #[v0_, v1_, v2_]) ∧ Kd.R Kd.string 9 w' w.heap.size (fun k_ => some k_ ≠ (v1_ : Value).ownBlock) v0_ r1 ∧ Kd.R Kd.string 9 w' w.heap.size (fun k_ => some k_ ≠ (v0_ : Value).ownBlock) v1_ r2 ∧ Kd.R (Kd.int .i64) 3 w' w.heap.size (fun _ => True) v2_ r3 ∧ Below w.heap.size w w' := by
 have hu87 := Try.underlying87; have hu97 := Try.underlying97; have HR0_0 := zA hr0_0; have HC0_0 := zA hc0_0; clear hr0_0 hc0_0; have HR0_1 := zA hr0_1; have HC0_1 := zA hc0_1; clear hr0_1 hc0_1; have HR0_2 := zA hr0_2; have HC0_2 := zA hc0_2; clear hr0_2 hc0_2; have HB := zA (Below.refl w.heap.size w); have H : ((laws_toStringS.f k l0_0).bind fun t24 => ((laws_toStringS.f k l0_1).bind fun t25 => ((laws_toIntS.f k l0_2).bind fun t26 => (some (t24, t25, t26))))) = some (r1, r2, r3) := h; clear h; replace H := zAF H; obtain ⟨t24, A20, H⟩ := H; replace H : ((laws_toStringS.f k l0_1).bind fun t25 => ((laws_toIntS.f k l0_2).bind fun t26 => (some (t24, t25, t26)))) = some (r1, r2, r3) := H; have A2 := zA A20; clear A20; replace H := zAF H; obtain ⟨t25, A30, H⟩ := H; replace H : ((laws_toIntS.f k l0_2).bind fun t26 => (some (t24, t25, t26))) = some (r1, r2, r3) := H; have A3 := zA A30; clear A30; replace H := zAF H; obtain ⟨t26, A40, H⟩ := H; replace H : (some (t24, t25, t26)) = some (r1, r2, r3) := H; have A4 := zA A40; clear A40; simp only [Option.some.injEq, Prod.mk.injEq] at H; obtain ⟨rfl, rfl, rfl⟩ := H; go_enter Try.func60, Try.ntmps60; go_wp2_with (first | ((with_reducible refine gate_dst (N := 1) rfl ?_); refine box_event ?hg (N := 1) ?hd (cs := #[.slice A0_0 l0_0.length c0_0, .slice A0_1 l0_1.length c0_1, .slice A0_2 l0_2.length c0_2]) (t := 87) ?hr ?_; (case hd => rfl); (case hg => rfl); (case hr => first | (go_simp; done) | (go_simp; rfl)); intro gb27 hg w5 hbox hb; have n0_ := zA (zAD HB.out hb); have n1_ := zA (hbox); have n2_ := zA ((by rw [hg]; exact (zAE HB.out) : w.heap.size ≤ gb27)); have n3_ := zA ((by rw [hg]; exact (zAE HB.out) : w.heap.size ≤ gb27)); clear HB; have HB := n0_; have BK27 := n1_; have GW27 := n2_; have GE27 := n3_; clear n0_ n1_ n2_ n3_; clear hb hbox hg) | ((with_reducible refine gate_dst (N := 2) rfl ?_); refine box_event ?hg (N := 2) ?hd (cs := #[.slice none 0 0, .slice none 0 0, .slice none 0 0]) (t := 97) ?hr ?_; (case hd => rfl); (case hg => rfl); (case hr => first | (go_simp; done) | (go_simp; rfl)); intro gb28 hg w6 hbox hb; have n0_ := zA (yE BK27.out hb); have n1_ := zA (zAD HB.out hb); have n2_ := zA (hbox); have n3_ := zA ((by rw [hg]; exact (zAE HB.out) : w.heap.size ≤ gb28)); have n4_ := zA ((by rw [hg]; exact (zAE HB.out) : w.heap.size ≤ gb28)); have n5_ := zA ((by rw [hg]; exact zK (blk_lt BK27.out) : gb27 ≠ gb28)); have n6_ := zA ((by rw [hg]; exact Nat.ne_of_gt (blk_lt BK27.out) : gb28 ≠ gb27)); clear BK27; clear HB; have BK27 := n0_; have HB := n1_; have BK28 := n2_; have GW28 := n3_; have GE28 := n4_; have NB27_28 := n5_; have NB28_27 := n6_; clear n0_ n1_ n2_ n3_ n4_ n5_ n6_; clear hb hbox hg) | ((with_reducible refine gate_dst (N := 3) rfl ?_); refine box_event ?hg (N := 3) ?hd (cs := #[.slice none 0 0, .slice none 0 0, .slice none 0 0]) (t := 97) ?hr ?_; (case hd => rfl); (case hg => rfl); (case hr => first | (go_simp; done) | (go_simp; rfl)); intro gb29 hg w7 hbox hb; have n0_ := zA (yE BK27.out hb); have n1_ := zA (yE BK28.out hb); have n2_ := zA (zAD HB.out hb); have n3_ := zA (hbox); have n4_ := zA ((by rw [hg]; exact (zAE HB.out) : w.heap.size ≤ gb29)); have n5_ := zA ((by rw [hg]; exact (zAE HB.out) : w.heap.size ≤ gb29)); have n6_ := zA ((by rw [hg]; exact zK (blk_lt BK27.out) : gb27 ≠ gb29)); have n7_ := zA ((by rw [hg]; exact Nat.ne_of_gt (blk_lt BK27.out) : gb29 ≠ gb27)); have n8_ := zA ((by rw [hg]; exact zK (blk_lt BK28.out) : gb28 ≠ gb29)); have n9_ := zA ((by rw [hg]; exact Nat.ne_of_gt (blk_lt BK28.out) : gb29 ≠ gb28)); clear BK27; clear BK28; clear HB; have BK27 := n0_; have BK28 := n1_; have HB := n2_; have BK29 := n3_; have GW29 := n4_; have GE29 := n5_; have NB27_29 := n6_; have NB29_27 := n7_; have NB28_29 := n8_; have NB29_28 := n9_; clear n0_ n1_ n2_ n3_ n4_ n5_ n6_ n7_ n8_ n9_; clear hb hbox hg; have hnb8 := NB27_28.out; have hnc8 := NB28_27.out; have hnb9 := NB27_29.out; have hnc9 := NB29_27.out; have hcz10_0 := yL BK27.out 0 (.slice A0_0 l0_0.length c0_0) rfl; have hcz10_1 := yL BK27.out 1 (.slice A0_1 l0_1.length c0_1) rfl; have hcz10_2 := yL BK27.out 2 (.slice A0_2 l0_2.length c0_2) rfl; have hfz10_0 := zO BK27.out 0; have hfz10_1 := zO BK27.out 1; have hfz10_2 := zO BK27.out 2) | ((with_reducible refine yB (f := 82) rfl ?_); refine goesL_ (some 6) rfl rfl Try.func82 (by kernel_rfl) rfl #[.slice A0_0 l0_0.length c0_0] rfl (by (try simp only [zAA, zAB, zAC]); first | done | rfl | (simp only [zZ, zY]; rfl)) ?_; (with_reducible refine (laws_toStringS.calls k _ _ l0_0 t24 _ ?side1 ?side2 A2.out).mono ?_); (case side1 => exact (yN HR0_0.out HB.out)); (case side2 => exact HC0_0.out); rintro e w11 ⟨v31, rfl, ho0, hb⟩; refine ⟨_, rfl, ?_⟩; have n0_ := zA (Kd.R_lower ho0 (zAE HB.out)); have n1_ := zA (yE BK27.out hb); have n2_ := zA (yE BK28.out hb); have n3_ := zA (yE BK29.out hb); have n4_ := zA (zAD HB.out hb); clear BK27; clear BK28; clear BK29; clear HB; have HO32 := n0_; have BK27 := n1_; have BK28 := n2_; have BK29 := n3_; have HB := n4_; clear n0_ n1_ n2_ n3_ n4_; (try clear hb); (try clear ho0); obtain ⟨Ao12, co12, eo12⟩ := Kd.R_slice HO32.out; subst eo12; have hnb13 := NB29_28.out; have hnc13 := NB28_29.out; have hcz14_0 := yL BK29.out 0 (.slice none 0 0) rfl; have hcz14_1 := yL BK29.out 1 (.slice none 0 0) rfl; have hcz14_2 := yL BK29.out 2 (.slice none 0 0) rfl; have hfz14_0 := zO BK29.out 0; have hfz14_1 := zO BK29.out 1; have hfz14_2 := zO BK29.out 2; have hcz15_0 := yL BK27.out 0 (.slice A0_0 l0_0.length c0_0) rfl; have hcz15_1 := yL BK27.out 1 (.slice A0_1 l0_1.length c0_1) rfl; have hcz15_2 := yL BK27.out 2 (.slice A0_2 l0_2.length c0_2) rfl; have hfz15_0 := zO BK27.out 0; have hfz15_1 := zO BK27.out 1; have hfz15_2 := zO BK27.out 2) | ((with_reducible refine yB (f := 82) rfl ?_); refine goesL_ (some 10) rfl rfl Try.func82 (by kernel_rfl) rfl #[.slice A0_1 l0_1.length c0_1] rfl (by (try simp only [zAA, zAB, zAC]); first | done | rfl | (simp only [zZ, zY]; rfl)) ?_; (with_reducible refine (laws_toStringS.calls k _ _ l0_1 t25 _ ?side1 ?side2 A3.out).mono ?_); (case side1 => exact yN HR0_1.out (by repeat (first | (with_reducible first | exact HB.out | apply zH | apply zF | apply zG | refine zI ?_ GE27.out | refine zI ?_ GE28.out | refine zI ?_ GE29.out) | exact HB.out))); (case side2 => exact HC0_1.out); rintro e w16 ⟨v33, rfl, ho0, hb⟩; refine ⟨_, rfl, ?_⟩; have n0_ := zA (yJ (by (with_reducible repeat first | apply zQ | apply zR | apply zS); exact (yC (Kd.R_far (p := ⟨gb29, 0, none⟩) (Kd.R_types HO32.out BK29.out (by decide)) (fun _ hk => hk.2) (.slice Ao12 t24.length co12)) (fun _ h_ => h_.1))) (Kd.R_base ho0) hb); have n1_ := zA (Kd.R_lower (yK ho0 (Kd.R_lt (by (with_reducible repeat first | apply zQ | apply zR | apply zS); exact (yC (Kd.R_far (p := ⟨gb29, 0, none⟩) (Kd.R_types HO32.out BK29.out (by decide)) (fun _ hk => hk.2) (.slice Ao12 t24.length co12)) (fun _ h_ => h_.1))))) (zAE (by repeat (first | (with_reducible first | exact HB.out | apply zH | apply zF | apply zG | refine zI ?_ GE27.out | refine zI ?_ GE28.out | refine zI ?_ GE29.out) | exact HB.out)))); have n2_ := zA (yE (g := gb27) (o := .cells #[.slice A0_0 l0_0.length c0_0, .slice A0_1 l0_1.length c0_1, .slice A0_2 l0_2.length c0_2] 87 (0, 0)) (by (with_reducible repeat (first | refine zL ?_ _ | refine zN ?_ | refine zM ?_ _)); refine blk_far ?_ NB27_29.out _; (with_reducible repeat (first | refine zL ?_ _ | refine zN ?_ | refine zM ?_ _)); exact BK27.out) hb); have n3_ := zA (yE (g := gb28) (o := .cells #[.slice none 0 0, .slice none 0 0, .slice none 0 0] 97 (0, 0)) (by (with_reducible repeat (first | refine zL ?_ _ | refine zN ?_ | refine zM ?_ _)); refine blk_far ?_ NB28_29.out _; (with_reducible repeat (first | refine zL ?_ _ | refine zN ?_ | refine zM ?_ _)); exact BK28.out) hb); have n4_ := zA (yE (g := gb29) (o := .cells #[.slice Ao12 t24.length co12, .slice none 0 0, .slice none 0 0] 97 (0, 0)) (by (with_reducible repeat (first | refine zL ?_ _ | refine zN ?_ | refine zM ?_ _)); refine blk_put (cs := #[.slice none 0 0, .slice none 0 0, .slice none 0 0]) ?_ 0 _ rfl; (with_reducible repeat (first | refine zL ?_ _ | refine zN ?_ | refine zM ?_ _)); exact BK29.out) hb); have n5_ := zA (zAD (by repeat (first | (with_reducible first | exact HB.out | apply zH | apply zF | apply zG | refine zI ?_ GE27.out | refine zI ?_ GE28.out | refine zI ?_ GE29.out) | exact HB.out)) hb); clear HO32; clear BK27; clear BK28; clear BK29; clear HB; have HO32 := n0_; have HO34 := n1_; have BK27 := n2_; have BK28 := n3_; have BK29 := n4_; have HB := n5_; clear n0_ n1_ n2_ n3_ n4_ n5_; (try clear hb); (try clear hk); (try clear ho0); obtain ⟨Ao17, co17, eo17⟩ := Kd.R_slice HO34.out; subst eo17; have hcz18_0 := yL BK29.out 0 (.slice Ao12 t24.length co12) rfl; have hcz18_1 := yL BK29.out 1 (.slice none 0 0) rfl; have hcz18_2 := yL BK29.out 2 (.slice none 0 0) rfl; have hfz18_0 := zO BK29.out 0; have hfz18_1 := zO BK29.out 1; have hfz18_2 := zO BK29.out 2; have hcz19_0 := yL BK27.out 0 (.slice A0_0 l0_0.length c0_0) rfl; have hcz19_1 := yL BK27.out 1 (.slice A0_1 l0_1.length c0_1) rfl; have hcz19_2 := yL BK27.out 2 (.slice A0_2 l0_2.length c0_2) rfl; have hfz19_0 := zO BK27.out 0; have hfz19_1 := zO BK27.out 1; have hfz19_2 := zO BK27.out 2) | ((with_reducible refine yB (f := 83) rfl ?_); refine goesL_ (some 14) rfl rfl Try.func83 (by kernel_rfl) rfl #[.slice A0_2 l0_2.length c0_2] rfl (by (try simp only [zAA, zAB, zAC]); first | done | rfl | (simp only [zZ, zY]; rfl)) ?_; (with_reducible refine (laws_toIntS.calls k _ _ l0_2 t26 _ ?side1 ?side2 A4.out).mono ?_); (case side1 => exact yN HR0_2.out (by repeat (first | (with_reducible first | exact HB.out | apply zH | apply zF | apply zG | refine zI ?_ GE27.out | refine zI ?_ GE28.out | refine zI ?_ GE29.out) | exact HB.out))); (case side2 => exact HC0_2.out); rintro e w20 ⟨v35, rfl, ho0, hb⟩; refine ⟨_, rfl, ?_⟩; have n0_ := zA (Kd.R_below (by (with_reducible repeat first | apply zQ | apply zR | apply zS); exact (yC (Kd.R_far (p := ⟨gb29, 1, none⟩) (Kd.R_types HO32.out BK29.out (by decide)) (fun _ hk => hk.2) (.slice Ao17 t25.length co17)) (fun _ h_ => h_.1))) hb); have n1_ := zA (Kd.R_below (by (with_reducible repeat first | apply zQ | apply zR | apply zS); exact (yC (Kd.R_far (p := ⟨gb29, 1, none⟩) (Kd.R_types HO34.out BK29.out (by decide)) (fun _ hk => hk.2) (.slice Ao17 t25.length co17)) (fun _ h_ => h_.1))) hb); have n2_ := zA (Kd.R_lower ho0 (zAE (by repeat (first | (with_reducible first | exact HB.out | apply zH | apply zF | apply zG | refine zI ?_ GE27.out | refine zI ?_ GE28.out | refine zI ?_ GE29.out) | exact HB.out)))); have n3_ := zA (yE (g := gb27) (o := .cells #[.slice A0_0 l0_0.length c0_0, .slice A0_1 l0_1.length c0_1, .slice A0_2 l0_2.length c0_2] 87 (0, 0)) (by (with_reducible repeat (first | refine zL ?_ _ | refine zN ?_ | refine zM ?_ _)); refine blk_far ?_ NB27_29.out _; (with_reducible repeat (first | refine zL ?_ _ | refine zN ?_ | refine zM ?_ _)); exact BK27.out) hb); have n4_ := zA (yE (g := gb28) (o := .cells #[.slice none 0 0, .slice none 0 0, .slice none 0 0] 97 (0, 0)) (by (with_reducible repeat (first | refine zL ?_ _ | refine zN ?_ | refine zM ?_ _)); refine blk_far ?_ NB28_29.out _; (with_reducible repeat (first | refine zL ?_ _ | refine zN ?_ | refine zM ?_ _)); exact BK28.out) hb); have n5_ := zA (yE (g := gb29) (o := .cells #[.slice Ao12 t24.length co12, .slice Ao17 t25.length co17, .slice none 0 0] 97 (0, 0)) (by (with_reducible repeat (first | refine zL ?_ _ | refine zN ?_ | refine zM ?_ _)); refine blk_put (cs := #[.slice Ao12 t24.length co12, .slice none 0 0, .slice none 0 0]) ?_ 1 _ rfl; (with_reducible repeat (first | refine zL ?_ _ | refine zN ?_ | refine zM ?_ _)); exact BK29.out) hb); have n6_ := zA (zAD (by repeat (first | (with_reducible first | exact HB.out | apply zH | apply zF | apply zG | refine zI ?_ GE27.out | refine zI ?_ GE28.out | refine zI ?_ GE29.out) | exact HB.out)) hb); clear HO32; clear HO34; clear BK27; clear BK28; clear BK29; clear HB; have HO32 := n0_; have HO34 := n1_; have HO36 := n2_; have BK27 := n3_; have BK28 := n4_; have BK29 := n5_; have HB := n6_; clear n0_ n1_ n2_ n3_ n4_ n5_ n6_; (try clear hb); (try clear hk); (try clear ho0); obtain ⟨Ao21, co21, eo21⟩ := Kd.R_slice HO36.out; subst eo21; have hcz22_0 := yL BK29.out 0 (.slice Ao12 t24.length co12) rfl; have hcz22_1 := yL BK29.out 1 (.slice Ao17 t25.length co17) rfl; have hcz22_2 := yL BK29.out 2 (.slice none 0 0) rfl; have hfz22_0 := zO BK29.out 0; have hfz22_1 := zO BK29.out 1; have hfz22_2 := zO BK29.out 2; have hcz23_0 := yL BK28.out 0 (.slice none 0 0) rfl; have hcz23_1 := yL BK28.out 1 (.slice none 0 0) rfl; have hcz23_2 := yL BK28.out 2 (.slice none 0 0) rfl; have hfz23_0 := zO BK28.out 0; have hfz23_1 := zO BK28.out 1; have hfz23_2 := zO BK28.out 2))
 refine bodyPost_ret (results_cell_row rfl _ _ gb28 97 #[.slice Ao12 t24.length co12, .slice Ao17 t25.length co17, .slice Ao21 t26.length co21] (0, 0) _ rfl (by (with_reducible repeat (first | refine zL ?_ _ | refine zN ?_ | refine zM ?_ _)); refine blk_put (cs := #[.slice Ao12 t24.length co12, .slice Ao17 t25.length co17, .slice none 0 0]) ?_ 2 _ rfl; (with_reducible repeat (first | refine zL ?_ _ | refine zN ?_ | refine zM ?_ _)); refine blk_put (cs := #[.slice Ao12 t24.length co12, .slice none 0 0, .slice none 0 0]) ?_ 1 _ rfl; (with_reducible repeat (first | refine zL ?_ _ | refine zN ?_ | refine zM ?_ _)); refine blk_put (cs := #[.slice none 0 0, .slice none 0 0, .slice none 0 0]) ?_ 0 _ rfl; (with_reducible repeat (first | refine zL ?_ _ | refine zN ?_ | refine zM ?_ _)); refine blk_far ?_ NB28_29.out _; (with_reducible repeat (first | refine zL ?_ _ | refine zN ?_ | refine zM ?_ _)); exact BK28.out) Try.underlying97 rfl (by kernel_rfl)) rfl ?_; exact ⟨_, _, _, by first | rfl | (simp <;> rfl) | (simp [*] <;> rfl), by (with_reducible repeat first | apply zQ | apply zR | apply zS); exact yC (Kd.R_far (p := ⟨gb28, 2, none⟩) (Kd.R_far (p := ⟨gb28, 1, none⟩) (Kd.R_far (p := ⟨gb28, 0, none⟩) (Kd.R_far (p := ⟨gb29, 2, none⟩) (Kd.R_types (Kd.R_types HO32.out BK29.out (by decide)) BK28.out (by decide)) (fun _ hk => hk.1.2) (.slice Ao21 t26.length co21)) (fun _ hk => hk.2) (.slice Ao12 t24.length co12)) (fun _ hk => hk.2) (.slice Ao17 t25.length co17)) (fun _ hk => hk.2) (.slice Ao21 t26.length co21)) (fun _ hk => hk.1.1.2), by (with_reducible repeat first | apply zQ | apply zR | apply zS); exact yC (Kd.R_far (p := ⟨gb28, 2, none⟩) (Kd.R_far (p := ⟨gb28, 1, none⟩) (Kd.R_far (p := ⟨gb28, 0, none⟩) (Kd.R_far (p := ⟨gb29, 2, none⟩) (Kd.R_types (Kd.R_types HO34.out BK29.out (by decide)) BK28.out (by decide)) (fun _ hk => hk.1.2) (.slice Ao21 t26.length co21)) (fun _ hk => hk.2) (.slice Ao12 t24.length co12)) (fun _ hk => hk.2) (.slice Ao17 t25.length co17)) (fun _ hk => hk.2) (.slice Ao21 t26.length co21)) (fun _ hk => hk.1.1.2), by (with_reducible repeat first | apply zQ | apply zR | apply zS); exact yC (Kd.R_far (p := ⟨gb28, 2, none⟩) (Kd.R_far (p := ⟨gb28, 1, none⟩) (Kd.R_far (p := ⟨gb28, 0, none⟩) (Kd.R_far (p := ⟨gb29, 2, none⟩) (Kd.R_types (Kd.R_types HO36.out BK29.out (by decide)) BK28.out (by decide)) (fun _ hk => hk.1.2) (.slice Ao21 t26.length co21)) (fun _ hk => hk.2) (.slice Ao12 t24.length co12)) (fun _ hk => hk.2) (.slice Ao17 t25.length co17)) (fun _ hk => hk.2) (.slice Ao21 t26.length co21)) (fun _ hk => trivial), by repeat (first | (with_reducible first | exact HB.out | apply zH | apply zF | apply zG | refine zI ?_ GE27.out | refine zI ?_ GE28.out | refine zI ?_ GE29.out) | exact HB.out)⟩
def laws_toPageS.l0 : Nat → List (S87) → List (S97) → Int → Option ((List (S97)))
 | 0, _, _, _ => none
 | k + 1, x0, x3, x4 => if x4 < (x0.length : Int) then (if 0 ≤ x4 then ((laws_toPage.f k ((rd_T87 x0 x4).f0) ((rd_T87 x0 x4).f1) ((rd_T87 x0 x4).f2)).bind fun bt10 => (if x4 < (x3.length : Int) then (laws_toPageS.l0 k x0 (x3.set (x4 : Int).toNat (⟨bt10.1, bt10.2.1, bt10.2.2⟩ : S97)) (wrap64 (x4 + 1))) else (none))) else (none)) else (some x3)
def laws_toPageS.f (k : Nat) (l0 : List (S87)) : Option ((List (S97))) := if 0 ≤ (l0.length : Int) then (if ((l0.length : Int) : Int).toNat ≤ 3909374676536 then (laws_toPageS.l0 k l0 (List.replicate ((l0.length : Int) : Int).toNat z97) 0) else (none)) else (none)
def laws_toTree.f (k : Nat) (l0_0 : List (S87)) : Option ((List (S97))) := (laws_toPageS.f k l0_0).bind fun t10 => (some t10)
def laws_eqIntS.l0 : Nat → List Int → List Int → Int → Option (Bool)
 | 0, _, _, _ => none
 | k + 1, x0, x1, x5 => if x5 < (x0.length : Int) then (if 0 ≤ x5 then (if x5 < (x1.length : Int) then (if (rd x0 x5) = (rd x1 x5) then (laws_eqIntS.l0 k x0 x1 (wrap64 (x5 + 1))) else (some false)) else (none)) else (none)) else (some true)
def laws_eqIntS.f (k : Nat) (l0 : List Int) (l1 : List Int) : Option (Bool) := if (l0.length : Int) = (l1.length : Int) then (laws_eqIntS.l0 k l0 l1 0) else (some false)
theorem laws_eqIntS.calls (k : Nat) (A0 : Option Addr) (c0 : Nat) (l0 : List Int) (A1 : Option Addr) (c1 : Nat) (l1 : List Int) (r : Bool) (w : World) (hr0 : Kd.C (Kd.int .i64) w A0 l0.length l0) (hc0 : l0.length ≤ c0) (hr1 : Kd.C (Kd.int .i64) w A1 l1.length l1) (hc1 : l1.length ≤ c1) (h : laws_eqIntS.f k l0 l1 = some r) (hr_ : Aside0 (r = true)) :
  Calls Try.prog 45 #[.slice A0 l0.length c0, .slice A1 l1.length c1] w fun e w' => e = .returned (.bool r) ∧ Drawn0 w w' := by
 have HR0 := zA hr0; have HC0 := zA hc0; clear hr0 hc0; have HR1 := zA hr1; have HC1 := zA hc1; clear hr1 hc1; have H : (if (l0.length : Int) = (l1.length : Int) then (laws_eqIntS.l0 k l0 l1 0) else (some false)) = some r := h; clear h
 by_cases c3 : (l0.length : Int) = (l1.length : Int)
 ·rw [if_pos c3] at H
  have c3b0 : ((l0.length : Int) == (l1.length : Int)) = true := beq_iff_eq.mpr c3; have c3b1 : ((l0.length : Int) != (l1.length : Int)) = false := bne_eq_false_iff_eq.mpr c3; have c3b2 : (l0.length == l1.length) = true := by first | simpa using c3 | (simp at c3 ⊢; omega)
  clear c3; have H' := zA H; clear H; go_enter Try.func45, Try.ntmps45; go_wp2
  repeat (go_quiet (fail); try go_wp2)
  go_loopg [5] k (fun kq v5 w' => ∃ (x5_1 : Int), v5 = .int .i64 x5_1 ∧ Aside0 (laws_eqIntS.l0 kq l0 l1 x5_1 = some r) ∧ Aside0 (kq ≤ k) ∧ Drawn0 w w')
  case atStart => exact ⟨(0), rfl, H', ⟨Nat.le_refl _⟩, by repeat (first | exact Drawn0.refl _ | apply Drawn0.step)⟩
  case round =>
   clear H'
   try clear c1
   try clear p2
   try clear c3
   try clear c3b0
   try clear c3b1
   try clear c3b2
   obtain ⟨x5_1, rfl, HA, HK1, ⟨m1, rfl⟩⟩ := hrel
   cases gk with
   | zero => exact absurd HA.out (by simp [laws_eqIntS.l0])
   | succ k1 =>
    have H := HA.out; clear HA; simp only [laws_eqIntS.l0] at H
    by_cases c4 : x5_1 < (l0.length : Int)
    ·rw [if_pos c4] at H
     have c4b0 : decide (x5_1 < (l0.length : Int)) = true := zX c4; clear c4
     by_cases c5 : 0 ≤ x5_1
     ·rw [if_pos c5] at H
      have c5b0 : decide (0 ≤ x5_1) = true := zX c5; clear c5
      by_cases c6 : x5_1 < (l1.length : Int)
      ·rw [if_pos c6] at H
       have c6b0 : decide (x5_1 < (l1.length : Int)) = true := zX c6; clear c6
       by_cases c7 : (rd l0 x5_1) = (rd l1 x5_1)
       ·rw [if_pos c7] at H
        have c7b0 : ((rd l0 x5_1) == (rd l1 x5_1)) = true := beq_iff_eq.mpr c7; have c7b1 : ((rd l0 x5_1) != (rd l1 x5_1)) = false := bne_eq_false_iff_eq.mpr c7; clear c7; have H' := zA H; clear H; have p10 : 0 ≤ (x5_1 : Int) := zW (by assumption); have q10 : x5_1 < (l0.length : Int) := zW (by assumption); obtain ⟨ad10, e10, hx10_0⟩ := Kd.at_int HR0.out x5_1 p10 q10
        cases e10
        replace p10 := eq_true p10; replace q10 := eq_true q10; have p11 : 0 ≤ (x5_1 : Int) := zW (by assumption); have q11 : x5_1 < (l1.length : Int) := zW (by assumption); obtain ⟨ad11, e11, hx11_0⟩ := Kd.at_int HR1.out x5_1 p11 q11
        cases e11
        replace p11 := eq_true p11; replace q11 := eq_true q11; go_wp2
        repeat (go_quiet (fail); try go_wp2)
        go_roundg k1
        case measure => have := HK1.out; omega
        case rel => exact ⟨(wrap64 (x5_1 + 1)), rfl, H', ⟨by have := HK1.out; omega⟩, by repeat (first | exact Drawn0.refl _ | apply Drawn0.step)⟩
       ·rw [if_neg c7] at H
        have c7b0 : ((rd l0 x5_1) == (rd l1 x5_1)) = false := beq_eq_false_iff_ne.mpr c7; have c7b1 : ((rd l0 x5_1) != (rd l1 x5_1)) = true := bne_iff_ne.mpr c7; exact absurd ((yM H).trans hr_.out) (by decide)
      ·rw [if_neg c6] at H
       exact absurd H (by simp)
     ·rw [if_neg c5] at H
      exact absurd H (by simp)
    ·rw [if_neg c4] at H
     have c4b0 : decide (x5_1 < (l0.length : Int)) = false := decide_eq_false c4; clear c4; obtain rfl := yM H; go_wp2
     repeat (go_quiet (fail); try go_wp2)
     go_ret; exact ⟨by first | rfl | (simp; done) | (simp [*]; done) | (simp [bne]; done), by repeat (first | exact Drawn0.refl _ | apply Drawn0.step)⟩
 ·rw [if_neg c3] at H
  have c3b0 : ((l0.length : Int) == (l1.length : Int)) = false := beq_eq_false_iff_ne.mpr c3; have c3b1 : ((l0.length : Int) != (l1.length : Int)) = true := bne_iff_ne.mpr c3; have c3b2 : (l0.length == l1.length) = false := by first | simpa using c3 | (simp at c3 ⊢; omega)
  exact absurd ((yM H).trans hr_.out) (by decide)
def laws_eqStringS.l0 : Nat → List ByteArray → List ByteArray → Int → Option (Bool)
 | 0, _, _, _ => none
 | k + 1, x0, x1, x5 => if x5 < (x0.length : Int) then (if 0 ≤ x5 then (if x5 < (x1.length : Int) then (if (rdOf ByteArray.empty x0 x5).toList = (rdOf ByteArray.empty x1 x5).toList then (laws_eqStringS.l0 k x0 x1 (wrap64 (x5 + 1))) else (some false)) else (none)) else (none)) else (some true)
def laws_eqStringS.f (k : Nat) (l0 : List ByteArray) (l1 : List ByteArray) : Option (Bool) := if (l0.length : Int) = (l1.length : Int) then (laws_eqStringS.l0 k l0 l1 0) else (some false)
theorem laws_eqStringS.calls (k : Nat) (A0 : Option Addr) (c0 : Nat) (l0 : List ByteArray) (A1 : Option Addr) (c1 : Nat) (l1 : List ByteArray) (r : Bool) (w : World) (hr0 : Kd.C Kd.string w A0 l0.length l0) (hc0 : l0.length ≤ c0) (hr1 : Kd.C Kd.string w A1 l1.length l1) (hc1 : l1.length ≤ c1) (h : laws_eqStringS.f k l0 l1 = some r) (hr_ : Aside0 (r = true)) :
  Calls Try.prog 73 #[.slice A0 l0.length c0, .slice A1 l1.length c1] w fun e w' => e = .returned (.bool r) ∧ Drawn0 w w' := by
 have HR0 := zA hr0; have HC0 := zA hc0; clear hr0 hc0; have HR1 := zA hr1; have HC1 := zA hc1; clear hr1 hc1; have H : (if (l0.length : Int) = (l1.length : Int) then (laws_eqStringS.l0 k l0 l1 0) else (some false)) = some r := h; clear h
 by_cases c3 : (l0.length : Int) = (l1.length : Int)
 ·rw [if_pos c3] at H
  have c3b0 : ((l0.length : Int) == (l1.length : Int)) = true := beq_iff_eq.mpr c3; have c3b1 : ((l0.length : Int) != (l1.length : Int)) = false := bne_eq_false_iff_eq.mpr c3; have c3b2 : (l0.length == l1.length) = true := by first | simpa using c3 | (simp at c3 ⊢; omega)
  clear c3; have H' := zA H; clear H; go_enter Try.func73, Try.ntmps73; go_wp2
  repeat (go_quiet (fail); try go_wp2)
  go_loopg [5] k (fun kq v5 w' => ∃ (x5_1 : Int), v5 = .int .i64 x5_1 ∧ Aside0 (laws_eqStringS.l0 kq l0 l1 x5_1 = some r) ∧ Aside0 (kq ≤ k) ∧ Drawn0 w w')
  case atStart => exact ⟨(0), rfl, H', ⟨Nat.le_refl _⟩, by repeat (first | exact Drawn0.refl _ | apply Drawn0.step)⟩
  case round =>
   clear H'
   try clear c1
   try clear p2
   try clear c3
   try clear c3b0
   try clear c3b1
   try clear c3b2
   obtain ⟨x5_1, rfl, HA, HK1, ⟨m1, rfl⟩⟩ := hrel
   cases gk with
   | zero => exact absurd HA.out (by simp [laws_eqStringS.l0])
   | succ k1 =>
    have H := HA.out; clear HA; simp only [laws_eqStringS.l0] at H
    by_cases c4 : x5_1 < (l0.length : Int)
    ·rw [if_pos c4] at H
     have c4b0 : decide (x5_1 < (l0.length : Int)) = true := zX c4; clear c4
     by_cases c5 : 0 ≤ x5_1
     ·rw [if_pos c5] at H
      have c5b0 : decide (0 ≤ x5_1) = true := zX c5; clear c5
      by_cases c6 : x5_1 < (l1.length : Int)
      ·rw [if_pos c6] at H
       have c6b0 : decide (x5_1 < (l1.length : Int)) = true := zX c6; clear c6
       by_cases c7 : (rdOf ByteArray.empty l0 x5_1).toList = (rdOf ByteArray.empty l1 x5_1).toList
       ·rw [if_pos c7] at H
        have c7b0 : ((rdOf ByteArray.empty l0 x5_1).toList == (rdOf ByteArray.empty l1 x5_1).toList) = true := beq_iff_eq.mpr c7; have c7b1 : ((rdOf ByteArray.empty l0 x5_1).toList != (rdOf ByteArray.empty l1 x5_1).toList) = false := bne_eq_false_iff_eq.mpr c7; clear c7; have H' := zA H; clear H; have p10 : 0 ≤ (x5_1 : Int) := zW (by assumption); have q10 : x5_1 < (l0.length : Int) := zW (by assumption); obtain ⟨ad10, e10, hx10_0⟩ := Kd.at_string HR0.out x5_1 p10 q10
        cases e10
        replace p10 := eq_true p10; replace q10 := eq_true q10; have p11 : 0 ≤ (x5_1 : Int) := zW (by assumption); have q11 : x5_1 < (l1.length : Int) := zW (by assumption); obtain ⟨ad11, e11, hx11_0⟩ := Kd.at_string HR1.out x5_1 p11 q11
        cases e11
        replace p11 := eq_true p11; replace q11 := eq_true q11; go_wp2
        repeat (go_quiet (fail); try go_wp2)
        go_roundg k1
        case measure => have := HK1.out; omega
        case rel => exact ⟨(wrap64 (x5_1 + 1)), rfl, H', ⟨by have := HK1.out; omega⟩, by repeat (first | exact Drawn0.refl _ | apply Drawn0.step)⟩
       ·rw [if_neg c7] at H
        have c7b0 : ((rdOf ByteArray.empty l0 x5_1).toList == (rdOf ByteArray.empty l1 x5_1).toList) = false := beq_eq_false_iff_ne.mpr c7; have c7b1 : ((rdOf ByteArray.empty l0 x5_1).toList != (rdOf ByteArray.empty l1 x5_1).toList) = true := bne_iff_ne.mpr c7; exact absurd ((yM H).trans hr_.out) (by decide)
      ·rw [if_neg c6] at H
       exact absurd H (by simp)
     ·rw [if_neg c5] at H
      exact absurd H (by simp)
    ·rw [if_neg c4] at H
     have c4b0 : decide (x5_1 < (l0.length : Int)) = false := decide_eq_false c4; clear c4; obtain rfl := yM H; go_wp2
     repeat (go_quiet (fail); try go_wp2)
     go_ret; exact ⟨by first | rfl | (simp; done) | (simp [*]; done) | (simp [bne]; done), by repeat (first | exact Drawn0.refl _ | apply Drawn0.step)⟩
 ·rw [if_neg c3] at H
  have c3b0 : ((l0.length : Int) == (l1.length : Int)) = false := beq_eq_false_iff_ne.mpr c3; have c3b1 : ((l0.length : Int) != (l1.length : Int)) = true := bne_iff_ne.mpr c3; have c3b2 : (l0.length == l1.length) = false := by first | simpa using c3 | (simp at c3 ⊢; omega)
  exact absurd ((yM H).trans hr_.out) (by decide)
def laws_eqPage.f (k : Nat) (l0_0 : List ByteArray) (l0_1 : List ByteArray) (l0_2 : List Int) (l1_0 : List ByteArray) (l1_1 : List ByteArray) (l1_2 : List Int) : Option (Bool) := (laws_eqStringS.f k l0_0 l1_0).bind fun t10 => (if t10 = true then ((laws_eqStringS.f k l0_1 l1_1).bind fun t11 => (if t11 = true then ((laws_eqIntS.f k l0_2 l1_2).bind fun t12 => (if t12 = true then (some true) else (some false))) else (some false))) else (some false))
theorem laws_eqPage.calls (k : Nat) (A0_0 : Option Addr) (c0_0 : Nat) (l0_0 : List ByteArray) (A0_1 : Option Addr) (c0_1 : Nat) (l0_1 : List ByteArray) (A0_2 : Option Addr) (c0_2 : Nat) (l0_2 : List Int) (A1_0 : Option Addr) (c1_0 : Nat) (l1_0 : List ByteArray) (A1_1 : Option Addr) (c1_1 : Nat) (l1_1 : List ByteArray) (A1_2 : Option Addr) (c1_2 : Nat) (l1_2 : List Int) (r : Bool) (w : World) (hr0_0 : Kd.C Kd.string w A0_0 l0_0.length l0_0) (hc0_0 : l0_0.length ≤ c0_0) (hr0_1 : Kd.C Kd.string w A0_1 l0_1.length l0_1) (hc0_1 : l0_1.length ≤ c0_1) (hr0_2 : Kd.C (Kd.int .i64) w A0_2 l0_2.length l0_2) (hc0_2 : l0_2.length ≤ c0_2) (hr1_0 : Kd.C Kd.string w A1_0 l1_0.length l1_0) (hc1_0 : l1_0.length ≤ c1_0) (hr1_1 : Kd.C Kd.string w A1_1 l1_1.length l1_1) (hc1_1 : l1_1.length ≤ c1_1) (hr1_2 : Kd.C (Kd.int .i64) w A1_2 l1_2.length l1_2) (hc1_2 : l1_2.length ≤ c1_2) (h : laws_eqPage.f k l0_0 l0_1 l0_2 l1_0 l1_1 l1_2 = some r) (hr_ : Aside0 (r = true)) :
  Calls Try.prog 68 #[.agg #[.slice A0_0 l0_0.length c0_0, .slice A0_1 l0_1.length c0_1, .slice A0_2 l0_2.length c0_2], .agg #[.slice A1_0 l1_0.length c1_0, .slice A1_1 l1_1.length c1_1, .slice A1_2 l1_2.length c1_2]] w fun e w' => e = .returned (.bool r) ∧ Below w.heap.size w w' := by
 have hu97 := Try.underlying97; have HR0_0 := zA hr0_0; have HC0_0 := zA hc0_0; clear hr0_0 hc0_0; have HR0_1 := zA hr0_1; have HC0_1 := zA hc0_1; clear hr0_1 hc0_1; have HR0_2 := zA hr0_2; have HC0_2 := zA hc0_2; clear hr0_2 hc0_2; have HR1_0 := zA hr1_0; have HC1_0 := zA hc1_0; clear hr1_0 hc1_0; have HR1_1 := zA hr1_1; have HC1_1 := zA hc1_1; clear hr1_1 hc1_1; have HR1_2 := zA hr1_2; have HC1_2 := zA hc1_2; clear hr1_2 hc1_2; have HB := zA (Below.refl w.heap.size w); have H : ((laws_eqStringS.f k l0_0 l1_0).bind fun t14 => (if t14 = true then ((laws_eqStringS.f k l0_1 l1_1).bind fun t15 => (if t15 = true then ((laws_eqIntS.f k l0_2 l1_2).bind fun t16 => (if t16 = true then (some true) else (some false))) else (some false))) else (some false))) = some r := h; clear h; replace H := zAF H; obtain ⟨t14, A30, H⟩ := H; replace H : (if t14 = true then ((laws_eqStringS.f k l0_1 l1_1).bind fun t15 => (if t15 = true then ((laws_eqIntS.f k l0_2 l1_2).bind fun t16 => (if t16 = true then (some true) else (some false))) else (some false))) else (some false)) = some r := H; have A3 := zA A30; clear A30
 by_cases c4 : t14 = true
 ·subst c4
  have H1 : ((laws_eqStringS.f k l0_1 l1_1).bind fun t15 => (if t15 = true then ((laws_eqIntS.f k l0_2 l1_2).bind fun t16 => (if t16 = true then (some true) else (some false))) else (some false))) = some r := by rw [if_pos rfl] at H; exact H
  clear H; have H := H1; clear H1; replace H := zAF H; obtain ⟨t15, A50, H⟩ := H; replace H : (if t15 = true then ((laws_eqIntS.f k l0_2 l1_2).bind fun t16 => (if t16 = true then (some true) else (some false))) else (some false)) = some r := H; have A5 := zA A50; clear A50
  by_cases c6 : t15 = true
  ·subst c6
   have H1 : ((laws_eqIntS.f k l0_2 l1_2).bind fun t16 => (if t16 = true then (some true) else (some false))) = some r := by rw [if_pos rfl] at H; exact H
   clear H; have H := H1; clear H1; replace H := zAF H; obtain ⟨t16, A70, H⟩ := H; replace H : (if t16 = true then (some true) else (some false)) = some r := H; have A7 := zA A70; clear A70
   by_cases c8 : t16 = true
   ·subst c8
    have H1 : (some true) = some r := by rw [if_pos rfl] at H; exact H
    clear H; have H := H1; clear H1; obtain rfl := yM H; go_enter Try.func68, Try.ntmps68; go_wp2_with (first | ((with_reducible refine gate_dst (N := 2) rfl ?_); refine box_event ?hg (N := 2) ?hd (cs := #[.slice A0_0 l0_0.length c0_0, .slice A0_1 l0_1.length c0_1, .slice A0_2 l0_2.length c0_2]) (t := 97) ?hr ?_; (case hd => rfl); (case hg => rfl); (case hr => first | (go_simp; done) | (go_simp; rfl)); intro gb17 hg w9 hbox hb; have n0_ := zA (zAD HB.out hb); have n1_ := zA (hbox); have n2_ := zA ((by rw [hg]; exact (zAE HB.out) : w.heap.size ≤ gb17)); have n3_ := zA ((by rw [hg]; exact (zAE HB.out) : w.heap.size ≤ gb17)); clear HB; have HB := n0_; have BK17 := n1_; have GW17 := n2_; have GE17 := n3_; clear n0_ n1_ n2_ n3_; clear hb hbox hg) | ((with_reducible refine gate_dst (N := 3) rfl ?_); refine box_event ?hg (N := 3) ?hd (cs := #[.slice A1_0 l1_0.length c1_0, .slice A1_1 l1_1.length c1_1, .slice A1_2 l1_2.length c1_2]) (t := 97) ?hr ?_; (case hd => rfl); (case hg => rfl); (case hr => first | (go_simp; done) | (go_simp; rfl)); intro gb18 hg w10 hbox hb; have n0_ := zA (yE BK17.out hb); have n1_ := zA (zAD HB.out hb); have n2_ := zA (hbox); have n3_ := zA ((by rw [hg]; exact (zAE HB.out) : w.heap.size ≤ gb18)); have n4_ := zA ((by rw [hg]; exact (zAE HB.out) : w.heap.size ≤ gb18)); have n5_ := zA ((by rw [hg]; exact zK (blk_lt BK17.out) : gb17 ≠ gb18)); have n6_ := zA ((by rw [hg]; exact Nat.ne_of_gt (blk_lt BK17.out) : gb18 ≠ gb17)); clear BK17; clear HB; have BK17 := n0_; have HB := n1_; have BK18 := n2_; have GW18 := n3_; have GE18 := n4_; have NB17_18 := n5_; have NB18_17 := n6_; clear n0_ n1_ n2_ n3_ n4_ n5_ n6_; clear hb hbox hg; have hnb11 := NB17_18.out; have hnc11 := NB18_17.out; have hcz12_0 := yL BK17.out 0 (.slice A0_0 l0_0.length c0_0) rfl; have hcz12_1 := yL BK17.out 1 (.slice A0_1 l0_1.length c0_1) rfl; have hcz12_2 := yL BK17.out 2 (.slice A0_2 l0_2.length c0_2) rfl; have hfz12_0 := zO BK17.out 0; have hfz12_1 := zO BK17.out 1; have hfz12_2 := zO BK17.out 2; have hcz13_0 := yL BK18.out 0 (.slice A1_0 l1_0.length c1_0) rfl; have hcz13_1 := yL BK18.out 1 (.slice A1_1 l1_1.length c1_1) rfl; have hcz13_2 := yL BK18.out 2 (.slice A1_2 l1_2.length c1_2) rfl; have hfz13_0 := zO BK18.out 0; have hfz13_1 := zO BK18.out 1; have hfz13_2 := zO BK18.out 2) | ((with_reducible refine yB (f := 73) rfl ?_); refine goesL_ (some 9) rfl rfl Try.func73 (by kernel_rfl) rfl #[.slice A0_0 l0_0.length c0_0, .slice A1_0 l1_0.length c1_0] rfl (by (try simp only [zAA, zAB, zAC]); first | done | rfl | (simp only [zZ, zY]; rfl)) ?_; (with_reducible refine (laws_eqStringS.calls k _ _ l0_0 _ _ l1_0 true _ ?side1 ?side2 ?side3 ?side4 A3.out ⟨rfl⟩).mono ?_); (case side1 => exact (yN HR0_0.out HB.out)); (case side2 => exact HC0_0.out); (case side3 => exact (yN HR1_0.out HB.out)); (case side4 => exact HC1_0.out); rintro e w' ⟨rfl, ⟨nd, rfl⟩⟩; refine ⟨_, rfl, ?_⟩) | ((with_reducible refine yB (f := 73) rfl ?_); refine goesL_ (some 15) rfl rfl Try.func73 (by kernel_rfl) rfl #[.slice A0_1 l0_1.length c0_1, .slice A1_1 l1_1.length c1_1] rfl (by (try simp only [zAA, zAB, zAC]); first | done | rfl | (simp only [zZ, zY]; rfl)) ?_; (with_reducible refine (laws_eqStringS.calls k _ _ l0_1 _ _ l1_1 true _ ?side1 ?side2 ?side3 ?side4 A5.out ⟨rfl⟩).mono ?_); (case side1 => repeat (first | exact (yN HR0_1.out HB.out) | (with_reducible first | refine zT ?_ _ | refine zU ?_ _ | refine zV ?_))); (case side2 => exact HC0_1.out); (case side3 => repeat (first | exact (yN HR1_1.out HB.out) | (with_reducible first | refine zT ?_ _ | refine zU ?_ _ | refine zV ?_))); (case side4 => exact HC1_1.out); rintro e w' ⟨rfl, ⟨nd, rfl⟩⟩; refine ⟨_, rfl, ?_⟩) | ((with_reducible refine yB (f := 45) rfl ?_); refine goesL_ (some 21) rfl rfl Try.func45 (by kernel_rfl) rfl #[.slice A0_2 l0_2.length c0_2, .slice A1_2 l1_2.length c1_2] rfl (by (try simp only [zAA, zAB, zAC]); first | done | rfl | (simp only [zZ, zY]; rfl)) ?_; (with_reducible refine (laws_eqIntS.calls k _ _ l0_2 _ _ l1_2 true _ ?side1 ?side2 ?side3 ?side4 A7.out ⟨rfl⟩).mono ?_); (case side1 => repeat (first | exact (yN HR0_2.out HB.out) | (with_reducible first | refine zT ?_ _ | refine zU ?_ _ | refine zV ?_))); (case side2 => exact HC0_2.out); (case side3 => repeat (first | exact (yN HR1_2.out HB.out) | (with_reducible first | refine zT ?_ _ | refine zU ?_ _ | refine zV ?_))); (case side4 => exact HC1_2.out); rintro e w' ⟨rfl, ⟨nd, rfl⟩⟩; refine ⟨_, rfl, ?_⟩))
    go_ret; exact ⟨by first | rfl | (simp <;> rfl) | (simp [*] <;> rfl), by repeat (first | (with_reducible first | exact HB.out | apply zH | apply zF | apply zG | refine zI ?_ GE17.out | refine zI ?_ GE18.out) | exact HB.out)⟩
   ·replace c8 := yO c8
    subst c8; have H1 : (some false) = some r := by rw [if_neg (show ¬ (false = true) by decide)] at H; exact H
    clear H; have H := H1; clear H1; exact absurd ((yM H).trans hr_.out) (by decide)
  ·replace c6 := yO c6
   subst c6; have H1 : (some false) = some r := by rw [if_neg (show ¬ (false = true) by decide)] at H; exact H
   clear H; have H := H1; clear H1; exact absurd ((yM H).trans hr_.out) (by decide)
 ·replace c4 := yO c4
  subst c4; have H1 : (some false) = some r := by rw [if_neg (show ¬ (false = true) by decide)] at H; exact H
  clear H; have H := H1; clear H1; exact absurd ((yM H).trans hr_.out) (by decide)
def laws_eqPageS.l0 : Nat → List (S97) → List (S97) → Int → Option (Bool)
 | 0, _, _, _ => none
 | k + 1, x0, x1, x5 => if x5 < (x0.length : Int) then (if 0 ≤ x5 then (if x5 < (x1.length : Int) then ((laws_eqPage.f k ((rd_T97 x0 x5).f0) ((rd_T97 x0 x5).f1) ((rd_T97 x0 x5).f2) ((rd_T97 x1 x5).f0) ((rd_T97 x1 x5).f1) ((rd_T97 x1 x5).f2)).bind fun t10 => (if t10 = true then (laws_eqPageS.l0 k x0 x1 (wrap64 (x5 + 1))) else (some false))) else (none)) else (none)) else (some true)
def laws_eqPageS.f (k : Nat) (l0 : List (S97)) (l1 : List (S97)) : Option (Bool) := if (l0.length : Int) = (l1.length : Int) then (laws_eqPageS.l0 k l0 l1 0) else (some false)
def laws_eqPageS.T6 : Bool × List (List Nat × List Nat) := (true, [([], []), ([], []), ([0, 1], [0, 1]), ([2], [2]), ([], []), ([], []), ([4, 5], [4, 5]), ([6], [6]), ([3, 7], [3, 7]), ([8], [8])])
def laws_eqPageS.B6 : List Nat := [0, 0, 3, 7, 0, 0, 48, 112, 255, 511]
theorem laws_eqPageS.tab6 : rtab .any (opsOf Try.f30 6) = laws_eqPageS.T6 := by kernel_rfl
theorem laws_eqPageS.bits6 : waitsOk laws_eqPageS.T6.2 laws_eqPageS.B6 = true := by kernel_rfl
theorem laws_eqPageS.calls (k : Nat) (A0 : Option Addr) (c0 : Nat) (l0 : List (S97)) (A1 : Option Addr) (c1 : Nat) (l1 : List (S97)) (r : Bool) (w : World) (hr0 : Kd.C k97 w A0 l0.length l0) (hc0 : l0.length ≤ c0) (hr1 : Kd.C k97 w A1 l1.length l1) (hc1 : l1.length ≤ c1) (h : laws_eqPageS.f k l0 l1 = some r) (hr_ : Aside0 (r = true)) :
  Calls Try.prog 30 #[.slice A0 l0.length c0, .slice A1 l1.length c1] w fun e w' => e = .returned (.bool r) ∧ Below w.heap.size w w' := by
 have hu97 := Try.underlying97; have HR0 := zA hr0; have HC0 := zA hc0; clear hr0 hc0; have HR1 := zA hr1; have HC1 := zA hc1; clear hr1 hc1; have HB := zA (Below.refl w.heap.size w); have H : (if (l0.length : Int) = (l1.length : Int) then (laws_eqPageS.l0 k l0 l1 0) else (some false)) = some r := h; clear h
 by_cases c3 : (l0.length : Int) = (l1.length : Int)
 ·rw [if_pos c3] at H
  have c3b0 : ((l0.length : Int) == (l1.length : Int)) = true := beq_iff_eq.mpr c3; have c3b1 : ((l0.length : Int) != (l1.length : Int)) = false := bne_eq_false_iff_eq.mpr c3; have c3b2 : (l0.length == l1.length) = true := by first | simpa using c3 | (simp at c3 ⊢; omega)
  clear c3; have H' := zA H; clear H; go_enter Try.func30, Try.ntmps30; go_wp2; go_loopg [5] k (fun kq v5 w' => ∃ (x5_1 : Int), v5 = .int .i64 x5_1 ∧ Aside0 (laws_eqPageS.l0 kq l0 l1 x5_1 = some r) ∧ Aside0 (kq ≤ k) ∧ Aside0 (Below w.heap.size w w'))
  case atStart => exact ⟨(0), rfl, H', ⟨Nat.le_refl _⟩, ⟨HB.out⟩⟩
  case round =>
   clear H'
   try clear c1
   try clear p2
   try clear c3
   try clear c3b0
   try clear c3b1
   try clear c3b2
   obtain ⟨x5_1, rfl, HA, HK1, HB⟩ := hrel
   cases gk with
   | zero => exact absurd HA.out (by simp [laws_eqPageS.l0])
   | succ k1 =>
    have H := HA.out; clear HA; simp only [laws_eqPageS.l0] at H
    by_cases c4 : x5_1 < (l0.length : Int)
    ·rw [if_pos c4] at H
     have c4b0 : decide (x5_1 < (l0.length : Int)) = true := zX c4; clear c4
     by_cases c5 : 0 ≤ x5_1
     ·rw [if_pos c5] at H
      have c5b0 : decide (0 ≤ x5_1) = true := zX c5; clear c5
      by_cases c6 : x5_1 < (l1.length : Int)
      ·rw [if_pos c6] at H
       have c6b0 : decide (x5_1 < (l1.length : Int)) = true := zX c6; clear c6; replace H := zAF H; obtain ⟨t13, A70, H⟩ := H; replace H : (if t13 = true then (laws_eqPageS.l0 k1 l0 l1 (wrap64 (x5_1 + 1))) else (some false)) = some r := H; have A7 := zA A70; clear A70
       by_cases c8 : t13 = true
       ·subst c8
        have H1 : (laws_eqPageS.l0 k1 l0 l1 (wrap64 (x5_1 + 1))) = some r := by rw [if_pos rfl] at H; exact H
        clear H; have H := H1; clear H1; have H' := zA H; clear H
        try go_wp2
        have n0_ := zA (zG HB.out); clear HB; have HB := n0_; clear n0_; have p14 : 0 ≤ (x5_1 : Int) := zW (by assumption); have q14 : x5_1 < (l0.length : Int) := zW (by assumption); obtain ⟨ad14, A14_0, c14_0, A14_1, c14_1, A14_2, c14_2, e14, hx14_0, hx14_1, hx14_2, hl14_0, hi14_0, hl14_1, hi14_1, hl14_2, hi14_2⟩ := at_T97 HR0.out x5_1 p14 q14; have hw14_2 := hx14_2; have hw14_1 := hx14_1; have hw14_0 := hx14_0
        cases e14
        replace hx14_0 := (HB.out.cell (zB w _ hx14_0)).trans hx14_0; replace hx14_1 := (HB.out.cell (zB w _ hx14_1)).trans hx14_1; replace hx14_2 := (HB.out.cell (zB w _ hx14_2)).trans hx14_2; have HR14_0 := zA hi14_0; have HC14_0 := zA hl14_0; clear hi14_0 hl14_0; have HR14_1 := zA hi14_1; have HC14_1 := zA hl14_1; clear hi14_1 hl14_1; have HR14_2 := zA hi14_2; have HC14_2 := zA hl14_2; clear hi14_2 hl14_2; replace p14 := eq_true p14; replace q14 := eq_true q14; have p15 : 0 ≤ (x5_1 : Int) := zW (by assumption); have q15 : x5_1 < (l1.length : Int) := zW (by assumption); obtain ⟨ad15, A15_0, c15_0, A15_1, c15_1, A15_2, c15_2, e15, hx15_0, hx15_1, hx15_2, hl15_0, hi15_0, hl15_1, hi15_1, hl15_2, hi15_2⟩ := at_T97 HR1.out x5_1 p15 q15; have hw15_2 := hx15_2; have hw15_1 := hx15_1; have hw15_0 := hx15_0
        cases e15
        replace hx15_0 := (HB.out.cell (zB w _ hx15_0)).trans hx15_0; replace hx15_1 := (HB.out.cell (zB w _ hx15_1)).trans hx15_1; replace hx15_2 := (HB.out.cell (zB w _ hx15_2)).trans hx15_2; have HR15_0 := zA hi15_0; have HC15_0 := zA hl15_0; clear hi15_0 hl15_0; have HR15_1 := zA hi15_1; have HC15_1 := zA hl15_1; clear hi15_1 hl15_1; have HR15_2 := zA hi15_2; have HC15_2 := zA hl15_2; clear hi15_2 hl15_2; replace p15 := eq_true p15; replace q15 := eq_true q15; refine start_ (n := 10) (S := fun w' => w'.cell? (ad14.add ((x5_1).toNat * 3)) = some (.slice A14_0 ((rd_T97 l0 x5_1).f0).length c14_0) ∧ w'.cell? ⟨(ad14.add ((x5_1).toNat * 3)).block, (ad14.add ((x5_1).toNat * 3)).off + 1, none⟩ = some (.slice A14_1 ((rd_T97 l0 x5_1).f1).length c14_1) ∧ w'.cell? ⟨(ad14.add ((x5_1).toNat * 3)).block, (ad14.add ((x5_1).toNat * 3)).off + 2, none⟩ = some (.slice A14_2 ((rd_T97 l0 x5_1).f2).length c14_2) ∧ w'.cell? (ad15.add ((x5_1).toNat * 3)) = some (.slice A15_0 ((rd_T97 l1 x5_1).f0).length c15_0) ∧ w'.cell? ⟨(ad15.add ((x5_1).toNat * 3)).block, (ad15.add ((x5_1).toNat * 3)).off + 1, none⟩ = some (.slice A15_1 ((rd_T97 l1 x5_1).f1).length c15_1) ∧ w'.cell? ⟨(ad15.add ((x5_1).toNat * 3)).block, (ad15.add ((x5_1).toNat * 3)).off + 2, none⟩ = some (.slice A15_2 ((rd_T97 l1 x5_1).f2).length c15_2)) (ds := []) (bA 10 0) (by kernel_rfl) rfl rfl ⟨((HB.out.cell (zB w _ hw14_0)).trans hw14_0), ((HB.out.cell (zB w _ hw14_1)).trans hw14_1), ((HB.out.cell (zB w _ hw14_2)).trans hw14_2), ((HB.out.cell (zB w _ hw15_0)).trans hw15_0), ((HB.out.cell (zB w _ hw15_1)).trans hw15_1), ((HB.out.cell (zB w _ hw15_2)).trans hw15_2)⟩ (fun hHeld => ?_); refine with_tabW laws_eqPageS.tab6 laws_eqPageS.bits6 (fun HT_ HW_ => ?_); generalize wr.drew = w9 at HB HR14_0 HR14_1 HR14_2 HR15_0 HR15_1 HR15_2 hx14_0 hx14_1 hx14_2 hx15_0 hx15_1 hx15_2 hHeld ⊢; refine wzP 0 17 (bA 10 1) HT_ ?_
        refine wzP 1 18 (bA 10 3) HT_ ?_
        refine wzP 2 19 (bA 10 7) HT_ ?_
        refine wzP 4 21 (bA 10 23) HT_ ?_
        refine wzP 5 22 (bA 10 55) HT_ ?_
        refine wzP 6 23 (bA 10 119) HT_ ?_
        refine wzT 3 20 (bA 10 127) HT_ HW_ hHeld ?_
        refine wzT 7 24 (bA 10 255) HT_ HW_ hHeld ?_
        refine one_ (i := 8) (N := some 25) (bA 10 511) rfl rfl (one_of HT_.out (by kernel_rfl)) (by decide) (fun K hK => ?_); refine goes_ Try.func68 (by kernel_rfl) rfl #[.agg #[.slice A14_0 ((rd_T97 l0 x5_1).f0).length c14_0, .slice A14_1 ((rd_T97 l0 x5_1).f1).length c14_1, .slice A14_2 ((rd_T97 l0 x5_1).f2).length c14_2], .agg #[.slice A15_0 ((rd_T97 l1 x5_1).f0).length c15_0, .slice A15_1 ((rd_T97 l1 x5_1).f1).length c15_1, .slice A15_2 ((rd_T97 l1 x5_1).f2).length c15_2]] (by rfl) rfl rfl (by (try simp only [zAA, zAB, zAC]); first | done | rfl | (simp only [zZ, zY]; rfl)) ?_
        with_reducible refine (laws_eqPage.calls k1 _ _ ((rd_T97 l0 x5_1).f0) _ _ ((rd_T97 l0 x5_1).f1) _ _ ((rd_T97 l0 x5_1).f2) _ _ ((rd_T97 l1 x5_1).f0) _ _ ((rd_T97 l1 x5_1).f1) _ _ ((rd_T97 l1 x5_1).f2) true _ ?side1 ?side2 ?side3 ?side4 ?side5 ?side6 ?side7 ?side8 ?side9 ?side10 ?side11 ?side12 A7.out ⟨rfl⟩).mono ?_
        (case side1 => exact (yN HR14_0.out HB.out)); (case side2 => exact HC14_0.out); (case side3 => exact (yN HR14_1.out HB.out)); (case side4 => exact HC14_1.out); (case side5 => exact (yN HR14_2.out HB.out)); (case side6 => exact HC14_2.out); (case side7 => exact (yN HR15_0.out HB.out)); (case side8 => exact HC15_0.out); (case side9 => exact (yN HR15_1.out HB.out)); (case side10 => exact HC15_1.out); (case side11 => exact (yN HR15_2.out HB.out)); (case side12 => exact HC15_2.out); rintro e w10 ⟨rfl, hb⟩; refine ⟨_, rfl, ?_⟩; have n0_ := zA (zAD HB.out hb); clear HB; have HB := n0_; clear n0_; (try clear hb); refine hK.out _ _ ⟨((HB.out.cell (zB w _ hw14_0)).trans hw14_0), ((HB.out.cell (zB w _ hw14_1)).trans hw14_1), ((HB.out.cell (zB w _ hw14_2)).trans hw14_2), ((HB.out.cell (zB w _ hw15_0)).trans hw15_0), ((HB.out.cell (zB w _ hw15_1)).trans hw15_1), ((HB.out.cell (zB w _ hw15_2)).trans hw15_2)⟩ (fun hHeld => ?_); clear hK K; refine wzN 25 ?_
        refine wzP 9 26 (bA 10 1023) HT_ ?_
        refine done_ (done_of HT_.out (by kernel_rfl)) ?_
        try go_wp2
        go_roundg k1
        case measure => have := HK1.out; omega
        case rel => exact ⟨(wrap64 (x5_1 + 1)), rfl, H', ⟨by have := HK1.out; omega⟩, ⟨HB.out⟩⟩
       ·replace c8 := yO c8
        subst c8; have H1 : (some false) = some r := by rw [if_neg (show ¬ (false = true) by decide)] at H; exact H
        clear H; have H := H1; clear H1; exact absurd ((yM H).trans hr_.out) (by decide)
      ·rw [if_neg c6] at H
       exact absurd H (by simp)
     ·rw [if_neg c5] at H
      exact absurd H (by simp)
    ·rw [if_neg c4] at H
     have c4b0 : decide (x5_1 < (l0.length : Int)) = false := decide_eq_false c4; clear c4; obtain rfl := yM H; go_wp2; go_ret; exact ⟨by first | rfl | (simp <;> rfl) | (simp [*] <;> rfl), HB.out⟩
 ·rw [if_neg c3] at H
  have c3b0 : ((l0.length : Int) == (l1.length : Int)) = false := beq_eq_false_iff_ne.mpr c3; have c3b1 : ((l0.length : Int) != (l1.length : Int)) = true := bne_iff_ne.mpr c3; have c3b2 : (l0.length == l1.length) = false := by first | simpa using c3 | (simp at c3 ⊢; omega)
  exact absurd ((yM H).trans hr_.out) (by decide)
def laws_eqTree.f (k : Nat) (l0_0 : List (S97)) (l1_0 : List (S97)) : Option (Bool) := (laws_eqPageS.f k l0_0 l1_0).bind fun t10 => (if t10 = true then (some true) else (some false))
theorem laws_eqTree.calls (k : Nat) (A0_0 : Option Addr) (c0_0 : Nat) (l0_0 : List (S97)) (A1_0 : Option Addr) (c1_0 : Nat) (l1_0 : List (S97)) (r : Bool) (w : World) (hr0_0 : Kd.C k97 w A0_0 l0_0.length l0_0) (hc0_0 : l0_0.length ≤ c0_0) (hr1_0 : Kd.C k97 w A1_0 l1_0.length l1_0) (hc1_0 : l1_0.length ≤ c1_0) (h : laws_eqTree.f k l0_0 l1_0 = some r) (hr_ : Aside0 (r = true)) :
  Calls Try.prog 10 #[.agg #[.slice A0_0 l0_0.length c0_0], .agg #[.slice A1_0 l1_0.length c1_0]] w fun e w' => e = .returned (.bool r) ∧ Below w.heap.size w w' := by
 have hu30 := Try.underlying30; have HR0_0 := zA hr0_0; have HC0_0 := zA hc0_0; clear hr0_0 hc0_0; have HR1_0 := zA hr1_0; have HC1_0 := zA hc1_0; clear hr1_0 hc1_0; have HB := zA (Below.refl w.heap.size w); have H : ((laws_eqPageS.f k l0_0 l1_0).bind fun t11 => (if t11 = true then (some true) else (some false))) = some r := h; clear h; replace H := zAF H; obtain ⟨t11, A30, H⟩ := H; replace H : (if t11 = true then (some true) else (some false)) = some r := H; have A3 := zA A30; clear A30
 by_cases c4 : t11 = true
 ·subst c4
  have H1 : (some true) = some r := by rw [if_pos rfl] at H; exact H
  clear H; have H := H1; clear H1; obtain rfl := yM H; go_enter Try.func10, Try.ntmps10; go_wp2_with (first | ((with_reducible refine gate_dst (N := 2) rfl ?_); refine box_event ?hg (N := 2) ?hd (cs := #[.slice A0_0 l0_0.length c0_0]) (t := 30) ?hr ?_; (case hd => rfl); (case hg => rfl); (case hr => first | (go_simp; done) | (go_simp; rfl)); intro gb12 hg w5 hbox hb; have n0_ := zA (zAD HB.out hb); have n1_ := zA (hbox); have n2_ := zA ((by rw [hg]; exact (zAE HB.out) : w.heap.size ≤ gb12)); have n3_ := zA ((by rw [hg]; exact (zAE HB.out) : w.heap.size ≤ gb12)); clear HB; have HB := n0_; have BK12 := n1_; have GW12 := n2_; have GE12 := n3_; clear n0_ n1_ n2_ n3_; clear hb hbox hg) | ((with_reducible refine gate_dst (N := 3) rfl ?_); refine box_event ?hg (N := 3) ?hd (cs := #[.slice A1_0 l1_0.length c1_0]) (t := 30) ?hr ?_; (case hd => rfl); (case hg => rfl); (case hr => first | (go_simp; done) | (go_simp; rfl)); intro gb13 hg w6 hbox hb; have n0_ := zA (yE BK12.out hb); have n1_ := zA (zAD HB.out hb); have n2_ := zA (hbox); have n3_ := zA ((by rw [hg]; exact (zAE HB.out) : w.heap.size ≤ gb13)); have n4_ := zA ((by rw [hg]; exact (zAE HB.out) : w.heap.size ≤ gb13)); have n5_ := zA ((by rw [hg]; exact zK (blk_lt BK12.out) : gb12 ≠ gb13)); have n6_ := zA ((by rw [hg]; exact Nat.ne_of_gt (blk_lt BK12.out) : gb13 ≠ gb12)); clear BK12; clear HB; have BK12 := n0_; have HB := n1_; have BK13 := n2_; have GW13 := n3_; have GE13 := n4_; have NB12_13 := n5_; have NB13_12 := n6_; clear n0_ n1_ n2_ n3_ n4_ n5_ n6_; clear hb hbox hg; have hnb7 := NB12_13.out; have hnc7 := NB13_12.out; have hcz8_0 := yL BK12.out 0 (.slice A0_0 l0_0.length c0_0) rfl; have hfz8_0 := zO BK12.out 0; have hcz9_0 := yL BK13.out 0 (.slice A1_0 l1_0.length c1_0) rfl; have hfz9_0 := zO BK13.out 0) | ((with_reducible refine yB (f := 30) rfl ?_); refine goesL_ (some 9) rfl rfl Try.func30 (by kernel_rfl) rfl #[.slice A0_0 l0_0.length c0_0, .slice A1_0 l1_0.length c1_0] rfl (by (try simp only [zAA, zAB, zAC]); first | done | rfl | (simp only [zZ, zY]; rfl)) ?_; (with_reducible refine (laws_eqPageS.calls k _ _ l0_0 _ _ l1_0 true _ ?side1 ?side2 ?side3 ?side4 A3.out ⟨rfl⟩).mono ?_); (case side1 => exact (yN HR0_0.out HB.out)); (case side2 => exact HC0_0.out); (case side3 => exact (yN HR1_0.out HB.out)); (case side4 => exact HC1_0.out); rintro e w10 ⟨rfl, hb⟩; refine ⟨_, rfl, ?_⟩; have n0_ := zA (yE BK12.out hb); have n1_ := zA (yE BK13.out hb); have n2_ := zA (zAD HB.out hb); clear BK12; clear BK13; clear HB; have BK12 := n0_; have BK13 := n1_; have HB := n2_; clear n0_ n1_ n2_; (try clear hb))); go_ret; exact ⟨by first | rfl | (simp <;> rfl) | (simp [*] <;> rfl), HB.out⟩
 ·replace c4 := yO c4
  subst c4; have H1 : (some false) = some r := by rw [if_neg (show ¬ (false = true) by decide)] at H; exact H
  clear H; have H := H1; clear H1; exact absurd ((yM H).trans hr_.out) (by decide)
def spec_l5Text.f (a0 : ByteArray) : Option (Bool) := some (decide ((a0.size : Int) ≤ 12))
theorem spec_l5Text.calls (a0 : ByteArray) (r : Bool) (w : World) (h : spec_l5Text.f a0 = some r) :
  Calls Try.prog 69 #[.string a0] w fun e w' => e = .returned (.bool r) ∧ Drawn0 w w' := by
 have H : (some (decide ((a0.size : Int) ≤ 12))) = some r := h; clear h; obtain rfl := yM H; go_enter Try.func69, Try.ntmps69; go_wp2; go_ret; exact ⟨by first | rfl | (simp; done) | (simp [*]; done) | (simp [bne]; done), by repeat (first | exact Drawn0.refl _ | apply Drawn0.step)⟩
def spec_l5Pair.f (a0 : ByteArray) (a1 : ByteArray) : Option (Bool) := (spec_l5Text.f a0).bind fun t10 => (if t10 = true then ((spec_l5Text.f a1).bind fun t11 => (if t11 = true then (some (a0.toList != ([] : List UInt8))) else (some false))) else (some false))
theorem spec_l5Pair.calls (a0 : ByteArray) (a1 : ByteArray) (r : Bool) (w : World) (h : spec_l5Pair.f a0 a1 = some r) :
  Calls Try.prog 31 #[.string a0, .string a1] w fun e w' => e = .returned (.bool r) ∧ Drawn0 w w' := by
 have H : ((spec_l5Text.f a0).bind fun t10 => (if t10 = true then ((spec_l5Text.f a1).bind fun t11 => (if t11 = true then (some (a0.toList != ([] : List UInt8))) else (some false))) else (some false))) = some r := h; clear h; replace H := zAF H; obtain ⟨t10, A30, H⟩ := H; replace H : (if t10 = true then ((spec_l5Text.f a1).bind fun t11 => (if t11 = true then (some (a0.toList != ([] : List UInt8))) else (some false))) else (some false)) = some r := H; have A3 := zA A30; clear A30
 by_cases c4 : t10 = true
 ·subst c4
  have H1 : ((spec_l5Text.f a1).bind fun t11 => (if t11 = true then (some (a0.toList != ([] : List UInt8))) else (some false))) = some r := by rw [if_pos rfl] at H; exact H
  clear H; have H := H1; clear H1; replace H := zAF H; obtain ⟨t11, A50, H⟩ := H; replace H : (if t11 = true then (some (a0.toList != ([] : List UInt8))) else (some false)) = some r := H; have A5 := zA A50; clear A50
  by_cases c6 : t11 = true
  ·subst c6
   have H1 : (some (a0.toList != ([] : List UInt8))) = some r := by rw [if_pos rfl] at H; exact H
   clear H; have H := H1; clear H1; obtain rfl := yM H; go_enter Try.func31, Try.ntmps31; go_wp2_with (first | ((with_reducible refine yB (f := 69) rfl ?_); refine goesL_ (some 6) rfl rfl Try.func69 (by kernel_rfl) rfl #[.string a0] rfl (by (try simp only [zAA, zAB, zAC]); first | done | rfl) ?_; (with_reducible refine (spec_l5Text.calls a0 true _ A3.out).mono ?_); rintro e w' ⟨rfl, ⟨nd, rfl⟩⟩; refine ⟨_, rfl, ?_⟩) | (go_at_call 69; (with_reducible refine (spec_l5Text.calls a1 true _ A5.out).mono ?_); rintro e w' ⟨rfl, ⟨nd, rfl⟩⟩)); go_ret; exact ⟨by first | rfl | (simp; done) | (simp [*]; done) | (simp [bne]; done), by repeat (first | exact Drawn0.refl _ | apply Drawn0.step)⟩
  ·replace c6 := yO c6
   subst c6; have H1 : (some false) = some r := by rw [if_neg (show ¬ (false = true) by decide)] at H; exact H
   clear H; have H := H1; clear H1; obtain rfl := yM H; go_enter Try.func31, Try.ntmps31; go_wp2_with (first | ((with_reducible refine yB (f := 69) rfl ?_); refine goesL_ (some 6) rfl rfl Try.func69 (by kernel_rfl) rfl #[.string a0] rfl (by (try simp only [zAA, zAB, zAC]); first | done | rfl) ?_; (with_reducible refine (spec_l5Text.calls a0 true _ A3.out).mono ?_); rintro e w' ⟨rfl, ⟨nd, rfl⟩⟩; refine ⟨_, rfl, ?_⟩) | (go_at_call 69; (with_reducible refine (spec_l5Text.calls a1 false _ A5.out).mono ?_); rintro e w' ⟨rfl, ⟨nd, rfl⟩⟩)); go_ret; exact ⟨by first | rfl | (simp; done) | (simp [*]; done) | (simp [bne]; done), by repeat (first | exact Drawn0.refl _ | apply Drawn0.step)⟩
 ·replace c4 := yO c4
  subst c4; have H1 : (some false) = some r := by rw [if_neg (show ¬ (false = true) by decide)] at H; exact H
  clear H; have H := H1; clear H1; obtain rfl := yM H; go_enter Try.func31, Try.ntmps31; go_wp2_with (first | ((with_reducible refine yB (f := 69) rfl ?_); refine goesL_ (some 6) rfl rfl Try.func69 (by kernel_rfl) rfl #[.string a0] rfl (by (try simp only [zAA, zAB, zAC]); first | done | rfl) ?_; (with_reducible refine (spec_l5Text.calls a0 false _ A3.out).mono ?_); rintro e w' ⟨rfl, ⟨nd, rfl⟩⟩; refine ⟨_, rfl, ?_⟩)); go_ret; exact ⟨by first | rfl | (simp; done) | (simp [*]; done) | (simp [bne]; done), by repeat (first | exact Drawn0.refl _ | apply Drawn0.step)⟩
def spec_l5T_leaf.f (a0 : S95) : Option (Bool) := some ((a0.f2.length : Int) == 0)
theorem spec_l5T_leaf.calls (a0 : S95) (r : Bool) (w : World) (hr0 : k95p.K w a0 [.pointer (some ⟨a0.adr, 0, none⟩)]) (h : spec_l5T_leaf.f a0 = some r) :
  Calls Try.prog 57 #[.pointer (some ⟨a0.adr, 0, none⟩)] w fun e w' => e = .returned (.bool r) ∧ Drawn0 w w' := by
 have hu95 := Try.underlying95; have HR0 := zA hr0; clear hr0; obtain ⟨An0_0, cn0_0, An0_1, cn0_1, An0_2, cn0_2, hsn0_0, hsn0_1, hsn0_2, hln0_0, hin0_0, hln0_1, hin0_1, hln0_2, hin0_2⟩ := at_P95 HR0.out; have HXn0_0 := zA hsn0_0; have HRn0_0 := zA hin0_0; have HCn0_0 := zA hln0_0; have HXn0_1 := zA hsn0_1; have HRn0_1 := zA hin0_1; have HCn0_1 := zA hln0_1; have HXn0_2 := zA hsn0_2; have HRn0_2 := zA hin0_2; have HCn0_2 := zA hln0_2; clear hsn0_0 hin0_0 hln0_0 hsn0_1 hin0_1 hln0_1 hsn0_2 hin0_2 hln0_2; have H : (some ((a0.f2.length : Int) == 0)) = some r := h; clear h; obtain rfl := yM H; have hx10_0 := HXn0_0.out; have hx10_1 := HXn0_1.out; have hx10_2 := HXn0_2.out; go_enter Try.func57, Try.ntmps57; go_wp2; go_ret; exact ⟨by first | rfl | (simp; done) | (simp [*]; done) | (simp [bne]; done), by repeat (first | exact Drawn0.refl _ | apply Drawn0.step)⟩
mutual
def spec_l5T_all.l0 : Nat → S95 → List ByteArray → List ByteArray → Int → Option (List ByteArray × List ByteArray)
 | 0, _, _, _, _ => none
 | k + 1, x0, x1, x2, x8 => if x8 ≤ (x0.f0.length : Int) then ((spec_l5T_leaf.f x0).bind fun t10 => (if t10 = true then (if x8 < (x0.f0.length : Int) then (if 0 ≤ x8 then (if x1.length < 8796093022208 then (if x8 < (x0.f1.length : Int) then (if x2.length < 8796093022208 then (spec_l5T_all.l0 k x0 (x1 ++ [rdOf ByteArray.empty x0.f0 x8]) (x2 ++ [rdOf ByteArray.empty x0.f1 x8]) (wrap64 (x8 + 1))) else (none)) else (none)) else (none)) else (none)) else (spec_l5T_all.l0 k x0 x1 x2 (wrap64 (x8 + 1)))) else (if 0 ≤ x8 then (if x8 < (x0.f2.length : Int) then ((spec_l5T_all.f k (rd_N95 x0.f2 x8) x1 x2).bind fun bt11 => (if x8 < (x0.f0.length : Int) then (if bt11.1.length < 8796093022208 then (if x8 < (x0.f1.length : Int) then (if bt11.2.length < 8796093022208 then (spec_l5T_all.l0 k x0 (bt11.1 ++ [rdOf ByteArray.empty x0.f0 x8]) (bt11.2 ++ [rdOf ByteArray.empty x0.f1 x8]) (wrap64 (x8 + 1))) else (none)) else (none)) else (none)) else (spec_l5T_all.l0 k x0 bt11.1 bt11.2 (wrap64 (x8 + 1))))) else (none)) else (none)))) else (some (x1, x2))
def spec_l5T_all.f : Nat → S95 → List ByteArray → List ByteArray → Option (List ByteArray × List ByteArray)
 | 0, _, _, _ => none
 | k + 1, a0, l1, l2 => spec_l5T_all.l0 k a0 l1 l2 0
end
theorem spec_l5T_all.calls (k : Nat) : ∀ (a0 : S95) (P1_ : Nat → Prop) (u9000_ : Value) (l1 : List ByteArray) (P2_ : Nat → Prop) (u9001_ : Value) (l2 : List ByteArray) (r1 : List ByteArray) (r2 : List ByteArray) (w0 w : World) (hB : Below w0.heap.size w0 w) (hr0 : k95p.K w0 a0 [.pointer (some ⟨a0.adr, 0, none⟩)]) (ho1 : Kd.R Kd.string 9 w w0.heap.size P1_ u9000_ l1) (hp1_2 : ∀ k_, P1_ k_ → ¬ P2_ k_) (ho2 : Kd.R Kd.string 9 w w0.heap.size P2_ u9001_ l2) (hp2_1 : ∀ k_, P2_ k_ → ¬ P1_ k_) (h : spec_l5T_all.f k a0 l1 l2 = some (r1, r2)),
  Calls Try.prog 55 #[.pointer (some ⟨a0.adr, 0, none⟩), u9000_, u9001_] w fun e w' => ∃ v0_ v1_ : Value, e = .returned (.tuple #[v0_, v1_]) ∧ Kd.R Kd.string 9 w' w0.heap.size (fun k_ => ((P1_ k_ ∨ P2_ k_) ∨ w.heap.size ≤ k_) ∧ some k_ ≠ (v1_ : Value).ownBlock) v0_ r1 ∧ Kd.R Kd.string 9 w' w0.heap.size (fun k_ => ((P1_ k_ ∨ P2_ k_) ∨ w.heap.size ≤ k_) ∧ some k_ ≠ (v0_ : Value).ownBlock) v1_ r2 ∧ Below w0.heap.size w0 w' ∧ Kept w w' (fun k_ => P1_ k_ ∨ P2_ k_) := by
 induction k using Nat.strongRecOn with
 | _ k ih =>
 intro a0 P1_ u9000_ l1 P2_ u9001_ l2 r1 r2 w0 w hB hr0 ho1 hp1_2 ho2 hp2_1 h
 cases k with
 | zero => exact absurd h (by simp [spec_l5T_all.f])
 | succ k =>
 simp only [spec_l5T_all.f] at h; have hu95 := Try.underlying95; have hu54 := Try.underlying54; have HR0 := zA hr0; clear hr0; obtain ⟨An0_0, cn0_0, An0_1, cn0_1, An0_2, cn0_2, hsn0_0, hsn0_1, hsn0_2, hln0_0, hin0_0, hln0_1, hin0_1, hln0_2, hin0_2⟩ := at_P95 HR0.out; have HXn0_0 := zA hsn0_0; have HRn0_0 := zA hin0_0; have HCn0_0 := zA hln0_0; have HXn0_1 := zA hsn0_1; have HRn0_1 := zA hin0_1; have HCn0_1 := zA hln0_1; have HXn0_2 := zA hsn0_2; have HRn0_2 := zA hin0_2; have HCn0_2 := zA hln0_2; clear hsn0_0 hin0_0 hln0_0 hsn0_1 hin0_1 hln0_1 hsn0_2 hin0_2 hln0_2; have HO1 := zA (show Kd.R Kd.string 9 w w0.heap.size (fun k_ => ((P1_ k_ ∨ P2_ k_) ∨ w.heap.size ≤ k_) ∧ some k_ ≠ (u9001_ : Value).ownBlock) u9000_ l1 from yC ho1 (fun k_ hk => ⟨(.inl (.inl hk)), fun e_ => hp1_2 k_ hk (ho2.1 k_ e_.symm)⟩)); have HO2 := zA (show Kd.R Kd.string 9 w w0.heap.size (fun k_ => ((P1_ k_ ∨ P2_ k_) ∨ w.heap.size ≤ k_) ∧ some k_ ≠ (u9000_ : Value).ownBlock) u9001_ l2 from yC ho2 (fun k_ hk => ⟨(.inl (.inr hk)), fun e_ => hp2_1 k_ hk (ho1.1 k_ e_.symm)⟩)); have HK := zA (Kept.refl w (fun k_ => P1_ k_ ∨ P2_ k_)); have HW0 := zA hB.size; have HB := zA hB; clear hB; have H : (spec_l5T_all.l0 k a0 l1 l2 0) = some (r1, r2) := h; clear h; have H' := zA H; clear H; go_enter Try.func55, Try.ntmps55; go_wp2; go_loopg [1, 2, 8] k (fun kq v1 v2 v8 w' => ∃ (x1_1 : List ByteArray) (x2_1 : List ByteArray) (x8_1 : Int), v8 = .int .i64 x8_1 ∧ Aside0 (spec_l5T_all.l0 kq a0 x1_1 x2_1 x8_1 = some (r1, r2)) ∧ Aside0 (kq ≤ k) ∧ Aside0 (Kd.R Kd.string 9 w' w0.heap.size (fun k_ => ((P1_ k_ ∨ P2_ k_) ∨ w.heap.size ≤ k_) ∧ some k_ ≠ (v2 : Value).ownBlock) v1 x1_1) ∧ Aside0 (Kd.R Kd.string 9 w' w0.heap.size (fun k_ => ((P1_ k_ ∨ P2_ k_) ∨ w.heap.size ≤ k_) ∧ some k_ ≠ (v1 : Value).ownBlock) v2 x2_1) ∧ Aside0 (Kept w w' (fun k_ => P1_ k_ ∨ P2_ k_)) ∧ Aside0 (Below w0.heap.size w0 w'))
 case atStart => exact ⟨(l1), (l2), (0), rfl, H', ⟨Nat.le_refl _⟩, ⟨by (with_reducible repeat first | apply zQ | apply zR | apply zS); exact HO1.out⟩, ⟨by (with_reducible repeat first | apply zQ | apply zR | apply zS); exact HO2.out⟩, ⟨HK.out⟩, ⟨HB.out⟩⟩
 case round =>
  clear H'
  try clear p1
  try clear p2
  obtain ⟨x1_1, x2_1, x8_1, rfl, HA, HK1, HO_1, HO_2, HK, HB⟩ := hrel
  cases gk with
  | zero => exact absurd HA.out (by simp [spec_l5T_all.l0])
  | succ k1 =>
   have H := HA.out; clear HA; simp only [spec_l5T_all.l0] at H
   by_cases c4 : x8_1 ≤ (a0.f0.length : Int)
   ·rw [if_pos c4] at H
    have c4b0 : decide (x8_1 ≤ (a0.f0.length : Int)) = true := zX c4; clear c4; replace H := zAF H; obtain ⟨t29, A50, H⟩ := H; replace H : (if t29 = true then (if x8_1 < (a0.f0.length : Int) then (if 0 ≤ x8_1 then (if x1_1.length < 8796093022208 then (if x8_1 < (a0.f1.length : Int) then (if x2_1.length < 8796093022208 then (spec_l5T_all.l0 k1 a0 (x1_1 ++ [rdOf ByteArray.empty a0.f0 x8_1]) (x2_1 ++ [rdOf ByteArray.empty a0.f1 x8_1]) (wrap64 (x8_1 + 1))) else (none)) else (none)) else (none)) else (none)) else (spec_l5T_all.l0 k1 a0 x1_1 x2_1 (wrap64 (x8_1 + 1)))) else (if 0 ≤ x8_1 then (if x8_1 < (a0.f2.length : Int) then ((spec_l5T_all.f k1 (rd_N95 a0.f2 x8_1) x1_1 x2_1).bind fun bt30 => (if x8_1 < (a0.f0.length : Int) then (if bt30.1.length < 8796093022208 then (if x8_1 < (a0.f1.length : Int) then (if bt30.2.length < 8796093022208 then (spec_l5T_all.l0 k1 a0 (bt30.1 ++ [rdOf ByteArray.empty a0.f0 x8_1]) (bt30.2 ++ [rdOf ByteArray.empty a0.f1 x8_1]) (wrap64 (x8_1 + 1))) else (none)) else (none)) else (none)) else (spec_l5T_all.l0 k1 a0 bt30.1 bt30.2 (wrap64 (x8_1 + 1))))) else (none)) else (none))) = some (r1, r2) := H; have A5 := zA A50; clear A50
    by_cases c6 : t29 = true
    ·subst c6
     have H1 : (if x8_1 < (a0.f0.length : Int) then (if 0 ≤ x8_1 then (if x1_1.length < 8796093022208 then (if x8_1 < (a0.f1.length : Int) then (if x2_1.length < 8796093022208 then (spec_l5T_all.l0 k1 a0 (x1_1 ++ [rdOf ByteArray.empty a0.f0 x8_1]) (x2_1 ++ [rdOf ByteArray.empty a0.f1 x8_1]) (wrap64 (x8_1 + 1))) else (none)) else (none)) else (none)) else (none)) else (spec_l5T_all.l0 k1 a0 x1_1 x2_1 (wrap64 (x8_1 + 1)))) = some (r1, r2) := by rw [if_pos rfl] at H; exact H
     clear H; have H := H1; clear H1
     by_cases c7 : x8_1 < (a0.f0.length : Int)
     ·rw [if_pos c7] at H
      have c7b0 : decide (x8_1 < (a0.f0.length : Int)) = true := zX c7; clear c7
      by_cases c8 : 0 ≤ x8_1
      ·rw [if_pos c8] at H
       have c8b0 : decide (0 ≤ x8_1) = true := zX c8; clear c8
       by_cases c9 : x1_1.length < 8796093022208
       ·rw [if_pos c9] at H
        have LMc9 := zA c9; clear c9; obtain ⟨y31, hy31⟩ : ∃ y_ : List ByteArray, y_ = (x1_1 ++ [rdOf ByteArray.empty a0.f0 x8_1]) := ⟨_, rfl⟩; replace H : (if x8_1 < (a0.f1.length : Int) then (if x2_1.length < 8796093022208 then (spec_l5T_all.l0 k1 a0 y31 (x2_1 ++ [rdOf ByteArray.empty a0.f1 x8_1]) (wrap64 (x8_1 + 1))) else (none)) else (none)) = some (r1, r2) := by first | (rw [hy31]; with_reducible exact H) | (have H2_ := (Option.bind_some _ _).symm.trans H; rw [hy31]; with_reducible exact H2_) | (have H2_ := (Option.bind_some _ _).symm.trans H; with_reducible exact H2_) | with_reducible exact H | (rw [hy31]; exact H) | exact H
        have Ny31 := zA hy31; clear hy31
        by_cases c10 : x8_1 < (a0.f1.length : Int)
        ·rw [if_pos c10] at H
         have c10b0 : decide (x8_1 < (a0.f1.length : Int)) = true := zX c10; clear c10
         by_cases c11 : x2_1.length < 8796093022208
         ·rw [if_pos c11] at H
          have LMc11 := zA c11; clear c11; obtain ⟨y32, hy32⟩ : ∃ y_ : List ByteArray, y_ = (x2_1 ++ [rdOf ByteArray.empty a0.f1 x8_1]) := ⟨_, rfl⟩; replace H : (spec_l5T_all.l0 k1 a0 y31 y32 (wrap64 (x8_1 + 1))) = some (r1, r2) := by first | (rw [hy32]; with_reducible exact H) | (have H2_ := (Option.bind_some _ _).symm.trans H; rw [hy32]; with_reducible exact H2_) | (have H2_ := (Option.bind_some _ _).symm.trans H; with_reducible exact H2_) | with_reducible exact H | (rw [hy32]; exact H) | exact H
          have Ny32 := zA hy32; clear hy32; have H' := zA H; clear H; have hx33_0 := HXn0_0.out; have hx33_1 := HXn0_1.out; have hx33_2 := HXn0_2.out; replace hx33_0 := pw_cell_below HB.out hx33_0; replace hx33_1 := pw_cell_below HB.out hx33_1; replace hx33_2 := pw_cell_below HB.out hx33_2; go_wp2_with (first | ((with_reducible refine yB (f := 57) rfl ?_); refine goesL_ (some 19) rfl rfl Try.func57 (by kernel_rfl) rfl #[.pointer (some ⟨a0.adr, 0, none⟩)] rfl (by (try simp only [zAA, zAB, zAC]); first | done | rfl) ?_; (with_reducible refine (spec_l5T_leaf.calls a0 true _ ?side1 A5.out).mono ?_); (case side1 => repeat (first | exact (k95p.K_below HB.out HR0.out) | (with_reducible refine k95p_alloc ?_ _) | (with_reducible refine k95p_drewN ?_ _) | (with_reducible refine k95p_drew ?_))); rintro e w' ⟨rfl, ⟨nd, rfl⟩⟩; refine ⟨_, rfl, ?_⟩; have hx34_0 := HXn0_0.out; have hx34_1 := HXn0_1.out; have hx34_2 := HXn0_2.out; replace hx34_0 := pw_cell_below HB.out hx34_0; replace hx34_1 := pw_cell_below HB.out hx34_1; replace hx34_2 := pw_cell_below HB.out hx34_2; have hx35_0 := HXn0_0.out; have hx35_1 := HXn0_1.out; have hx35_2 := HXn0_2.out; replace hx35_0 := pw_cell_below HB.out hx35_0; replace hx35_1 := pw_cell_below HB.out hx35_1; replace hx35_2 := pw_cell_below HB.out hx35_2; have p36 : 0 ≤ (x8_1 : Int) := zW (by assumption); have q36 : x8_1 < (a0.f0.length : Int) := zW (by assumption); obtain ⟨ad36, e36, hx36_0⟩ := Kd.at_string HRn0_0.out x8_1 p36 q36; cases e36; replace hx36_0 := pw_cell_below HB.out hx36_0; replace p36 := eq_true p36; replace q36 := eq_true q36) | ((with_reducible refine gate_builtin (b := .append) (xs := #[.tmp 41, .tmp 49]) rfl ?_); at_builtin; refine Kd.R_append Kd.string (w0 := w0) w0.heap.size rfl (.tmp 41) (.tmp 49) 41 9 (.string ⟨#[]⟩) 16 rfl Try.underlying41 info9 rfl (by decide) (by omega) u1 x1_1 (rdOf ByteArray.empty a0.f0 x8_1) [.string (rdOf ByteArray.empty a0.f0 x8_1)] (fun k_ => ((P1_ k_ ∨ P2_ k_) ∨ w.heap.size ≤ k_) ∧ some k_ ≠ (u2 : Value).ownBlock) (fun _ => False) rfl rfl ?aP (fun _ hk => hk.elim) ?aF ?aO ?aB ?aS ?aL ?_; (case aP => exact rfl); (case aB => exact (by (with_reducible repeat first | exact HB.out | apply zH | apply zF | apply zG) <;> exact HB.out)); (case aF => exact (fun k_ hk => ⟨(.inr (Nat.le_trans (by first | exact HK.out.1 | exact (show Kept w _ (fun k_ => P1_ k_ ∨ P2_ k_) from by repeat (first | (with_reducible first | exact HK.out | apply Kept.alloc | apply Kept.drewN | apply Kept.drew) | exact HK.out)).1) hk)), Kd.fresh' (Kd.R_lt HO_2.out) k_ hk⟩)); (case aO => exact HO_1.out); (case aS => exact (zAE (by (with_reducible repeat first | exact HB.out | apply zH | apply zF | apply zG) <;> exact HB.out))); (case aL => have := LMc9.out; omega); intro v37 w12 ho hb hg hat; rw [← Ny31.out] at ho; have n0_ := zA (Kd.R_after (ok := (fun k_ => ((P1_ k_ ∨ P2_ k_) ∨ w.heap.size ≤ k_))) (by (with_reducible repeat first | apply zQ | apply zR | apply zS); exact HO_2.out) hg hat); have n1_ := zA (hb); have n2_ := zA (Kept.of_grown (S := (fun k_ => P1_ k_ ∨ P2_ k_)) hg HK.out (fun k_ e_ => (HO_1.out.1 k_ e_).1)); have n3_ := zA (ho); clear HO_2; clear HB; clear HK; clear HO_1; have HO_2 := n0_; have HB := n1_; have HK := n2_; have HO38 := n3_; clear n0_ n1_ n2_ n3_; clear ho hb hg hat; have hx39_0 := HXn0_0.out; have hx39_1 := HXn0_1.out; have hx39_2 := HXn0_2.out; replace hx39_0 := pw_cell_below HB.out hx39_0; replace hx39_1 := pw_cell_below HB.out hx39_1; replace hx39_2 := pw_cell_below HB.out hx39_2; have p40 : 0 ≤ (x8_1 : Int) := zW (by assumption); have q40 : x8_1 < (a0.f1.length : Int) := zW (by assumption); obtain ⟨ad40, e40, hx40_0⟩ := Kd.at_string HRn0_1.out x8_1 p40 q40; cases e40; replace hx40_0 := pw_cell_below HB.out hx40_0; replace p40 := eq_true p40; replace q40 := eq_true q40) | ((with_reducible refine gate_builtin (b := .append) (xs := #[.tmp 51, .tmp 59]) rfl ?_); at_builtin; refine Kd.R_append Kd.string (w0 := w0) w0.heap.size rfl (.tmp 51) (.tmp 59) 41 9 (.string ⟨#[]⟩) 16 rfl Try.underlying41 info9 rfl (by decide) (by omega) u2 x2_1 (rdOf ByteArray.empty a0.f1 x8_1) [.string (rdOf ByteArray.empty a0.f1 x8_1)] (fun k_ => ((P1_ k_ ∨ P2_ k_) ∨ w.heap.size ≤ k_) ∧ some k_ ≠ (v37 : Value).ownBlock) (fun _ => False) rfl rfl ?aP (fun _ hk => hk.elim) ?aF ?aO ?aB ?aS ?aL ?_; (case aP => exact rfl); (case aB => exact HB.out); (case aF => exact (fun k_ hk => ⟨(.inr (Nat.le_trans (by first | exact HK.out.1 | exact (show Kept w _ (fun k_ => P1_ k_ ∨ P2_ k_) from HK.out).1) hk)), Kd.fresh' (Kd.R_lt HO38.out) k_ hk⟩)); (case aO => exact HO_2.out); (case aS => exact (zAE HB.out)); (case aL => have := LMc11.out; omega); intro v41 w13 ho hb hg hat; rw [← Ny32.out] at ho; have n0_ := zA (Kd.R_after (ok := (fun k_ => ((P1_ k_ ∨ P2_ k_) ∨ w.heap.size ≤ k_))) HO38.out hg hat); have n1_ := zA (hb); have n2_ := zA (Kept.of_grown (S := (fun k_ => P1_ k_ ∨ P2_ k_)) hg HK.out (fun k_ e_ => (HO_2.out.1 k_ e_).1)); have n3_ := zA (ho); clear HO38; clear HB; clear HK; clear HO_2; have HO38 := n0_; have HB := n1_; have HK := n2_; have HO42 := n3_; clear n0_ n1_ n2_ n3_; clear ho hb hg hat))
          go_roundg k1
          case measure => have := HK1.out; omega
          case rel => exact ⟨(y31), (y32), (wrap64 (x8_1 + 1)), rfl, H', ⟨by have := HK1.out; omega⟩, ⟨by (with_reducible repeat first | apply zQ | apply zR | apply zS); exact HO38.out⟩, ⟨by (with_reducible repeat first | apply zQ | apply zR | apply zS); exact HO42.out⟩, ⟨HK.out⟩, ⟨HB.out⟩⟩
         ·rw [if_neg c11] at H
          exact absurd H (by simp)
        ·rw [if_neg c10] at H
         exact absurd H (by simp)
       ·rw [if_neg c9] at H
        exact absurd H (by simp)
      ·rw [if_neg c8] at H
       exact absurd H (by simp)
     ·rw [if_neg c7] at H
      have c7b0 : decide (x8_1 < (a0.f0.length : Int)) = false := decide_eq_false c7; clear c7; have H' := zA H; clear H; have hx33_0 := HXn0_0.out; have hx33_1 := HXn0_1.out; have hx33_2 := HXn0_2.out; replace hx33_0 := pw_cell_below HB.out hx33_0; replace hx33_1 := pw_cell_below HB.out hx33_1; replace hx33_2 := pw_cell_below HB.out hx33_2; go_wp2_with (first | ((with_reducible refine yB (f := 57) rfl ?_); refine goesL_ (some 19) rfl rfl Try.func57 (by kernel_rfl) rfl #[.pointer (some ⟨a0.adr, 0, none⟩)] rfl (by (try simp only [zAA, zAB, zAC]); first | done | rfl) ?_; (with_reducible refine (spec_l5T_leaf.calls a0 true _ ?side1 A5.out).mono ?_); (case side1 => repeat (first | exact (k95p.K_below HB.out HR0.out) | (with_reducible refine k95p_alloc ?_ _) | (with_reducible refine k95p_drewN ?_ _) | (with_reducible refine k95p_drew ?_))); rintro e w' ⟨rfl, ⟨nd, rfl⟩⟩; refine ⟨_, rfl, ?_⟩; have hx34_0 := HXn0_0.out; have hx34_1 := HXn0_1.out; have hx34_2 := HXn0_2.out; replace hx34_0 := pw_cell_below HB.out hx34_0; replace hx34_1 := pw_cell_below HB.out hx34_1; replace hx34_2 := pw_cell_below HB.out hx34_2)); go_roundg k1
      case measure => have := HK1.out; omega
      case rel => exact ⟨(x1_1), (x2_1), (wrap64 (x8_1 + 1)), rfl, H', ⟨by have := HK1.out; omega⟩, ⟨by (with_reducible repeat first | apply zQ | apply zR | apply zS); exact HO_1.out⟩, ⟨by (with_reducible repeat first | apply zQ | apply zR | apply zS); exact HO_2.out⟩, ⟨HK.out⟩, ⟨by (with_reducible repeat first | exact HB.out | apply zH | apply zF | apply zG) <;> exact HB.out⟩⟩
    ·replace c6 := yO c6
     subst c6; have H1 : (if 0 ≤ x8_1 then (if x8_1 < (a0.f2.length : Int) then ((spec_l5T_all.f k1 (rd_N95 a0.f2 x8_1) x1_1 x2_1).bind fun bt30 => (if x8_1 < (a0.f0.length : Int) then (if bt30.1.length < 8796093022208 then (if x8_1 < (a0.f1.length : Int) then (if bt30.2.length < 8796093022208 then (spec_l5T_all.l0 k1 a0 (bt30.1 ++ [rdOf ByteArray.empty a0.f0 x8_1]) (bt30.2 ++ [rdOf ByteArray.empty a0.f1 x8_1]) (wrap64 (x8_1 + 1))) else (none)) else (none)) else (none)) else (spec_l5T_all.l0 k1 a0 bt30.1 bt30.2 (wrap64 (x8_1 + 1))))) else (none)) else (none)) = some (r1, r2) := by rw [if_neg (show ¬ (false = true) by decide)] at H; exact H
     clear H; have H := H1; clear H1
     by_cases c14 : 0 ≤ x8_1
     ·rw [if_pos c14] at H
      have c14b0 : decide (0 ≤ x8_1) = true := zX c14; clear c14
      by_cases c15 : x8_1 < (a0.f2.length : Int)
      ·rw [if_pos c15] at H
       have c15b0 : decide (x8_1 < (a0.f2.length : Int)) = true := zX c15; clear c15; replace H := zAF H; obtain ⟨⟨t30, t43⟩, A44, H⟩ := H; replace H : (if x8_1 < (a0.f0.length : Int) then (if t30.length < 8796093022208 then (if x8_1 < (a0.f1.length : Int) then (if t43.length < 8796093022208 then (spec_l5T_all.l0 k1 a0 (t30 ++ [rdOf ByteArray.empty a0.f0 x8_1]) (t43 ++ [rdOf ByteArray.empty a0.f1 x8_1]) (wrap64 (x8_1 + 1))) else (none)) else (none)) else (none)) else (spec_l5T_all.l0 k1 a0 t30 t43 (wrap64 (x8_1 + 1)))) = some (r1, r2) := H; have A16 := zA A44; clear A44
       by_cases c17 : x8_1 < (a0.f0.length : Int)
       ·rw [if_pos c17] at H
        have c17b0 : decide (x8_1 < (a0.f0.length : Int)) = true := zX c17; clear c17
        by_cases c18 : t30.length < 8796093022208
        ·rw [if_pos c18] at H
         have LMc18 := zA c18; clear c18; obtain ⟨y45, hy45⟩ : ∃ y_ : List ByteArray, y_ = (t30 ++ [rdOf ByteArray.empty a0.f0 x8_1]) := ⟨_, rfl⟩; replace H : (if x8_1 < (a0.f1.length : Int) then (if t43.length < 8796093022208 then (spec_l5T_all.l0 k1 a0 y45 (t43 ++ [rdOf ByteArray.empty a0.f1 x8_1]) (wrap64 (x8_1 + 1))) else (none)) else (none)) = some (r1, r2) := by first | (rw [hy45]; with_reducible exact H) | (have H2_ := (Option.bind_some _ _).symm.trans H; rw [hy45]; with_reducible exact H2_) | (have H2_ := (Option.bind_some _ _).symm.trans H; with_reducible exact H2_) | with_reducible exact H | (rw [hy45]; exact H) | exact H
         have Ny45 := zA hy45; clear hy45
         by_cases c19 : x8_1 < (a0.f1.length : Int)
         ·rw [if_pos c19] at H
          have c19b0 : decide (x8_1 < (a0.f1.length : Int)) = true := zX c19; clear c19
          by_cases c20 : t43.length < 8796093022208
          ·rw [if_pos c20] at H
           have LMc20 := zA c20; clear c20; obtain ⟨y46, hy46⟩ : ∃ y_ : List ByteArray, y_ = (t43 ++ [rdOf ByteArray.empty a0.f1 x8_1]) := ⟨_, rfl⟩; replace H : (spec_l5T_all.l0 k1 a0 y45 y46 (wrap64 (x8_1 + 1))) = some (r1, r2) := by first | (rw [hy46]; with_reducible exact H) | (have H2_ := (Option.bind_some _ _).symm.trans H; rw [hy46]; with_reducible exact H2_) | (have H2_ := (Option.bind_some _ _).symm.trans H; with_reducible exact H2_) | with_reducible exact H | (rw [hy46]; exact H) | exact H
           have Ny46 := zA hy46; clear hy46; have H' := zA H; clear H; have hx33_0 := HXn0_0.out; have hx33_1 := HXn0_1.out; have hx33_2 := HXn0_2.out; replace hx33_0 := pw_cell_below HB.out hx33_0; replace hx33_1 := pw_cell_below HB.out hx33_1; replace hx33_2 := pw_cell_below HB.out hx33_2; go_wp2_with (first | ((with_reducible refine yB (f := 57) rfl ?_); refine goesL_ (some 19) rfl rfl Try.func57 (by kernel_rfl) rfl #[.pointer (some ⟨a0.adr, 0, none⟩)] rfl (by (try simp only [zAA, zAB, zAC]); first | done | rfl) ?_; (with_reducible refine (spec_l5T_leaf.calls a0 false _ ?side1 A5.out).mono ?_); (case side1 => repeat (first | exact (k95p.K_below (by (with_reducible repeat first | exact HB.out | apply zH | apply zF | apply zG) <;> exact HB.out) HR0.out) | (with_reducible refine k95p_alloc ?_ _) | (with_reducible refine k95p_drewN ?_ _) | (with_reducible refine k95p_drew ?_))); rintro e w' ⟨rfl, ⟨nd, rfl⟩⟩; refine ⟨_, rfl, ?_⟩; have hx47_0 := HXn0_0.out; have hx47_1 := HXn0_1.out; have hx47_2 := HXn0_2.out; replace hx47_0 := pw_cell_below HB.out hx47_0; replace hx47_1 := pw_cell_below HB.out hx47_1; replace hx47_2 := pw_cell_below HB.out hx47_2; have p48 : 0 ≤ (x8_1 : Int) := zW (by first | (with_reducible assumption) | assumption); have q48 : x8_1 < (a0.f2.length : Int) := zW (by first | (with_reducible assumption) | assumption); obtain ⟨ad48, e48, hx48_0⟩ := at_N95 HRn0_2.out x8_1 p48 q48; have HN48 := zA (nd_el95 HRn0_2.out x8_1 p48 q48); obtain ⟨An185_0, cn185_0, An185_1, cn185_1, An185_2, cn185_2, hsn185_0, hsn185_1, hsn185_2, hln185_0, hin185_0, hln185_1, hin185_1, hln185_2, hin185_2⟩ := at_P95 HN48.out; have HXn185_0 := zA hsn185_0; have HRn185_0 := zA hin185_0; have HCn185_0 := zA hln185_0; have HXn185_1 := zA hsn185_1; have HRn185_1 := zA hin185_1; have HCn185_1 := zA hln185_1; have HXn185_2 := zA hsn185_2; have HRn185_2 := zA hin185_2; have HCn185_2 := zA hln185_2; clear hsn185_0 hin185_0 hln185_0 hsn185_1 hin185_1 hln185_1 hsn185_2 hin185_2 hln185_2; cases e48; replace hx48_0 := pw_cell_below HB.out hx48_0; replace p48 := eq_true p48; replace q48 := eq_true q48; obtain ⟨Ao21, co21, eo21⟩ := Kd.R_slice HO_1.out; subst eo21; obtain ⟨Ao22, co22, eo22⟩ := Kd.R_slice HO_2.out; subst eo22) | ((with_reducible refine yB (f := 55) rfl ?_); refine goesL_ (some 31) rfl rfl Try.func55 (by kernel_rfl) rfl #[.pointer (some ⟨(rd_N95 a0.f2 x8_1).adr, 0, none⟩), .slice Ao21 x1_1.length co21, .slice Ao22 x2_1.length co22] rfl (by (try simp only [zAA, zAB, zAC]); first | done | rfl | (simp only [zZ, zY]; rfl)) ?_; (with_reducible refine (ih k1 (by have := HK1.out; omega) (rd_N95 a0.f2 x8_1) (fun k_ => some k_ = (.slice Ao21 x1_1.length co21 : Value).ownBlock) (.slice Ao21 x1_1.length co21) x1_1 (fun k_ => some k_ = (.slice Ao22 x2_1.length co22 : Value).ownBlock) (.slice Ao22 x2_1.length co22) x2_1 t30 t43 w0 _ ?side1 ?side2 ?side3 ?side4 ?side5 ?side6 A16.out).mono ?_); (case side1 => (with_reducible repeat first | exact HB.out | apply zH | apply zF | apply zG) <;> exact HB.out); (case side2 => exact HN48.out); (case side3 => exact Kd.R_tight rfl HO_1.out); (case side4 => exact fun k_ e_ => (HO_1.out.1 k_ e_.symm).2); (case side5 => exact Kd.R_tight rfl HO_2.out); (case side6 => exact fun k_ e_ => (HO_2.out.1 k_ e_.symm).2); rintro e w23 ⟨v49, v51, rfl, ho0, ho1, hb, hkp⟩; refine ⟨_, rfl, ?_⟩; have n0_ := zA (yC (ok' := fun k_ => ((P1_ k_ ∨ P2_ k_) ∨ w.heap.size ≤ k_) ∧ some k_ ≠ (v51 : Value).ownBlock) ho0 (fun k_ hk_ => ⟨Or.elim hk_.1 (fun hs_ => Or.elim hs_ (fun hs_ => (HO_1.out.1 k_ (hs_).symm).1) (fun hs_ => (HO_2.out.1 k_ (hs_).symm).1)) (fun hn_ => (.inr (Nat.le_trans (by first | exact HK.out.1 | exact (show Kept w _ (fun k_ => P1_ k_ ∨ P2_ k_) from by repeat (first | (with_reducible first | exact HK.out | apply Kept.alloc | apply Kept.drewN | apply Kept.drew) | exact HK.out)).1) hn_))), hk_.2⟩)); have n1_ := zA (yC (ok' := fun k_ => ((P1_ k_ ∨ P2_ k_) ∨ w.heap.size ≤ k_) ∧ some k_ ≠ (v49 : Value).ownBlock) ho1 (fun k_ hk_ => ⟨Or.elim hk_.1 (fun hs_ => Or.elim hs_ (fun hs_ => (HO_1.out.1 k_ (hs_).symm).1) (fun hs_ => (HO_2.out.1 k_ (hs_).symm).1)) (fun hn_ => (.inr (Nat.le_trans (by first | exact HK.out.1 | exact (show Kept w _ (fun k_ => P1_ k_ ∨ P2_ k_) from HK.out).1) hn_))), hk_.2⟩)); have n2_ := zA (Kept.then_ (S := (fun k_ => P1_ k_ ∨ P2_ k_)) HK.out hkp (fun k_ hs_ => Or.elim hs_ (fun e_ => (fun e_ => (HO_1.out.1 k_ e_.symm).1) e_) (fun e_ => (fun e_ => (HO_2.out.1 k_ e_.symm).1) e_))); have n3_ := zA (hb); clear HK; clear HB; clear HO_1; clear HO_2; have HO52 := n0_; have HO53 := n1_; have HK := n2_; have HB := n3_; clear n0_ n1_ n2_ n3_; (try clear hb); (try clear hkp); (try clear ho0); (try clear ho1); have hx55_0 := HXn0_0.out; have hx55_1 := HXn0_1.out; have hx55_2 := HXn0_2.out; replace hx55_0 := pw_cell_below HB.out hx55_0; replace hx55_1 := pw_cell_below HB.out hx55_1; replace hx55_2 := pw_cell_below HB.out hx55_2; have hx56_0 := HXn0_0.out; have hx56_1 := HXn0_1.out; have hx56_2 := HXn0_2.out; replace hx56_0 := pw_cell_below HB.out hx56_0; replace hx56_1 := pw_cell_below HB.out hx56_1; replace hx56_2 := pw_cell_below HB.out hx56_2; have p57 : 0 ≤ (x8_1 : Int) := zW (by assumption); have q57 : x8_1 < (a0.f0.length : Int) := zW (by assumption); obtain ⟨ad57, e57, hx57_0⟩ := Kd.at_string HRn0_0.out x8_1 p57 q57; cases e57; replace hx57_0 := pw_cell_below HB.out hx57_0; replace p57 := eq_true p57; replace q57 := eq_true q57) | ((with_reducible refine gate_builtin (b := .append) (xs := #[.tmp 41, .tmp 49]) rfl ?_); at_builtin; refine Kd.R_append Kd.string (w0 := w0) w0.heap.size rfl (.tmp 41) (.tmp 49) 41 9 (.string ⟨#[]⟩) 16 rfl Try.underlying41 info9 rfl (by decide) (by omega) v49 t30 (rdOf ByteArray.empty a0.f0 x8_1) [.string (rdOf ByteArray.empty a0.f0 x8_1)] (fun k_ => ((P1_ k_ ∨ P2_ k_) ∨ w.heap.size ≤ k_) ∧ some k_ ≠ (v51 : Value).ownBlock) (fun _ => False) rfl rfl ?aP (fun _ hk => hk.elim) ?aF ?aO ?aB ?aS ?aL ?_; (case aP => exact rfl); (case aB => exact HB.out); (case aF => exact (fun k_ hk => ⟨(.inr (Nat.le_trans (by first | exact HK.out.1 | exact (show Kept w _ (fun k_ => P1_ k_ ∨ P2_ k_) from HK.out).1) hk)), Kd.fresh' (Kd.R_lt HO53.out) k_ hk⟩)); (case aO => exact HO52.out); (case aS => exact (zAE HB.out)); (case aL => have := LMc18.out; omega); intro v58 w24 ho hb hg hat; rw [← Ny45.out] at ho; have n0_ := zA (Kd.R_after (ok := (fun k_ => ((P1_ k_ ∨ P2_ k_) ∨ w.heap.size ≤ k_))) HO53.out hg hat); have n1_ := zA (hb); have n2_ := zA (Kept.of_grown (S := (fun k_ => P1_ k_ ∨ P2_ k_)) hg HK.out (fun k_ e_ => (HO52.out.1 k_ e_).1)); have n3_ := zA (ho); clear HO53; clear HB; clear HK; clear HO52; have HO53 := n0_; have HB := n1_; have HK := n2_; have HO59 := n3_; clear n0_ n1_ n2_ n3_; clear ho hb hg hat; have hx60_0 := HXn0_0.out; have hx60_1 := HXn0_1.out; have hx60_2 := HXn0_2.out; replace hx60_0 := pw_cell_below HB.out hx60_0; replace hx60_1 := pw_cell_below HB.out hx60_1; replace hx60_2 := pw_cell_below HB.out hx60_2; have p61 : 0 ≤ (x8_1 : Int) := zW (by assumption); have q61 : x8_1 < (a0.f1.length : Int) := zW (by assumption); obtain ⟨ad61, e61, hx61_0⟩ := Kd.at_string HRn0_1.out x8_1 p61 q61; cases e61; replace hx61_0 := pw_cell_below HB.out hx61_0; replace p61 := eq_true p61; replace q61 := eq_true q61) | ((with_reducible refine gate_builtin (b := .append) (xs := #[.tmp 51, .tmp 59]) rfl ?_); at_builtin; refine Kd.R_append Kd.string (w0 := w0) w0.heap.size rfl (.tmp 51) (.tmp 59) 41 9 (.string ⟨#[]⟩) 16 rfl Try.underlying41 info9 rfl (by decide) (by omega) v51 t43 (rdOf ByteArray.empty a0.f1 x8_1) [.string (rdOf ByteArray.empty a0.f1 x8_1)] (fun k_ => ((P1_ k_ ∨ P2_ k_) ∨ w.heap.size ≤ k_) ∧ some k_ ≠ (v58 : Value).ownBlock) (fun _ => False) rfl rfl ?aP (fun _ hk => hk.elim) ?aF ?aO ?aB ?aS ?aL ?_; (case aP => exact rfl); (case aB => exact HB.out); (case aF => exact (fun k_ hk => ⟨(.inr (Nat.le_trans (by first | exact HK.out.1 | exact (show Kept w _ (fun k_ => P1_ k_ ∨ P2_ k_) from HK.out).1) hk)), Kd.fresh' (Kd.R_lt HO59.out) k_ hk⟩)); (case aO => exact HO53.out); (case aS => exact (zAE HB.out)); (case aL => have := LMc20.out; omega); intro v62 w25 ho hb hg hat; rw [← Ny46.out] at ho; have n0_ := zA (Kd.R_after (ok := (fun k_ => ((P1_ k_ ∨ P2_ k_) ∨ w.heap.size ≤ k_))) HO59.out hg hat); have n1_ := zA (hb); have n2_ := zA (Kept.of_grown (S := (fun k_ => P1_ k_ ∨ P2_ k_)) hg HK.out (fun k_ e_ => (HO53.out.1 k_ e_).1)); have n3_ := zA (ho); clear HO59; clear HB; clear HK; clear HO53; have HO59 := n0_; have HB := n1_; have HK := n2_; have HO63 := n3_; clear n0_ n1_ n2_ n3_; clear ho hb hg hat))
           go_roundg k1
           case measure => have := HK1.out; omega
           case rel => exact ⟨(y45), (y46), (wrap64 (x8_1 + 1)), rfl, H', ⟨by have := HK1.out; omega⟩, ⟨by (with_reducible repeat first | apply zQ | apply zR | apply zS); exact HO59.out⟩, ⟨by (with_reducible repeat first | apply zQ | apply zR | apply zS); exact HO63.out⟩, ⟨HK.out⟩, ⟨HB.out⟩⟩
          ·rw [if_neg c20] at H
           exact absurd H (by simp)
         ·rw [if_neg c19] at H
          exact absurd H (by simp)
        ·rw [if_neg c18] at H
         exact absurd H (by simp)
       ·rw [if_neg c17] at H
        have c17b0 : decide (x8_1 < (a0.f0.length : Int)) = false := decide_eq_false c17; clear c17; have H' := zA H; clear H; have hx33_0 := HXn0_0.out; have hx33_1 := HXn0_1.out; have hx33_2 := HXn0_2.out; replace hx33_0 := pw_cell_below HB.out hx33_0; replace hx33_1 := pw_cell_below HB.out hx33_1; replace hx33_2 := pw_cell_below HB.out hx33_2; go_wp2_with (first | ((with_reducible refine yB (f := 57) rfl ?_); refine goesL_ (some 19) rfl rfl Try.func57 (by kernel_rfl) rfl #[.pointer (some ⟨a0.adr, 0, none⟩)] rfl (by (try simp only [zAA, zAB, zAC]); first | done | rfl) ?_; (with_reducible refine (spec_l5T_leaf.calls a0 false _ ?side1 A5.out).mono ?_); (case side1 => repeat (first | exact (k95p.K_below HB.out HR0.out) | (with_reducible refine k95p_alloc ?_ _) | (with_reducible refine k95p_drewN ?_ _) | (with_reducible refine k95p_drew ?_))); rintro e w' ⟨rfl, ⟨nd, rfl⟩⟩; refine ⟨_, rfl, ?_⟩; have hx47_0 := HXn0_0.out; have hx47_1 := HXn0_1.out; have hx47_2 := HXn0_2.out; replace hx47_0 := pw_cell_below HB.out hx47_0; replace hx47_1 := pw_cell_below HB.out hx47_1; replace hx47_2 := pw_cell_below HB.out hx47_2; have p48 : 0 ≤ (x8_1 : Int) := zW (by assumption); have q48 : x8_1 < (a0.f2.length : Int) := zW (by assumption); obtain ⟨ad48, e48, hx48_0⟩ := at_N95 HRn0_2.out x8_1 p48 q48; have HN48 := zA (nd_el95 HRn0_2.out x8_1 p48 q48); obtain ⟨An185_0, cn185_0, An185_1, cn185_1, An185_2, cn185_2, hsn185_0, hsn185_1, hsn185_2, hln185_0, hin185_0, hln185_1, hin185_1, hln185_2, hin185_2⟩ := at_P95 HN48.out; have HXn185_0 := zA hsn185_0; have HRn185_0 := zA hin185_0; have HCn185_0 := zA hln185_0; have HXn185_1 := zA hsn185_1; have HRn185_1 := zA hin185_1; have HCn185_1 := zA hln185_1; have HXn185_2 := zA hsn185_2; have HRn185_2 := zA hin185_2; have HCn185_2 := zA hln185_2; clear hsn185_0 hin185_0 hln185_0 hsn185_1 hin185_1 hln185_1 hsn185_2 hin185_2 hln185_2; cases e48; replace hx48_0 := pw_cell_below HB.out hx48_0; replace p48 := eq_true p48; replace q48 := eq_true q48; obtain ⟨Ao26, co26, eo26⟩ := Kd.R_slice HO_1.out; subst eo26; obtain ⟨Ao27, co27, eo27⟩ := Kd.R_slice HO_2.out; subst eo27) | ((with_reducible refine yB (f := 55) rfl ?_); refine goesL_ (some 31) rfl rfl Try.func55 (by kernel_rfl) rfl #[.pointer (some ⟨(rd_N95 a0.f2 x8_1).adr, 0, none⟩), .slice Ao26 x1_1.length co26, .slice Ao27 x2_1.length co27] rfl (by (try simp only [zAA, zAB, zAC]); first | done | rfl | (simp only [zZ, zY]; rfl)) ?_; (with_reducible refine (ih k1 (by have := HK1.out; omega) (rd_N95 a0.f2 x8_1) (fun k_ => some k_ = (.slice Ao26 x1_1.length co26 : Value).ownBlock) (.slice Ao26 x1_1.length co26) x1_1 (fun k_ => some k_ = (.slice Ao27 x2_1.length co27 : Value).ownBlock) (.slice Ao27 x2_1.length co27) x2_1 t30 t43 w0 _ ?side1 ?side2 ?side3 ?side4 ?side5 ?side6 A16.out).mono ?_); (case side1 => (with_reducible repeat first | exact HB.out | apply zH | apply zF | apply zG) <;> exact HB.out); (case side2 => exact HN48.out); (case side3 => exact Kd.R_tight rfl HO_1.out); (case side4 => exact fun k_ e_ => (HO_1.out.1 k_ e_.symm).2); (case side5 => exact Kd.R_tight rfl HO_2.out); (case side6 => exact fun k_ e_ => (HO_2.out.1 k_ e_.symm).2); rintro e w28 ⟨v49, v51, rfl, ho0, ho1, hb, hkp⟩; refine ⟨_, rfl, ?_⟩; have n0_ := zA (yC (ok' := fun k_ => ((P1_ k_ ∨ P2_ k_) ∨ w.heap.size ≤ k_) ∧ some k_ ≠ (v51 : Value).ownBlock) ho0 (fun k_ hk_ => ⟨Or.elim hk_.1 (fun hs_ => Or.elim hs_ (fun hs_ => (HO_1.out.1 k_ (hs_).symm).1) (fun hs_ => (HO_2.out.1 k_ (hs_).symm).1)) (fun hn_ => (.inr (Nat.le_trans (by first | exact HK.out.1 | exact (show Kept w _ (fun k_ => P1_ k_ ∨ P2_ k_) from HK.out).1) hn_))), hk_.2⟩)); have n1_ := zA (yC (ok' := fun k_ => ((P1_ k_ ∨ P2_ k_) ∨ w.heap.size ≤ k_) ∧ some k_ ≠ (v49 : Value).ownBlock) ho1 (fun k_ hk_ => ⟨Or.elim hk_.1 (fun hs_ => Or.elim hs_ (fun hs_ => (HO_1.out.1 k_ (hs_).symm).1) (fun hs_ => (HO_2.out.1 k_ (hs_).symm).1)) (fun hn_ => (.inr (Nat.le_trans (by first | exact HK.out.1 | exact (show Kept w _ (fun k_ => P1_ k_ ∨ P2_ k_) from HK.out).1) hn_))), hk_.2⟩)); have n2_ := zA (Kept.then_ (S := (fun k_ => P1_ k_ ∨ P2_ k_)) HK.out hkp (fun k_ hs_ => Or.elim hs_ (fun e_ => (fun e_ => (HO_1.out.1 k_ e_.symm).1) e_) (fun e_ => (fun e_ => (HO_2.out.1 k_ e_.symm).1) e_))); have n3_ := zA (hb); clear HK; clear HB; clear HO_1; clear HO_2; have HO52 := n0_; have HO53 := n1_; have HK := n2_; have HB := n3_; clear n0_ n1_ n2_ n3_; (try clear hb); (try clear hkp); (try clear ho0); (try clear ho1); have hx55_0 := HXn0_0.out; have hx55_1 := HXn0_1.out; have hx55_2 := HXn0_2.out; replace hx55_0 := pw_cell_below HB.out hx55_0; replace hx55_1 := pw_cell_below HB.out hx55_1; replace hx55_2 := pw_cell_below HB.out hx55_2)); go_roundg k1
        case measure => have := HK1.out; omega
        case rel => exact ⟨(t30), (t43), (wrap64 (x8_1 + 1)), rfl, H', ⟨by have := HK1.out; omega⟩, ⟨by (with_reducible repeat first | apply zQ | apply zR | apply zS); exact HO52.out⟩, ⟨by (with_reducible repeat first | apply zQ | apply zR | apply zS); exact HO53.out⟩, ⟨HK.out⟩, ⟨HB.out⟩⟩
      ·rw [if_neg c15] at H
       exact absurd H (by simp)
     ·rw [if_neg c14] at H
      exact absurd H (by simp)
   ·rw [if_neg c4] at H
    have c4b0 : decide (x8_1 ≤ (a0.f0.length : Int)) = false := decide_eq_false c4; clear c4; simp only [Option.some.injEq, Prod.mk.injEq] at H; obtain ⟨rfl, rfl⟩ := H; have hx33_0 := HXn0_0.out; have hx33_1 := HXn0_1.out; have hx33_2 := HXn0_2.out; replace hx33_0 := pw_cell_below HB.out hx33_0; replace hx33_1 := pw_cell_below HB.out hx33_1; replace hx33_2 := pw_cell_below HB.out hx33_2; go_wp2; go_ret2; exact ⟨_, _, by first | rfl | (simp <;> rfl) | (simp [*] <;> rfl), by (with_reducible repeat first | apply zQ | apply zR | apply zS); exact HO_1.out, by (with_reducible repeat first | apply zQ | apply zR | apply zS); exact HO_2.out, HB.out, HK.out⟩
mutual
def spec_l5T_even.l0 : Nat → Int → List (S95) → Int → Int → Option (Int)
 | 0, _, _, _, _ => none
 | k + 1, x3, x18, x19, x20 => if x20 < x19 then (if 0 ≤ x20 then (if x20 < (x18.length : Int) then (if x3 < 0 then (some (-1)) else ((spec_l5T_even.f k (rd_N95 x18 x20)).bind fun t10 => (if t10 = x3 then (if (((rd_N95 x18 x20).f0).length : Int) < 2 then (some (-1)) else (spec_l5T_even.l0 k x3 x18 x19 (wrap64 (x20 + 1)))) else (some (-1))))) else (none)) else (none)) else (some (wrap64 (x3 + 1)))
def spec_l5T_even.f : Nat → S95 → Option (Int)
 | 0, _ => none
 | k + 1, a0 => (spec_l5T_leaf.f a0).bind fun t11 => (if t11 = true then (some 1) else (if 0 < (a0.f2.length : Int) then ((spec_l5T_even.f k (rd_N95 a0.f2 0)).bind fun t12 => (spec_l5T_even.l0 k t12 a0.f2 (a0.f2.length : Int) 0)) else (none)))
end
theorem spec_l5T_even.calls (k : Nat) : ∀ (a0 : S95) (r : Int) (w : World) (hr0 : k95p.K w a0 [.pointer (some ⟨a0.adr, 0, none⟩)]) (h : spec_l5T_even.f k a0 = some r),
  Calls Try.prog 56 #[.pointer (some ⟨a0.adr, 0, none⟩)] w fun e w' => e = .returned (.int .i64 r) ∧ Drawn0 w w' := by
 induction k using Nat.strongRecOn with
 | _ k ih =>
 intro a0 r w hr0 h
 cases k with
 | zero => exact absurd h (by simp [spec_l5T_even.f])
 | succ k =>
 simp only [spec_l5T_even.f] at h; have hu95 := Try.underlying95; have hu54 := Try.underlying54; have HR0 := zA hr0; clear hr0; obtain ⟨An0_0, cn0_0, An0_1, cn0_1, An0_2, cn0_2, hsn0_0, hsn0_1, hsn0_2, hln0_0, hin0_0, hln0_1, hin0_1, hln0_2, hin0_2⟩ := at_P95 HR0.out; have HXn0_0 := zA hsn0_0; have HRn0_0 := zA hin0_0; have HCn0_0 := zA hln0_0; have HXn0_1 := zA hsn0_1; have HRn0_1 := zA hin0_1; have HCn0_1 := zA hln0_1; have HXn0_2 := zA hsn0_2; have HRn0_2 := zA hin0_2; have HCn0_2 := zA hln0_2; clear hsn0_0 hin0_0 hln0_0 hsn0_1 hin0_1 hln0_1 hsn0_2 hin0_2 hln0_2; have H : ((spec_l5T_leaf.f a0).bind fun t13 => (if t13 = true then (some 1) else (if 0 < (a0.f2.length : Int) then ((spec_l5T_even.f k (rd_N95 a0.f2 0)).bind fun t14 => (spec_l5T_even.l0 k t14 a0.f2 (a0.f2.length : Int) 0)) else (none)))) = some r := h; clear h; replace H := zAF H; obtain ⟨t13, A20, H⟩ := H; replace H : (if t13 = true then (some 1) else (if 0 < (a0.f2.length : Int) then ((spec_l5T_even.f k (rd_N95 a0.f2 0)).bind fun t14 => (spec_l5T_even.l0 k t14 a0.f2 (a0.f2.length : Int) 0)) else (none))) = some r := H; have A2 := zA A20; clear A20
 by_cases c3 : t13 = true
 ·subst c3
  have H1 : (some 1) = some r := by rw [if_pos rfl] at H; exact H
  clear H; have H := H1; clear H1; obtain rfl := yM H; go_enter Try.func56, Try.ntmps56; go_wp2_with (first | ((with_reducible refine yB (f := 57) rfl ?_); refine goesL_ (some 7) rfl rfl Try.func57 (by kernel_rfl) rfl #[.pointer (some ⟨a0.adr, 0, none⟩)] rfl (by (try simp only [zAA, zAB, zAC]); first | done | rfl) ?_; (with_reducible refine (spec_l5T_leaf.calls a0 true _ ?side1 A2.out).mono ?_); (case side1 => repeat (first | exact HR0.out | (with_reducible refine k95p_alloc ?_ _) | (with_reducible refine k95p_drewN ?_ _) | (with_reducible refine k95p_drew ?_))); rintro e w' ⟨rfl, ⟨nd, rfl⟩⟩; refine ⟨_, rfl, ?_⟩)); go_ret; exact ⟨by first | rfl | (simp; done) | (simp [*]; done) | (simp [bne]; done), by repeat (first | exact Drawn0.refl _ | apply Drawn0.step)⟩
 ·replace c3 := yO c3
  subst c3; have H1 : (if 0 < (a0.f2.length : Int) then ((spec_l5T_even.f k (rd_N95 a0.f2 0)).bind fun t14 => (spec_l5T_even.l0 k t14 a0.f2 (a0.f2.length : Int) 0)) else (none)) = some r := by rw [if_neg (show ¬ (false = true) by decide)] at H; exact H
  clear H; have H := H1; clear H1
  by_cases c4 : 0 < (a0.f2.length : Int)
  ·rw [if_pos c4] at H
   have c4b0 : decide (0 < (a0.f2.length : Int)) = true := zX c4; have c4b1 : decide (0 < a0.f2.length) = true := zX (by omega); clear c4; replace H := zAF H; obtain ⟨t14, A50, H⟩ := H; replace H : (spec_l5T_even.l0 k t14 a0.f2 (a0.f2.length : Int) 0) = some r := H; have A5 := zA A50; clear A50; have H' := zA H; clear H; go_enter Try.func56, Try.ntmps56; go_wp2_with (first | ((with_reducible refine yB (f := 57) rfl ?_); refine goesL_ (some 7) rfl rfl Try.func57 (by kernel_rfl) rfl #[.pointer (some ⟨a0.adr, 0, none⟩)] rfl (by (try simp only [zAA, zAB, zAC]); first | done | rfl) ?_; (with_reducible refine (spec_l5T_leaf.calls a0 false _ ?side1 A2.out).mono ?_); (case side1 => repeat (first | exact HR0.out | (with_reducible refine k95p_alloc ?_ _) | (with_reducible refine k95p_drewN ?_ _) | (with_reducible refine k95p_drew ?_))); rintro e w' ⟨rfl, ⟨nd, rfl⟩⟩; refine ⟨_, rfl, ?_⟩; have hx15_0 := HXn0_0.out; have hx15_1 := HXn0_1.out; have hx15_2 := HXn0_2.out; have p16 : 0 ≤ (0 : Int) := (by omega); have q16 : 0 < (a0.f2.length : Int) := zW (by assumption); obtain ⟨ad16, e16, hx16_0⟩ := at_N95 HRn0_2.out 0 p16 q16; have HN16 := zA (nd_el95 HRn0_2.out 0 p16 q16); obtain ⟨An205_0, cn205_0, An205_1, cn205_1, An205_2, cn205_2, hsn205_0, hsn205_1, hsn205_2, hln205_0, hin205_0, hln205_1, hin205_1, hln205_2, hin205_2⟩ := at_P95 HN16.out; have HXn205_0 := zA hsn205_0; have HRn205_0 := zA hin205_0; have HCn205_0 := zA hln205_0; have HXn205_1 := zA hsn205_1; have HRn205_1 := zA hin205_1; have HCn205_1 := zA hln205_1; have HXn205_2 := zA hsn205_2; have HRn205_2 := zA hin205_2; have HCn205_2 := zA hln205_2; clear hsn205_0 hin205_0 hln205_0 hsn205_1 hin205_1 hln205_1 hsn205_2 hin205_2 hln205_2; cases e16; have qi205 : (0 < a0.f2.length) = True := eq_true (by omega); (try rw [show ((0 : Int)).toNat = 0 from rfl] at hx16_0); (try rw [Addr.add_zero'] at hx16_0); replace p16 := eq_true p16; replace q16 := eq_true q16) | ((with_reducible refine yB (f := 56) rfl ?_); refine goesL_ (some 14) rfl rfl Try.func56 (by kernel_rfl) rfl #[.pointer (some ⟨(rd_N95 a0.f2 0).adr, 0, none⟩)] rfl (by (try simp only [zAA, zAB, zAC]); first | done | rfl) ?_; (with_reducible refine (ih k (by omega) (rd_N95 a0.f2 0) t14 _ ?side1 A5.out).mono ?_); (case side1 => repeat (first | exact HN16.out | (with_reducible refine k95p_alloc ?_ _) | (with_reducible refine k95p_drewN ?_ _) | (with_reducible refine k95p_drew ?_))); rintro e w' ⟨rfl, ⟨nd, rfl⟩⟩; refine ⟨_, rfl, ?_⟩; have hx17_0 := HXn0_0.out; have hx17_1 := HXn0_1.out; have hx17_2 := HXn0_2.out)); go_loopg [20] k (fun kq v20 w' => ∃ (x20_1 : Int), v20 = .int .i64 x20_1 ∧ Aside0 (spec_l5T_even.l0 kq t14 a0.f2 (a0.f2.length : Int) x20_1 = some r) ∧ Aside0 (kq ≤ k) ∧ Drawn0 w w')
   case atStart => exact ⟨(0), rfl, H', ⟨Nat.le_refl _⟩, by repeat (first | exact Drawn0.refl _ | apply Drawn0.step)⟩
   case round =>
    clear H'
    try clear p2
    try clear q2
    try clear hx2
    try clear qi2
    try clear c3
    try clear c4
    try clear c4b0
    try clear c4b1
    try clear c5
    try clear hx15_0
    try clear hx15_1
    try clear hx15_2
    try clear hx16_0
    try clear hx17_0
    try clear hx17_1
    try clear hx17_2
    try clear p16
    try clear q16
    obtain ⟨x20_1, rfl, HA, HK1, ⟨m1, rfl⟩⟩ := hrel
    cases gk with
    | zero => exact absurd HA.out (by simp [spec_l5T_even.l0])
    | succ k1 =>
     have H := HA.out; clear HA; simp only [spec_l5T_even.l0] at H
     by_cases c6 : x20_1 < (a0.f2.length : Int)
     ·rw [if_pos c6] at H
      have c6b0 : decide (x20_1 < (a0.f2.length : Int)) = true := zX c6; clear c6
      by_cases c7 : 0 ≤ x20_1
      ·rw [if_pos c7] at H
       have c7b0 : decide (0 ≤ x20_1) = true := zX c7; clear c7
       by_cases c8 : x20_1 < (a0.f2.length : Int)
       ·rw [if_pos c8] at H
        have c8b0 : decide (x20_1 < (a0.f2.length : Int)) = true := zX c8; clear c8
        by_cases c9 : t14 < 0
        ·rw [if_pos c9] at H
         have c9b0 : decide (t14 < 0) = true := zX c9; clear c9; obtain rfl := yM H; have p18 : 0 ≤ (x20_1 : Int) := zW (by assumption); have q18 : x20_1 < (a0.f2.length : Int) := zW (by assumption); obtain ⟨ad18, e18, hx18_0⟩ := at_N95 HRn0_2.out x20_1 p18 q18; have HN18 := zA (nd_el95 HRn0_2.out x20_1 p18 q18); obtain ⟨An208_0, cn208_0, An208_1, cn208_1, An208_2, cn208_2, hsn208_0, hsn208_1, hsn208_2, hln208_0, hin208_0, hln208_1, hin208_1, hln208_2, hin208_2⟩ := at_P95 HN18.out; have HXn208_0 := zA hsn208_0; have HRn208_0 := zA hin208_0; have HCn208_0 := zA hln208_0; have HXn208_1 := zA hsn208_1; have HRn208_1 := zA hin208_1; have HCn208_1 := zA hln208_1; have HXn208_2 := zA hsn208_2; have HRn208_2 := zA hin208_2; have HCn208_2 := zA hln208_2; clear hsn208_0 hin208_0 hln208_0 hsn208_1 hin208_1 hln208_1 hsn208_2 hin208_2 hln208_2; obtain rfl : ad16 = ad18 := (by injection e18); replace p18 := eq_true p18; replace q18 := eq_true q18; go_wp2; go_ret; exact ⟨by first | rfl | (simp; done) | (simp [*]; done) | (simp [bne]; done), by repeat (first | exact Drawn0.refl _ | apply Drawn0.step)⟩
        ·rw [if_neg c9] at H
         have c9b0 : decide (t14 < 0) = false := decide_eq_false c9; clear c9; replace H := zAF H; obtain ⟨t19, A21, H⟩ := H; replace H : (if t19 = t14 then (if (((rd_N95 a0.f2 x20_1).f0).length : Int) < 2 then (some (-1)) else (spec_l5T_even.l0 k1 t14 a0.f2 (a0.f2.length : Int) (wrap64 (x20_1 + 1)))) else (some (-1))) = some r := H; have A10 := zA A21; clear A21
         by_cases c11 : t19 = t14
         ·rw [if_pos c11] at H
          have c11b0 : (t19 == t14) = true := beq_iff_eq.mpr c11; have c11b1 : (t19 != t14) = false := bne_eq_false_iff_eq.mpr c11; clear c11
          by_cases c12 : (((rd_N95 a0.f2 x20_1).f0).length : Int) < 2
          ·rw [if_pos c12] at H
           have c12b0 : decide ((((rd_N95 a0.f2 x20_1).f0).length : Int) < 2) = true := zX c12; have c12b1 : decide (((rd_N95 a0.f2 x20_1).f0).length < 2) = true := zX (by omega); clear c12; obtain rfl := yM H; have p18 : 0 ≤ (x20_1 : Int) := zW (by assumption); have q18 : x20_1 < (a0.f2.length : Int) := zW (by assumption); obtain ⟨ad18, e18, hx18_0⟩ := at_N95 HRn0_2.out x20_1 p18 q18; have HN18 := zA (nd_el95 HRn0_2.out x20_1 p18 q18); obtain ⟨An208_0, cn208_0, An208_1, cn208_1, An208_2, cn208_2, hsn208_0, hsn208_1, hsn208_2, hln208_0, hin208_0, hln208_1, hin208_1, hln208_2, hin208_2⟩ := at_P95 HN18.out; have HXn208_0 := zA hsn208_0; have HRn208_0 := zA hin208_0; have HCn208_0 := zA hln208_0; have HXn208_1 := zA hsn208_1; have HRn208_1 := zA hin208_1; have HCn208_1 := zA hln208_1; have HXn208_2 := zA hsn208_2; have HRn208_2 := zA hin208_2; have HCn208_2 := zA hln208_2; clear hsn208_0 hin208_0 hln208_0 hsn208_1 hin208_1 hln208_1 hsn208_2 hin208_2 hln208_2; obtain rfl : ad16 = ad18 := (by injection e18); replace p18 := eq_true p18; replace q18 := eq_true q18; go_wp2_with (first | (go_at_call 56; (with_reducible refine (ih k1 (by have := HK1.out; omega) (rd_N95 a0.f2 x20_1) t19 _ ?side1 A10.out).mono ?_); (case side1 => repeat (first | exact HN18.out | (with_reducible refine k95p_alloc ?_ _) | (with_reducible refine k95p_drewN ?_ _) | (with_reducible refine k95p_drew ?_))); rintro e w' ⟨rfl, ⟨nd, rfl⟩⟩; have hx22_0 := HXn208_0.out; have hx22_1 := HXn208_1.out; have hx22_2 := HXn208_2.out)); go_ret; exact ⟨by first | rfl | (simp; done) | (simp [*]; done) | (simp [bne]; done), by repeat (first | exact Drawn0.refl _ | apply Drawn0.step)⟩
          ·rw [if_neg c12] at H
           have c12b0 : decide ((((rd_N95 a0.f2 x20_1).f0).length : Int) < 2) = false := decide_eq_false c12; have c12b1 : decide (((rd_N95 a0.f2 x20_1).f0).length < 2) = false := decide_eq_false (by omega); clear c12; have H' := zA H; clear H; have p18 : 0 ≤ (x20_1 : Int) := zW (by assumption); have q18 : x20_1 < (a0.f2.length : Int) := zW (by assumption); obtain ⟨ad18, e18, hx18_0⟩ := at_N95 HRn0_2.out x20_1 p18 q18; have HN18 := zA (nd_el95 HRn0_2.out x20_1 p18 q18); obtain ⟨An208_0, cn208_0, An208_1, cn208_1, An208_2, cn208_2, hsn208_0, hsn208_1, hsn208_2, hln208_0, hin208_0, hln208_1, hin208_1, hln208_2, hin208_2⟩ := at_P95 HN18.out; have HXn208_0 := zA hsn208_0; have HRn208_0 := zA hin208_0; have HCn208_0 := zA hln208_0; have HXn208_1 := zA hsn208_1; have HRn208_1 := zA hin208_1; have HCn208_1 := zA hln208_1; have HXn208_2 := zA hsn208_2; have HRn208_2 := zA hin208_2; have HCn208_2 := zA hln208_2; clear hsn208_0 hin208_0 hln208_0 hsn208_1 hin208_1 hln208_1 hsn208_2 hin208_2 hln208_2; obtain rfl : ad16 = ad18 := (by injection e18); replace p18 := eq_true p18; replace q18 := eq_true q18; go_wp2_with (first | (go_at_call 56; (with_reducible refine (ih k1 (by have := HK1.out; omega) (rd_N95 a0.f2 x20_1) t19 _ ?side1 A10.out).mono ?_); (case side1 => repeat (first | exact HN18.out | (with_reducible refine k95p_alloc ?_ _) | (with_reducible refine k95p_drewN ?_ _) | (with_reducible refine k95p_drew ?_))); rintro e w' ⟨rfl, ⟨nd, rfl⟩⟩; have hx22_0 := HXn208_0.out; have hx22_1 := HXn208_1.out; have hx22_2 := HXn208_2.out)); go_roundg k1
           case measure => have := HK1.out; omega
           case rel => exact ⟨(wrap64 (x20_1 + 1)), rfl, H', ⟨by have := HK1.out; omega⟩, by repeat (first | exact Drawn0.refl _ | apply Drawn0.step)⟩
         ·rw [if_neg c11] at H
          have c11b0 : (t19 == t14) = false := beq_eq_false_iff_ne.mpr c11; have c11b1 : (t19 != t14) = true := bne_iff_ne.mpr c11; obtain rfl := yM H; have p18 : 0 ≤ (x20_1 : Int) := zW (by assumption); have q18 : x20_1 < (a0.f2.length : Int) := zW (by assumption); obtain ⟨ad18, e18, hx18_0⟩ := at_N95 HRn0_2.out x20_1 p18 q18; have HN18 := zA (nd_el95 HRn0_2.out x20_1 p18 q18); obtain ⟨An208_0, cn208_0, An208_1, cn208_1, An208_2, cn208_2, hsn208_0, hsn208_1, hsn208_2, hln208_0, hin208_0, hln208_1, hin208_1, hln208_2, hin208_2⟩ := at_P95 HN18.out; have HXn208_0 := zA hsn208_0; have HRn208_0 := zA hin208_0; have HCn208_0 := zA hln208_0; have HXn208_1 := zA hsn208_1; have HRn208_1 := zA hin208_1; have HCn208_1 := zA hln208_1; have HXn208_2 := zA hsn208_2; have HRn208_2 := zA hin208_2; have HCn208_2 := zA hln208_2; clear hsn208_0 hin208_0 hln208_0 hsn208_1 hin208_1 hln208_1 hsn208_2 hin208_2 hln208_2; obtain rfl : ad16 = ad18 := (by injection e18); replace p18 := eq_true p18; replace q18 := eq_true q18; go_wp2_with (first | (go_at_call 56; (with_reducible refine (ih k1 (by have := HK1.out; omega) (rd_N95 a0.f2 x20_1) t19 _ ?side1 A10.out).mono ?_); (case side1 => repeat (first | exact HN18.out | (with_reducible refine k95p_alloc ?_ _) | (with_reducible refine k95p_drewN ?_ _) | (with_reducible refine k95p_drew ?_))); rintro e w' ⟨rfl, ⟨nd, rfl⟩⟩)); go_ret; exact ⟨by first | rfl | (simp; done) | (simp [*]; done) | (simp [bne]; done), by repeat (first | exact Drawn0.refl _ | apply Drawn0.step)⟩
       ·rw [if_neg c8] at H
        exact absurd H (by simp)
      ·rw [if_neg c7] at H
       exact absurd H (by simp)
     ·rw [if_neg c6] at H
      have c6b0 : decide (x20_1 < (a0.f2.length : Int)) = false := decide_eq_false c6; clear c6; obtain rfl := yM H; go_wp2; go_ret; exact ⟨by first | rfl | (simp; done) | (simp [*]; done) | (simp [bne]; done), by repeat (first | exact Drawn0.refl _ | apply Drawn0.step)⟩
  ·rw [if_neg c4] at H
   exact absurd H (by simp)
def spec_l1Kind.f (a0 : Int) : Option (Bool) := if a0 ≥ 97 then (some (decide (a0 ≤ 122))) else (some false)
theorem spec_l1Kind.calls (a0 : Int) (r : Bool) (w : World) (h : spec_l1Kind.f a0 = some r) :
  Calls Try.prog 95 #[.int .u8 a0] w fun e w' => e = .returned (.bool r) ∧ Drawn0 w w' := by
 have H : (if a0 ≥ 97 then (some (decide (a0 ≤ 122))) else (some false)) = some r := h; clear h
 by_cases c2 : a0 ≥ 97
 ·rw [if_pos c2] at H
  have c2b0 : decide (97 ≤ a0) = true := zX c2; clear c2; obtain rfl := yM H; go_enter Try.func95, Try.ntmps95; go_wp2; go_ret; exact ⟨by first | rfl | (simp; done) | (simp [*]; done) | (simp [bne]; done), by repeat (first | exact Drawn0.refl _ | apply Drawn0.step)⟩
 ·rw [if_neg c2] at H
  have c2b0 : decide (97 ≤ a0) = false := decide_eq_false c2; clear c2; obtain rfl := yM H; go_enter Try.func95, Try.ntmps95; go_wp2; go_ret; exact ⟨by first | rfl | (simp; done) | (simp [*]; done) | (simp [bne]; done), by repeat (first | exact Drawn0.refl _ | apply Drawn0.step)⟩
def spec_NewMix.f (a0 : Int) : Option (Int × Int × Int × Bool) := (spec_l1Kind.f a0).bind fun t10 => (if t10 = true then (some (wrap64 (1 + (wrap64 (a0))), wrap64 (1 + (wrap64 (a0))), 0, true)) else (some (0, 0, 0, false)))
theorem spec_NewMix.calls (a0 : Int) (r1 : Int) (r2 : Int) (r3 : Int) (r4 : Bool) (w : World) (h : spec_NewMix.f a0 = some (r1, r2, r3, r4)) :
  Calls Try.prog 79 #[.int .u8 a0] w fun e w' => e = .returned (.tuple #[.agg #[.int .i64 r1, .int .i64 r2, .int .i64 r3], .bool r4]) ∧ Below w.heap.size w w' := by
 have hu114 := Try.underlying114; have HB := zA (Below.refl w.heap.size w); have H : ((spec_l1Kind.f a0).bind fun t10 => (if t10 = true then (some (wrap64 (1 + (wrap64 (a0))), wrap64 (1 + (wrap64 (a0))), 0, true)) else (some (0, 0, 0, false)))) = some (r1, r2, r3, r4) := h; clear h; replace H := zAF H; obtain ⟨t10, A20, H⟩ := H; replace H : (if t10 = true then (some (wrap64 (1 + (wrap64 (a0))), wrap64 (1 + (wrap64 (a0))), 0, true)) else (some (0, 0, 0, false))) = some (r1, r2, r3, r4) := H; have A2 := zA A20; clear A20
 by_cases c3 : t10 = true
 ·subst c3
  have H1 : (some (wrap64 (1 + (wrap64 (a0))), wrap64 (1 + (wrap64 (a0))), 0, true)) = some (r1, r2, r3, r4) := by rw [if_pos rfl] at H; exact H
  clear H; have H := H1; clear H1; simp only [Option.some.injEq, Prod.mk.injEq] at H; obtain ⟨rfl, rfl, rfl, rfl⟩ := H; go_enter Try.func79, Try.ntmps79; go_wp2_with (first | ((with_reducible refine gate_dst (N := 2) rfl ?_); refine box_event ?hg (N := 2) ?hd (cs := #[.int .i64 0, .int .i64 0, .int .i64 0]) (t := 114) ?hr ?_; (case hd => rfl); (case hg => rfl); (case hr => first | (go_simp; done) | (go_simp; rfl)); intro gb11 hg w4 hbox hb; have n0_ := zA (zAD HB.out hb); have n1_ := zA (hbox); have n2_ := zA ((by rw [hg]; exact (zAE HB.out) : w.heap.size ≤ gb11)); have n3_ := zA ((by rw [hg]; exact (zAE HB.out) : w.heap.size ≤ gb11)); clear HB; have HB := n0_; have BK11 := n1_; have GW11 := n2_; have GE11 := n3_; clear n0_ n1_ n2_ n3_; clear hb hbox hg) | ((with_reducible refine yB (f := 95) rfl ?_); refine goesL_ (some 5) rfl rfl Try.func95 (by kernel_rfl) rfl #[.int .u8 a0] rfl (by (try simp only [zAA, zAB, zAC]); first | done | rfl) ?_; (with_reducible refine (spec_l1Kind.calls a0 true _ A2.out).mono ?_); rintro e w' ⟨rfl, ⟨nd, rfl⟩⟩; refine ⟨_, rfl, ?_⟩; (try (rw [drewN_self w4]; generalize hq_ : World.drewN w4 _ = w4; have n0_ : Aside0 (w4.heap[gb11]? = some (.cells #[.int .i64 0, .int .i64 0, .int .i64 0] 114 (0, 0))) := ⟨by rw [← hq_]; exact BK11.out⟩; have n1_ : Aside0 (Below w.heap.size w w4) := ⟨by rw [← hq_]; exact HB.out⟩; clear BK11 HB hq_; have BK11 := n0_; have HB := n1_; clear n0_ n1_)); have hcz5_0 := yL BK11.out 0 (.int .i64 0) rfl; have hcz5_1 := yL BK11.out 1 (.int .i64 0) rfl; have hcz5_2 := yL BK11.out 2 (.int .i64 0) rfl; have hfz5_0 := zO BK11.out 0; have hfz5_1 := zO BK11.out 1; have hfz5_2 := zO BK11.out 2)); refine bodyPost_ret (results_ct rfl _ _ gb11 114 #[.int .i64 (wrap64 (1 + (wrap64 (a0)))), .int .i64 (wrap64 (1 + (wrap64 (a0)))), .int .i64 0] (0, 0) _ rfl (by (with_reducible repeat (first | refine zL ?_ _ | refine zN ?_ | refine zM ?_ _)); refine blk_put (cs := #[.int .i64 (wrap64 (1 + (wrap64 (a0)))), .int .i64 (wrap64 (1 + (wrap64 (a0)))), .int .i64 0]) ?_ 2 _ rfl; (with_reducible repeat (first | refine zL ?_ _ | refine zN ?_ | refine zM ?_ _)); refine blk_put (cs := #[.int .i64 (wrap64 (1 + (wrap64 (a0)))), .int .i64 0, .int .i64 0]) ?_ 1 _ rfl; (with_reducible repeat (first | refine zL ?_ _ | refine zN ?_ | refine zM ?_ _)); refine blk_put (cs := #[.int .i64 0, .int .i64 0, .int .i64 0]) ?_ 0 _ rfl; (with_reducible repeat (first | refine zL ?_ _ | refine zN ?_ | refine zM ?_ _)); exact BK11.out) Try.underlying114 rfl (by kernel_rfl)) rfl ?_; exact ⟨by first | rfl | (simp <;> rfl) | (simp [*] <;> rfl), by repeat (first | (with_reducible first | exact HB.out | apply zH | apply zF | apply zG | refine zI ?_ GE11.out) | exact HB.out)⟩
 ·replace c3 := yO c3
  subst c3; have H1 : (some (0, 0, 0, false)) = some (r1, r2, r3, r4) := by rw [if_neg (show ¬ (false = true) by decide)] at H; exact H
  clear H; have H := H1; clear H1; simp only [Option.some.injEq, Prod.mk.injEq] at H; obtain ⟨rfl, rfl, rfl, rfl⟩ := H; go_enter Try.func79, Try.ntmps79; go_wp2_with (first | ((with_reducible refine gate_dst (N := 2) rfl ?_); refine box_event ?hg (N := 2) ?hd (cs := #[.int .i64 0, .int .i64 0, .int .i64 0]) (t := 114) ?hr ?_; (case hd => rfl); (case hg => rfl); (case hr => first | (go_simp; done) | (go_simp; rfl)); intro gb11 hg w6 hbox hb; have n0_ := zA (zAD HB.out hb); have n1_ := zA (hbox); have n2_ := zA ((by rw [hg]; exact (zAE HB.out) : w.heap.size ≤ gb11)); have n3_ := zA ((by rw [hg]; exact (zAE HB.out) : w.heap.size ≤ gb11)); clear HB; have HB := n0_; have BK11 := n1_; have GW11 := n2_; have GE11 := n3_; clear n0_ n1_ n2_ n3_; clear hb hbox hg) | ((with_reducible refine yB (f := 95) rfl ?_); refine goesL_ (some 5) rfl rfl Try.func95 (by kernel_rfl) rfl #[.int .u8 a0] rfl (by (try simp only [zAA, zAB, zAC]); first | done | rfl) ?_; (with_reducible refine (spec_l1Kind.calls a0 false _ A2.out).mono ?_); rintro e w' ⟨rfl, ⟨nd, rfl⟩⟩; refine ⟨_, rfl, ?_⟩; (try (rw [drewN_self w6]; generalize hq_ : World.drewN w6 _ = w6; have n0_ : Aside0 (w6.heap[gb11]? = some (.cells #[.int .i64 0, .int .i64 0, .int .i64 0] 114 (0, 0))) := ⟨by rw [← hq_]; exact BK11.out⟩; have n1_ : Aside0 (Below w.heap.size w w6) := ⟨by rw [← hq_]; exact (by repeat (first | (with_reducible first | exact HB.out | apply zH | apply zF | apply zG | refine zI ?_ GE11.out) | exact HB.out))⟩; clear BK11 HB hq_; have BK11 := n0_; have HB := n1_; clear n0_ n1_)); have hcz7_0 := yL BK11.out 0 (.int .i64 0) rfl; have hcz7_1 := yL BK11.out 1 (.int .i64 0) rfl; have hcz7_2 := yL BK11.out 2 (.int .i64 0) rfl; have hfz7_0 := zO BK11.out 0; have hfz7_1 := zO BK11.out 1; have hfz7_2 := zO BK11.out 2)); refine bodyPost_ret (results_ct rfl _ _ gb11 114 #[.int .i64 0, .int .i64 0, .int .i64 0] (0, 0) _ rfl (by (with_reducible repeat (first | refine zL ?_ _ | refine zN ?_ | refine zM ?_ _)); refine blk_put (cs := #[.int .i64 0, .int .i64 0, .int .i64 0]) ?_ 2 _ rfl; (with_reducible repeat (first | refine zL ?_ _ | refine zN ?_ | refine zM ?_ _)); refine blk_put (cs := #[.int .i64 0, .int .i64 0, .int .i64 0]) ?_ 1 _ rfl; (with_reducible repeat (first | refine zL ?_ _ | refine zN ?_ | refine zM ?_ _)); refine blk_put (cs := #[.int .i64 0, .int .i64 0, .int .i64 0]) ?_ 0 _ rfl; (with_reducible repeat (first | refine zL ?_ _ | refine zN ?_ | refine zM ?_ _)); exact BK11.out) Try.underlying114 rfl (by kernel_rfl)) rfl ?_; exact ⟨by first | rfl | (simp <;> rfl) | (simp [*] <;> rfl), by repeat (first | (with_reducible first | exact HB.out | apply zH | apply zF | apply zG | refine zI ?_ GE11.out) | exact HB.out)⟩
def spec_l1End.f (a0_0 : Int) (a0_1 : Int) (a0_2 : Int) : Option (ByteArray) := some (strOfNums (([(a0_1 / 256) % 256, (a0_1) % 256, (a0_0 / 256) % 256, (a0_0) % 256] : List Int)))
theorem spec_l1End.calls (a0_0 : Int) (a0_1 : Int) (a0_2 : Int) (r : ByteArray) (w : World) (h : spec_l1End.f a0_0 a0_1 a0_2 = some r) :
  Calls Try.prog 80 #[.agg #[.int .i64 a0_0, .int .i64 a0_1, .int .i64 a0_2]] w fun e w' => e = .returned (.string r) ∧ Below w.heap.size w w' := by
 have hu114 := Try.underlying114; have HB := zA (Below.refl w.heap.size w); have H : (some (strOfNums (([(a0_1 / 256) % 256, (a0_1) % 256, (a0_0 / 256) % 256, (a0_0) % 256] : List Int)))) = some r := h; clear h; obtain ⟨y10, hy10⟩ : ∃ y_ : List Int, y_ = (([(a0_1 / 256) % 256, (a0_1) % 256, (a0_0 / 256) % 256, (a0_0) % 256] : List Int)) := ⟨_, rfl⟩; replace H : (some (strOfNums y10)) = some r := by first | (rw [hy10]; with_reducible exact H) | (have H2_ := (Option.bind_some _ _).symm.trans H; rw [hy10]; with_reducible exact H2_) | (have H2_ := (Option.bind_some _ _).symm.trans H; with_reducible exact H2_) | with_reducible exact H | (rw [hy10]; exact H) | exact H
 have Ny10 := zA hy10; clear hy10; obtain rfl := yM H; go_enter Try.func80, Try.ntmps80; go_wp2_with (first | ((with_reducible refine gate_dst (N := 1) rfl ?_); refine box_event ?hg (N := 1) ?hd (cs := #[.int .i64 a0_0, .int .i64 a0_1, .int .i64 a0_2]) (t := 114) ?hr ?_; (case hd => rfl); (case hg => rfl); (case hr => first | (go_simp; done) | (go_simp; rfl)); intro gb11 hg w2 hbox hb; have n0_ := zA (zAD HB.out hb); have n1_ := zA (hbox); have n2_ := zA ((by rw [hg]; exact (zAE HB.out) : w.heap.size ≤ gb11)); have n3_ := zA ((by rw [hg]; exact (zAE HB.out) : w.heap.size ≤ gb11)); clear HB; have HB := n0_; have BK11 := n1_; have GW11 := n2_; have GE11 := n3_; clear n0_ n1_ n2_ n3_; clear hb hbox hg; have hcz3_0 := yL BK11.out 0 (.int .i64 a0_0) rfl; have hcz3_1 := yL BK11.out 1 (.int .i64 a0_1) rfl; have hcz3_2 := yL BK11.out 2 (.int .i64 a0_2) rfl; have hfz3_0 := zO BK11.out 0; have hfz3_1 := zO BK11.out 1; have hfz3_2 := zO BK11.out 2) | ((with_reducible refine gate_dst (N := 17) rfl ?_); refine Kd.R_lit (Kd.int .u8) _ 5 ?hg (N := 17) ?hd (xs := ([(a0_1 / 256) % 256, (a0_1) % 256, (a0_0 / 256) % 256, (a0_0) % 256] : List Int)) (inner := [.int .u8 ((a0_1 / 256) % 256), .int .u8 ((a0_1) % 256), .int .u8 ((a0_0 / 256) % 256), .int .u8 ((a0_0) % 256)]) (ok := fun _ => True) (okp := fun _ => True) ?hr ?hp (fun _ hk => hk) trivial (Below.refl _ _) (Nat.le_refl _) (by simp) ?_; (case hd => rfl); (case hg => rfl); (case hr => first | (go_simp; done) | (go_simp; rfl)); (case hp => exact (Reps.one (show Kd.M (Kd.int .u8) _ _ _ ((a0_1 / 256) % 256) [.int .u8 ((a0_1 / 256) % 256)] from rfl) (Reps.one (show Kd.M (Kd.int .u8) _ _ _ ((a0_1) % 256) [.int .u8 ((a0_1) % 256)] from rfl) (Reps.one (show Kd.M (Kd.int .u8) _ _ _ ((a0_0 / 256) % 256) [.int .u8 ((a0_0 / 256) % 256)] from rfl) (Reps.one (show Kd.M (Kd.int .u8) _ _ _ ((a0_0) % 256) [.int .u8 ((a0_0) % 256)] from rfl) (Reps.none _ _)))))); intro v12 w4 ho5 hb hg_ hnew_; clear hg_ hnew_; (first | rw [← Ny10.out] at ho5 | (simp only [Int.reduceToNat] at ho5; rw [← Ny10.out] at ho5)); have n0_ := zA (Kd.R_lower ho5 (zAE HB.out)); have n1_ := zA (yE BK11.out hb); have n2_ := zA (zAD HB.out hb); clear BK11; clear HB; have HO13 := n0_; have BK11 := n1_; have HB := n2_; clear n0_ n1_ n2_; clear hb ho5; have hcv6 := own_string (P := Try.prog) Try.underlying119 Try.underlying5 Try.underlying9 (Kd.own_of_R HO13.out))); go_ret; exact ⟨by first | rfl | (simp <;> rfl) | (simp [*] <;> rfl), HB.out⟩
def spec_l1Feed.l0 : Nat → ByteArray → Int → Int → Int → Int → Option (Int × Int × Int)
 | 0, _, _, _, _, _ => none
 | k + 1, x1, x5, x10, x11, x12 => if x5 < (x1.size : Int) then (if 0 ≤ x5 then (spec_l1Feed.l0 k x1 (wrap64 (x5 + 1)) (Int.tmod (wrap64 (x10 + (wrap64 (bt x1 x5)))) 65521) (Int.tmod (wrap64 (x11 + (Int.tmod (wrap64 (x10 + (wrap64 (bt x1 x5)))) 65521))) 65521) x12) else (none)) else (some (x10, x11, wrap64 (x12 + (x1.size : Int))))
def spec_l1Feed.f (k : Nat) (a0_0 : Int) (a0_1 : Int) (a0_2 : Int) (a1 : ByteArray) : Option (Int × Int × Int) := spec_l1Feed.l0 k a1 0 a0_0 a0_1 a0_2
def spec_l1Feed.T4 : Bool × List (List Nat × List Nat) := (true, [([], []), ([0], [0]), ([], []), ([], []), ([2, 3], [2, 3]), ([4], [4]), ([1, 5], [1, 5]), ([6], [6]), ([0, 1, 2, 3, 4, 5, 6, 7], []), ([8, 7, 0, 1, 2, 3, 4, 5, 6, 7], [7, 8])])
def spec_l1Feed.B4 : List Nat := [0, 1, 0, 0, 12, 28, 63, 127, 255, 511]
theorem spec_l1Feed.tab4 : rtab .any (opsOf Try.f81 4) = spec_l1Feed.T4 := by kernel_rfl
theorem spec_l1Feed.bits4 : waitsOk spec_l1Feed.T4.2 spec_l1Feed.B4 = true := by kernel_rfl
theorem spec_l1Feed.calls (k : Nat) (a0_0 : Int) (a0_1 : Int) (a0_2 : Int) (a1 : ByteArray) (r1 : Int) (r2 : Int) (r3 : Int) (w : World) (h : spec_l1Feed.f k a0_0 a0_1 a0_2 a1 = some (r1, r2, r3)) :
  Calls Try.prog 81 #[.agg #[.int .i64 a0_0, .int .i64 a0_1, .int .i64 a0_2], .string a1] w fun e w' => e = .returned (.agg #[.int .i64 r1, .int .i64 r2, .int .i64 r3]) ∧ Below w.heap.size w w' := by
 have hu114 := Try.underlying114; have HB := zA (Below.refl w.heap.size w); have H : (spec_l1Feed.l0 k a1 0 a0_0 a0_1 a0_2) = some (r1, r2, r3) := h; clear h; have H' := zA H; clear H; go_enter Try.func81, Try.ntmps81; go_wp2_with (first | ((with_reducible refine gate_dst (N := 2) rfl ?_); refine box_event ?hg (N := 2) ?hd (cs := #[.int .i64 a0_0, .int .i64 a0_1, .int .i64 a0_2]) (t := 114) ?hr ?_; (case hd => rfl); (case hg => rfl); (case hr => first | (go_simp; done) | (go_simp; rfl)); intro gb15 hg w3 hbox hb; have n0_ := zA (zAD HB.out hb); have n1_ := zA (hbox); have n2_ := zA ((by rw [hg]; exact (zAE HB.out) : w.heap.size ≤ gb15)); have n3_ := zA ((by rw [hg]; exact (zAE HB.out) : w.heap.size ≤ gb15)); clear HB; have HB := n0_; have BK15 := n1_; have GW15 := n2_; have GE15 := n3_; clear n0_ n1_ n2_ n3_; clear hb hbox hg) | ((with_reducible refine gate_dst (N := 4) rfl ?_); refine box_event ?hg (N := 4) ?hd (cs := #[.int .i64 0, .int .i64 0, .int .i64 0]) (t := 114) ?hr ?_; (case hd => rfl); (case hg => rfl); (case hr => first | (go_simp; done) | (go_simp; rfl)); intro gb16 hg w4 hbox hb; have n0_ := zA (yE BK15.out hb); have n1_ := zA (zAD HB.out hb); have n2_ := zA (hbox); have n3_ := zA ((by rw [hg]; exact (zAE HB.out) : w.heap.size ≤ gb16)); have n4_ := zA ((by rw [hg]; exact (zAE HB.out) : w.heap.size ≤ gb16)); have n5_ := zA ((by rw [hg]; exact zK (blk_lt BK15.out) : gb15 ≠ gb16)); have n6_ := zA ((by rw [hg]; exact Nat.ne_of_gt (blk_lt BK15.out) : gb16 ≠ gb15)); clear BK15; clear HB; have BK15 := n0_; have HB := n1_; have BK16 := n2_; have GW16 := n3_; have GE16 := n4_; have NB15_16 := n5_; have NB16_15 := n6_; clear n0_ n1_ n2_ n3_ n4_ n5_ n6_; clear hb hbox hg)); go_loopg [5] k (fun kq v5 w' => ∃ (x5_1 : Int) (x17_1 : Int) (x18_1 : Int), v5 = .int .i64 x5_1 ∧ Aside0 (spec_l1Feed.l0 kq a1 x5_1 x17_1 x18_1 a0_2 = some (r1, r2, r3)) ∧ Aside0 (kq ≤ k) ∧ Aside0 (w'.heap[gb15]? = some (.cells #[.int .i64 x17_1, .int .i64 x18_1, .int .i64 a0_2] 114 (0, 0))) ∧ Aside0 (w'.heap[gb16]? = some (.cells #[.int .i64 0, .int .i64 0, .int .i64 0] 114 (0, 0))) ∧ Aside0 (Below w.heap.size w w'))
 case atStart => exact ⟨(0), (a0_0), (a0_1), rfl, H', ⟨Nat.le_refl _⟩, ⟨by (with_reducible repeat (first | refine zL ?_ _ | refine zN ?_ | refine zM ?_ _)); exact BK15.out⟩, ⟨by (with_reducible repeat (first | refine zL ?_ _ | refine zN ?_ | refine zM ?_ _)); exact BK16.out⟩, ⟨HB.out⟩⟩
 case round =>
  clear H'
  try clear p2
  obtain ⟨x5_1, x17_1, x18_1, rfl, HA, HK1, BK15, BK16, HB⟩ := hrel
  cases gk with
  | zero => exact absurd HA.out (by simp [spec_l1Feed.l0])
  | succ k1 =>
   have H := HA.out; clear HA; simp only [spec_l1Feed.l0] at H
   by_cases c5 : x5_1 < (a1.size : Int)
   ·rw [if_pos c5] at H
    have c5b0 : decide (x5_1 < (a1.size : Int)) = true := zX c5; clear c5
    by_cases c6 : 0 ≤ x5_1
    ·rw [if_pos c6] at H
     have c6b0 : decide (0 ≤ x5_1) = true := zX c6; clear c6; have H' := zA H; clear H
     try go_wp2
     have n0_ := zA (zN BK15.out); have n1_ := zA (zN BK16.out); have n2_ := zA (zG HB.out); clear BK15 BK16 HB; have BK15 := n0_; have BK16 := n1_; have HB := n2_; clear n0_ n1_ n2_; have p7 : 0 ≤ (x5_1 : Int) := zW (by assumption); have q7 : x5_1 < (a1.size : Int) := zW (by assumption); have hx7 := bt_at a1 x5_1; replace p7 := eq_true p7; replace q7 := eq_true q7; refine start_ (n := 10) (S := fun w' => w'.cell? ⟨gb15, 0, none⟩ = some (.int .i64 x17_1) ∧ w'.cell? ⟨gb15, 1, none⟩ = some (.int .i64 x18_1) ∧ w'.cell? ⟨gb15, 2, none⟩ = some (.int .i64 a0_2)) (ds := [9]) (bA 10 0) (by kernel_rfl) rfl rfl ⟨(zP BK15.out 0).trans rfl, (zP BK15.out 1).trans rfl, (zP BK15.out 2).trans rfl⟩ (fun hHeld => ?_); refine with_tabW spec_l1Feed.tab4 spec_l1Feed.bits4 (fun HT_ HW_ => ?_); generalize wr.drew = w8 at BK15 BK16 HB hHeld ⊢; refine wzP 0 12 (bA 10 1) HT_ ?_
     refine wzP 2 14 (bA 10 5) HT_ ?_
     refine wzP 3 15 (bA 10 13) HT_ ?_
     refine wzT 1 13 (bA 10 15) HT_ HW_ hHeld ?_
     refine wzT 4 16 (bA 10 31) HT_ HW_ hHeld ?_
     refine wzP 5 17 (bA 10 63) HT_ ?_
     refine wzP 6 18 (bA 10 127) HT_ ?_
     refine wzP 7 19 (bA 10 255) HT_ ?_
     refine wzP 8 20 (bA 10 511) HT_ ?_
     refine last_ (i := 9) (N := none) (bA 10 1023) rfl rfl (one_of HT_.out (by kernel_rfl)) (by decide) (fun K hK => ?_); have hs9 : w8.cell? ⟨gb15, 0, none⟩ = some (.int .i64 x17_1) := (zP BK15.out 0).trans rfl; have hfs9 := zO BK15.out 0; have hns9_1 := NB16_15.out; have hms9_1 := NB15_16.out; refine skip_ (w1 := ?_) (by rfl) rfl ?_ ?_; rotate_left
     ·go_simp
      rfl
     refine hK.out _ _ ?_; clear hK K; refine done_ (done_of HT_.out (by kernel_rfl)) ?_; have hnb10 := NB15_16.out; have hnc10 := NB16_15.out; have hcz11_0 := yL BK15.out 0 (.int .i64 x17_1) rfl; have hcz11_1 := yL BK15.out 1 (.int .i64 x18_1) rfl; have hcz11_2 := yL BK15.out 2 (.int .i64 a0_2) rfl; have hfz11_0 := zO BK15.out 0; have hfz11_1 := zO BK15.out 1; have hfz11_2 := zO BK15.out 2
     try go_wp2
     go_roundg k1
     case measure => have := HK1.out; omega
     case rel => exact ⟨(wrap64 (x5_1 + 1)), (Int.tmod (wrap64 (x17_1 + (wrap64 (bt a1 x5_1)))) 65521), (Int.tmod (wrap64 (x18_1 + (Int.tmod (wrap64 (x17_1 + (wrap64 (bt a1 x5_1)))) 65521))) 65521), rfl, H', ⟨by have := HK1.out; omega⟩, ⟨by (with_reducible repeat (first | refine zL ?_ _ | refine zN ?_ | refine zM ?_ _)); refine blk_put (cs := #[.int .i64 (Int.tmod (wrap64 (x17_1 + (wrap64 (bt a1 x5_1)))) 65521), .int .i64 x18_1, .int .i64 a0_2]) ?_ 1 _ rfl; (with_reducible repeat (first | refine zL ?_ _ | refine zN ?_ | refine zM ?_ _)); refine blk_put (cs := #[.int .i64 x17_1, .int .i64 x18_1, .int .i64 a0_2]) ?_ 0 _ rfl; (with_reducible repeat (first | refine zL ?_ _ | refine zN ?_ | refine zM ?_ _)); exact BK15.out⟩, ⟨by (with_reducible repeat (first | refine zL ?_ _ | refine zN ?_ | refine zM ?_ _)); refine blk_far ?_ NB16_15.out _; (with_reducible repeat (first | refine zL ?_ _ | refine zN ?_ | refine zM ?_ _)); refine blk_far ?_ NB16_15.out _; (with_reducible repeat (first | refine zL ?_ _ | refine zN ?_ | refine zM ?_ _)); exact BK16.out⟩, ⟨by repeat (first | (with_reducible first | exact HB.out | apply zH | apply zF | apply zG | refine zI ?_ GE15.out | refine zI ?_ GE16.out) | exact HB.out)⟩⟩
    ·rw [if_neg c6] at H
     exact absurd H (by simp)
   ·rw [if_neg c5] at H
    have c5b0 : decide (x5_1 < (a1.size : Int)) = false := decide_eq_false c5; clear c5; simp only [Option.some.injEq, Prod.mk.injEq] at H; obtain ⟨rfl, rfl, rfl⟩ := H; have hnb12 := NB15_16.out; have hnc12 := NB16_15.out; have hcz13_0 := yL BK15.out 0 (.int .i64 x17_1) rfl; have hcz13_1 := yL BK15.out 1 (.int .i64 x18_1) rfl; have hcz13_2 := yL BK15.out 2 (.int .i64 a0_2) rfl; have hfz13_0 := zO BK15.out 0; have hfz13_1 := zO BK15.out 1; have hfz13_2 := zO BK15.out 2; have hcz14_0 := yL BK16.out 0 (.int .i64 0) rfl; have hcz14_1 := yL BK16.out 1 (.int .i64 0) rfl; have hcz14_2 := yL BK16.out 2 (.int .i64 0) rfl; have hfz14_0 := zO BK16.out 0; have hfz14_1 := zO BK16.out 1; have hfz14_2 := zO BK16.out 2; go_wp2; refine bodyPost_ret (results_cell_row rfl _ _ gb16 114 #[.int .i64 x17_1, .int .i64 x18_1, .int .i64 (wrap64 (a0_2 + (a1.size : Int)))] (0, 0) _ rfl (by (with_reducible repeat (first | refine zL ?_ _ | refine zN ?_ | refine zM ?_ _)); refine blk_put (cs := #[.int .i64 x17_1, .int .i64 x18_1, .int .i64 0]) ?_ 2 _ rfl; (with_reducible repeat (first | refine zL ?_ _ | refine zN ?_ | refine zM ?_ _)); refine blk_put (cs := #[.int .i64 x17_1, .int .i64 0, .int .i64 0]) ?_ 1 _ rfl; (with_reducible repeat (first | refine zL ?_ _ | refine zN ?_ | refine zM ?_ _)); refine blk_put (cs := #[.int .i64 0, .int .i64 0, .int .i64 0]) ?_ 0 _ rfl; (with_reducible repeat (first | refine zL ?_ _ | refine zN ?_ | refine zM ?_ _)); refine blk_far ?_ NB16_15.out _; (with_reducible repeat (first | refine zL ?_ _ | refine zN ?_ | refine zM ?_ _)); exact BK16.out) Try.underlying114 rfl (by kernel_rfl)) rfl ?_; exact ⟨by first | rfl | (simp <;> rfl) | (simp [*] <;> rfl), by repeat (first | (with_reducible first | exact HB.out | apply zH | apply zF | apply zG | refine zI ?_ GE15.out | refine zI ?_ GE16.out) | exact HB.out)⟩
def spec_l1Digest.f (k : Nat) (a0 : Int) (a1 : ByteArray) : Option (ByteArray) := (spec_NewMix.f a0).bind fun bt10 => ((spec_l1Feed.f k bt10.1 bt10.2.1 bt10.2.2.1 a1).bind fun bt11 => ((spec_l1End.f bt11.1 bt11.2.1 bt11.2.2).bind fun t12 => (some t12)))
theorem spec_l1Digest.calls (k : Nat) (a0 : Int) (a1 : ByteArray) (r : ByteArray) (w : World) (h : spec_l1Digest.f k a0 a1 = some r) :
  Calls Try.prog 58 #[.int .u8 a0, .string a1] w fun e w' => e = .returned (.string r) ∧ Below w.heap.size w w' := by
 have hu114 := Try.underlying114; have HB := zA (Below.refl w.heap.size w); have H : ((spec_NewMix.f a0).bind fun bt11 => ((spec_l1Feed.f k bt11.1 bt11.2.1 bt11.2.2.1 a1).bind fun bt12 => ((spec_l1End.f bt12.1 bt12.2.1 bt12.2.2).bind fun t13 => (some t13)))) = some r := h; clear h; replace H := zAF H; obtain ⟨⟨t11, t14, t15, t16⟩, A30, H⟩ := H; replace H : ((spec_l1Feed.f k t11 t14 t15 a1).bind fun bt12 => ((spec_l1End.f bt12.1 bt12.2.1 bt12.2.2).bind fun t13 => (some t13))) = some r := H; have A3 := zA A30; clear A30; replace H := zAF H; obtain ⟨⟨t12, t17, t18⟩, A40, H⟩ := H; replace H : ((spec_l1End.f t12 t17 t18).bind fun t13 => (some t13)) = some r := H; have A4 := zA A40; clear A40; replace H := zAF H; obtain ⟨t13, A50, H⟩ := H; replace H : (some t13) = some r := H; have A5 := zA A50; clear A50; obtain rfl := yM H; go_enter Try.func58, Try.ntmps58; go_wp2_with (first | ((with_reducible refine yB (f := 79) rfl ?_); refine goesL_ (some 9) rfl rfl Try.func79 (by kernel_rfl) rfl #[.int .u8 a0] rfl (by (try simp only [zAA, zAB, zAC]); first | done | rfl) ?_; (with_reducible refine (spec_NewMix.calls a0 t11 t14 t15 t16 _ A3.out).mono ?_); rintro e w6 ⟨rfl, hb⟩; refine ⟨_, rfl, ?_⟩; have n0_ := zA (zAD HB.out hb); clear HB; have HB := n0_; clear n0_; (try clear hb)) | ((with_reducible refine gate_dst (N := 5) rfl ?_); refine box_event ?hg (N := 5) ?hd (cs := #[.int .i64 0, .int .i64 0, .int .i64 0]) (t := 114) ?hr ?_; (case hd => rfl); (case hg => rfl); (case hr => first | (go_simp; done) | (go_simp; rfl)); intro gb19 hg w7 hbox hb; have n0_ := zA (zAD HB.out hb); have n1_ := zA (hbox); have n2_ := zA ((by rw [hg]; exact (zAE HB.out) : w.heap.size ≤ gb19)); have n3_ := zA ((by rw [hg]; exact (zAE HB.out) : w.heap.size ≤ gb19)); clear HB; have HB := n0_; have BK19 := n1_; have GW19 := n2_; have GE19 := n3_; clear n0_ n1_ n2_ n3_; clear hb hbox hg; have hcz8_0 := yL BK19.out 0 (.int .i64 0) rfl; have hcz8_1 := yL BK19.out 1 (.int .i64 0) rfl; have hcz8_2 := yL BK19.out 2 (.int .i64 0) rfl; have hfz8_0 := zO BK19.out 0; have hfz8_1 := zO BK19.out 1; have hfz8_2 := zO BK19.out 2) | ((with_reducible refine yB (f := 81) rfl ?_); refine goesL_ (some 14) rfl rfl Try.func81 (by kernel_rfl) rfl #[.agg #[.int .i64 t11, .int .i64 t14, .int .i64 t15], .string a1] rfl (by (try simp only [zAA, zAB, zAC]); first | done | rfl) ?_; (with_reducible refine (spec_l1Feed.calls k t11 t14 t15 a1 t12 t17 t18 _ A4.out).mono ?_); rintro e w9 ⟨rfl, hb⟩; refine ⟨_, rfl, ?_⟩; have n0_ := zA (yE (g := gb19) (o := .cells #[.int .i64 t11, .int .i64 t14, .int .i64 t15] 114 (0, 0)) (by (with_reducible repeat (first | refine zL ?_ _ | refine zN ?_ | refine zM ?_ _)); refine blk_put (cs := #[.int .i64 t11, .int .i64 t14, .int .i64 0]) ?_ 2 _ rfl; (with_reducible repeat (first | refine zL ?_ _ | refine zN ?_ | refine zM ?_ _)); refine blk_put (cs := #[.int .i64 t11, .int .i64 0, .int .i64 0]) ?_ 1 _ rfl; (with_reducible repeat (first | refine zL ?_ _ | refine zN ?_ | refine zM ?_ _)); refine blk_put (cs := #[.int .i64 0, .int .i64 0, .int .i64 0]) ?_ 0 _ rfl; (with_reducible repeat (first | refine zL ?_ _ | refine zN ?_ | refine zM ?_ _)); exact BK19.out) hb); have n1_ := zA (zAD (by repeat (first | (with_reducible first | exact HB.out | apply zH | apply zF | apply zG | refine zI ?_ GE19.out) | exact HB.out)) hb); clear BK19; clear HB; have BK19 := n0_; have HB := n1_; clear n0_ n1_; (try clear hb)) | ((with_reducible refine yB (f := 80) rfl ?_); refine goesL_ (some 15) rfl rfl Try.func80 (by kernel_rfl) rfl #[.agg #[.int .i64 t12, .int .i64 t17, .int .i64 t18]] rfl (by (try simp only [zAA, zAB, zAC]); first | done | rfl) ?_; (with_reducible refine (spec_l1End.calls t12 t17 t18 t13 _ A5.out).mono ?_); rintro e w10 ⟨rfl, hb⟩; refine ⟨_, rfl, ?_⟩; have n0_ := zA (yE BK19.out hb); have n1_ := zA (zAD HB.out hb); clear BK19; clear HB; have BK19 := n0_; have HB := n1_; clear n0_ n1_; (try clear hb))); go_ret; exact ⟨by first | rfl | (simp <;> rfl) | (simp [*] <;> rfl), HB.out⟩
end Go.Proofs.Ytnplghcbdaiogaa.PA
end
