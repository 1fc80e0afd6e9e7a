/- For the law FnExactUnlikeShown (laid by merge.py). -/
import Derived.Test.YtpbepgffbcfaoaaMFnExactUnlikeShowna
import Derived.Test.YtpbepgffbcfaoaaProg
import Derived.Below
import Derived.Deep.Draws
import Derived.Deep.AppendLies
import Derived.Maps.AppendAt
import Derived.OwnWalk
import Derived.Laws.BytesArg
import Derived.Laws.MakeOwn
import Derived.Laws.OwnMore
import Derived.Deep.OwnRows
import Derived.Tactics
import Derived.Lib.ConvBytes
import Derived.Laws.Slices
import Derived.WalkKit
import Derived.KernelRfl
import Derived.RowKit3
import Derived.Deep.LoopGhost
import Derived.Deep.QuietTactic
import Derived.BigQuiet
import Derived.WideLaws
import Derived.Deep.DeepCutAuto
import Derived.Deep.CutBlock
import Derived.Deep.RegionHeld3
import Derived.Laws.Rows
import Derived.Lib.AppendStr
import Derived.ArgAppend
import Derived.Laws.IdiomCopy
import Derived.OrdersHeld
import Derived.Laws.BitsLemmas
import Derived.RowKit
import Derived.WalkLawsBesides
section
namespace Go.Proofs.Ytpbepgffbcfaoaa.PA
open Go.RowKit Go.Proofs.YtpbepgffbcfaoaaW.PrintWords Go.Proofs.YtpbepgffbcfaoaaW.PrintLast Go.Proofs.YtpbepgffbcfaoaaW.PrintMore
attribute [local go_sem] max2_int min2_int max_two min_two max_three min_three max_four min_four
set_option linter.unusedVariables false
set_option linter.unusedSimpArgs false
set_option maxHeartbeats 60000000
set_option maxRecDepth 100000
theorem zA : ∀ {p : Prop}, p → Aside0 p := @Aside0.mk
theorem zB : ∀ (w : World) (a : Addr) {u : Value}, World.cell? w a = some u → Addr.block a < w.heap.size := @World.block_lt_of_cell?
theorem zC : ∀ {α : Type _} (l : List α) (i : Nat) (a : α), Array.setIfInBounds (List.toArray l) i a = List.toArray (List.set l i a) := @List.setIfInBounds_toArray
theorem zD : ∀ {α : Type _} {x : α} {xs : List α} {a : α}, List.set (x :: xs) 0 a = a :: xs := @List.set_cons_zero
theorem zE : ∀ {α : Type _} {x : α} {xs : List α} {i : Nat} {a : α}, List.set (x :: xs) (i + 1) a = x :: List.set xs i a := @List.set_cons_succ
theorem zF : ∀ {B : Nat} {w W : World}, Below B w W → ∀ (n : Nat), Below B w (World.drewN W n) := @pw_below_drewN
theorem zG : ∀ {base : Nat} {w W : World}, Below base w W → Below base w (World.drew W) := @below_drew1
theorem zH : ∀ {w W : World}, Below (w.heap.size) w W → ∀ (o : Obj), Below (w.heap.size) w (World.alloc W o) := @below_alloc
theorem zI : ∀ {w W : World} {g j : Nat} {v : Value}, Below (w.heap.size) w W → w.heap.size ≤ g → Below (w.heap.size) w (World.setCell W { block := g, off := j } v) := @below_set
theorem zK : ∀ {a b : Nat}, a < b → a ≠ b := @Nat.ne_of_lt
theorem zL : ∀ {w : World} {g : Nat} {o : Obj}, w.heap[g]? = some o → ∀ (n : Nat), (World.heap (World.drewN w n))[g]? = some o := @blk_drewN
theorem zM : ∀ {w : World} {g : Nat} {o : Obj}, w.heap[g]? = some o → ∀ (o' : Obj), (World.heap (World.alloc w o'))[g]? = some o := @blk_alloc
theorem zN : ∀ {w : World} {g : Nat} {o : Obj}, w.heap[g]? = some o → (World.heap (World.drew w))[g]? = some o := @blk_drew
theorem zO : ∀ {w : World} {g : Nat} {t : TypeId} {cs : Array Value}, w.heap[g]? = some (Obj.cells cs t) → ∀ (i : Nat), World.frozen? w { block := g, off := i } = false := @blk_frozen
theorem zP : ∀ {w : World} {g : Nat} {t : TypeId} {cs : Array Value}, w.heap[g]? = some (Obj.cells cs t) → ∀ (i : Nat), World.cell? w { block := g, off := i } = cs[i]? := @blk_cell
theorem zQ : ∀ {α : Type} {d : Kd α} {e : Nat} {w : World} {base : Nat} {ok : Nat → Prop} {v : Value} {xs : List α}, Kd.R d e w base ok v xs → ∀ (o : Obj), Kd.R d e (World.alloc w o) base ok v xs := @Kd.R_alloc
theorem zR : ∀ {α : Type} {d : Kd α} {e : Nat} {w : World} {base : Nat} {ok : Nat → Prop} {v : Value} {xs : List α}, Kd.R d e w base ok v xs → ∀ (m : Nat), Kd.R d e (World.drewN w m) base ok v xs := @Kd.R_drewN
theorem zS : ∀ {α : Type} {d : Kd α} {e : Nat} {w : World} {base : Nat} {ok : Nat → Prop} {v : Value} {xs : List α}, Kd.R d e w base ok v xs → Kd.R d e (World.drew w) base ok v xs := @Kd.R_drew
theorem zT : ∀ {α : Type} {d : Kd α} {w : World} {xs : List α} {A : Option Addr} {n : Nat}, Kd.C d w A n xs → ∀ (o : Obj), Kd.C d (World.alloc w o) A n xs := @Kd.C_alloc
theorem zU : ∀ {α : Type} {d : Kd α} {w : World} {xs : List α} {A : Option Addr} {n : Nat}, Kd.C d w A n xs → ∀ (m : Nat), Kd.C d (World.drewN w m) A n xs := @Kd.C_drewN
theorem zV : ∀ {α : Type} {d : Kd α} {w : World} {xs : List α} {A : Option Addr} {n : Nat}, Kd.C d w A n xs → Kd.C d (World.drew w) A n xs := @Kd.C_drew
theorem zW : ∀ {p : Prop} [inst : Decidable p], decide p = true → p := @of_decide_eq_true
theorem zX : ∀ {p : Prop} [inst : Decidable p], p → decide p = true := @decide_eq_true
theorem zY : ∀ {α : Type _} {i : Nat} {l : List α}, List.length (List.take i l) = Min.min i (List.length l) := @List.length_take
theorem zZ : ∀ {α : Type _} {i : Nat} {l : List α}, List.length (List.drop i l) = List.length l - i := @List.length_drop
theorem zAA : ∀ {α : Type _} {β : Type _} {f : α → β} {l : List α}, Array.map f (List.toArray l) = List.toArray (List.map f l) := @List.map_toArray
theorem zAB : ∀ {α : Type _} {β : Type _} {f : α → β} {a : α} {l : List α}, List.map f (a :: l) = f a :: List.map f l := @List.map_cons
theorem zAC : ∀ {α : Type _} {β : Type _} {f : α → β}, List.map f [] = [] := @List.map_nil
theorem zAD : ∀ {w W w2 : World}, Below (w.heap.size) w W → Below (W.heap.size) W w2 → Below (w.heap.size) w w2 := @below_step
theorem zAE : ∀ {w W : World}, Below (w.heap.size) w W → w.heap.size ≤ W.heap.size := @below_size
theorem zAF {α β : Type} {o : Option α} {f : α → Option β} {b : β} (h : o.bind f = some b) : ∃ a, o = some a ∧ f a = some b := Option.bind_eq_some_iff.mp h
def bA (n m : Nat) : Array Bool := ((List.range n).map fun i => m.testBit i).toArray
theorem wzC {W w : World} {p a : Addr} {x u : Value} {y : Option Value} (hw : w.cell? a = some x) (hg : w.heap.size ≤ p.block) (h : W.cell? a = y) : (W.setCell p u).cell? a = y := (cell_far (Nat.ne_of_lt (Nat.lt_of_lt_of_le (World.block_lt_of_cell? _ _ hw) hg)) u).trans h
theorem wzP {P : Program} {md : Region.Mode} {ops : Array Oper} {Q : Exit → Act → World → Prop} {S : World → Prop} {ds : List Nat} {T : Bool × List (List Nat × List Nat)} {oi : Oper} {v : Value} {fuel : Nat} {l : Array Bool} {a a' : Act} {w : World} (i : Nat) (N : Tmp) (l' : Array Bool) (hT : Aside0 (rtab md ops = T)) (h : wpAnyLast P md ops Q S ds fuel l' a' w)
  (hi : ops[i]? = some oi := by rfl) (hN : oi.dst = some N := by rfl) (hc : anyT T l.toList l'.toList i = true := by kernel_rfl) (hQ : ∀ c a w, Q (.panic c) (a.put oi.dst v) w → Q (.panic c) a w := by exact fun _ _ _ h => h)
  (hw : Region.wanted oi (yielded ops a.tmps) = true := by rfl) (hr : ∀ w, (execOp a.eval oi).run P w = .ok (.value v) w := by intro w'; go_simp; with_reducible rfl) (ha : a.put (some N) v = a' := by simp only [Act.put, zC, zD, zE, i64_w, i32_w]; rfl) : wpAnyLast P md ops Q S ds (fuel + 1) l a w :=
 pure_ l' hi hN (any_of hT.out hc) hQ (Or.inl ⟨hw, hr⟩) ha h
theorem wzU {P : Program} {md : Region.Mode} {ops : Array Oper} {Q : Exit → Act → World → Prop} {S : World → Prop} {ds : List Nat} {T : Bool × List (List Nat × List Nat)} {oi : Oper} {fuel : Nat} {l : Array Bool} {a a' : Act} {w : World} (i : Nat) (N : Tmp) (l' : Array Bool) (hT : Aside0 (rtab md ops = T)) (h : wpAnyLast P md ops Q S ds fuel l' a' w)
  (hi : ops[i]? = some oi := by rfl) (hN : oi.dst = some N := by rfl) (hc : anyT T l.toList l'.toList i = true := by kernel_rfl) (hQ : ∀ c a w, Q (.panic c) (a.put oi.dst undef) w → Q (.panic c) a w := by exact fun _ _ _ h => h)
  (hw : Region.wanted oi (yielded ops a.tmps) = false := by rfl) (ha : a.put (some N) undef = a' := by simp only [Act.put, zC, zD, zE, i64_w, i32_w]; rfl) : wpAnyLast P md ops Q S ds (fuel + 1) l a w :=
 pure_ l' hi hN (any_of hT.out hc) hQ (Or.inr ⟨hw, rfl⟩) ha h
theorem wzT {P : Program} {md : Region.Mode} {ops : Array Oper} {Q : Exit → Act → World → Prop} {S : World → Prop} {ds : List Nat} {T : Bool × List (List Nat × List Nat)} {B : List Nat} {oi : Oper} {v : Value} {fuel : Nat} {l : Array Bool} {a a' : Act} {w : World} (i : Nat) (N : Tmp) (l' : Array Bool) (hT : Aside0 (rtab md ops = T)) (hB : Aside0 (waitsOk T.2 B = true)) (hS : S w) (h : wpAnyLast P md ops Q S ds fuel l' a' w)
  (hi : ops[i]? = some oi := by rfl) (hN : oi.dst = some N := by rfl) (hc : takeW T B ds l.toList l'.toList i = true := by kernel_rfl) (hQ : ∀ c a w, Q (.panic c) (a.put oi.dst v) w → Q (.panic c) a w := by exact fun _ _ _ h => h)
  (hw : Region.wanted oi (yielded ops a.tmps) = true := by rfl) (hr : ∀ w, S w → (execOp a.eval oi).run P w = .ok (.value v) w := by intro w' s0; go_simp; with_reducible rfl) (ha : a.put (some N) v = a' := by simp only [Act.put, zC, zD, zE, i64_w, i32_w]; rfl) : wpAnyLast P md ops Q S ds (fuel + 1) l a w :=
 take_ l' hi hN (take_ofW hT.out hB.out hc) hQ (Or.inl ⟨hw, hr⟩) hS ha h
theorem wzN {P : Program} {md : Region.Mode} {ops : Array Oper} {Q : Exit → Act → World → Prop} {S : World → Prop} {ds : List Nat} {v : Value} {fuel : Nat} {l : Array Bool} {a a' : Act} {w : World} (N : Tmp) (h : wpAnyLast P md ops Q S ds fuel l a' w) (ha : a.put (some N) v = a' := by simp only [Act.put, zC, zD, zE, i64_w, i32_w]; rfl) : wpAnyLast P md ops Q S ds fuel l (a.put (some N) v) w := ha ▸ h
def errW : Option Int → Value
 | none => .nilIface
 | some c => .iface 0 (.int .i64 c)
theorem errW_none : errW none = .nilIface := rfl
theorem errW_some (c : Int) : errW (some c) = .iface 0 (.int .i64 c) := rfl
theorem info9 : (Try.prog.info? 9).map (fun i => (i.zero, i.size, i.bytes)) = some (some (.string ⟨#[]⟩), 1, 16) := by kernel_rfl
theorem info38 : (Try.prog.info? 38).map (fun i => (i.zero, i.size, i.bytes)) = some (some (.agg #[(.slice none 0 0), (.slice none 0 0), (.slice none 0 0), (.int .i64 0)]), 4, 80) := by kernel_rfl
structure S61 where
 f0 : (List ByteArray)
 f1 : (List ByteArray)
 f2 : (List ByteArray)
 f3 : Int
def z61 : S61 := ⟨([] : List ByteArray), ([] : List ByteArray), ([] : List ByteArray), (0 : Int)⟩
def k61 : Kd S61 := Kd.iso (Kd.pair (Kd.slice 9 Kd.string) (Kd.pair (Kd.slice 9 Kd.string) (Kd.pair (Kd.slice 9 Kd.string) (Kd.int .i64)))) (fun x : S61 => (x.f0, x.f1, x.f2, x.f3))
theorem k61_open {w : World} {x : S61} {cs : List Value} (h : k61.K w x cs) : ∃ A0 c0 A1 c1 A2 c2, cs = [.slice A0 x.f0.length c0, .slice A1 x.f1.length c1, .slice A2 x.f2.length c2, .int .i64 x.f3] ∧ x.f0.length ≤ c0 ∧ Kd.string.C w A0 x.f0.length x.f0 ∧ x.f1.length ≤ c1 ∧ Kd.string.C w A1 x.f1.length x.f1 ∧ x.f2.length ≤ c2 ∧ Kd.string.C w A2 x.f2.length x.f2 := by
 obtain ⟨_, _, rfl, ⟨A0, c0, rfl, l0, g0⟩, ⟨_, _, rfl, ⟨A1, c1, rfl, l1, g1⟩, ⟨_, _, rfl, ⟨A2, c2, rfl, l2, g2⟩, rfl⟩⟩⟩ := h
 exact ⟨A0, c0, A1, c1, A2, c2, rfl, l0, g0, l1, g1, l2, g2⟩
def rd_T61 (xs : List S61) (i : Int) : S61 := xs.getD i.toNat z61
theorem at_T61 {w : World} {A : Option Addr} {n : Nat} {xs : List S61} (h : Kd.C k61 w A n xs) (i : Int) (h0 : 0 ≤ i) (h1 : i < n) : ∃ ad A0 c0 A1 c1 A2 c2, A = some ad ∧ w.cell? (ad.add (i.toNat * 4)) = some (.slice A0 (rd_T61 xs i).f0.length c0) ∧ w.cell? ⟨(ad.add (i.toNat * 4)).block, (ad.add (i.toNat * 4)).off + 1, none⟩ = some (.slice A1 (rd_T61 xs i).f1.length c1) ∧ w.cell? ⟨(ad.add (i.toNat * 4)).block, (ad.add (i.toNat * 4)).off + 2, none⟩ = some (.slice A2 (rd_T61 xs i).f2.length c2) ∧ w.cell? ⟨(ad.add (i.toNat * 4)).block, (ad.add (i.toNat * 4)).off + 3, none⟩ = some (.int .i64 (rd_T61 xs i).f3) ∧ (rd_T61 xs i).f0.length ≤ c0 ∧ Kd.string.C w A0 (rd_T61 xs i).f0.length (rd_T61 xs i).f0 ∧ (rd_T61 xs i).f1.length ≤ c1 ∧ Kd.string.C w A1 (rd_T61 xs i).f1.length (rd_T61 xs i).f1 ∧ (rd_T61 xs i).f2.length ≤ c2 ∧ Kd.string.C w A2 (rd_T61 xs i).f2.length (rd_T61 xs i).f2 := by
 obtain ⟨ad, c, e, _, hK, hc0⟩ := Kd.C_get h z61 i h0 h1
 have hc : ∀ j u, c[j]? = some u → w.cell? (ad.add (i.toNat * 4 + j)) = some u := hc0
 obtain ⟨A0, c0, A1, c1, A2, c2, rfl, l0, g0, l1, g1, l2, g2⟩ := k61_open hK
 exact ⟨ad, A0, c0, A1, c1, A2, c2, e, hc 0 _ rfl, by rw [← add_field _ _ 1 (by omega)]; exact hc 1 _ rfl, by rw [← add_field _ _ 2 (by omega)]; exact hc 2 _ rfl, by rw [← add_field _ _ 3 (by omega)]; exact hc 3 _ rfl, l0, g0, l1, g1, l2, g2⟩
structure S38 where
 f0 : (List ByteArray)
 f1 : (List ByteArray)
 f2 : (List ByteArray)
 f3 : Int
def z38 : S38 := ⟨([] : List ByteArray), ([] : List ByteArray), ([] : List ByteArray), (0 : Int)⟩
def k38 : Kd S38 := Kd.iso (Kd.pair (Kd.slice 9 Kd.string) (Kd.pair (Kd.slice 9 Kd.string) (Kd.pair (Kd.slice 9 Kd.string) (Kd.int .i64)))) (fun x : S38 => (x.f0, x.f1, x.f2, x.f3))
theorem k38_open {w : World} {x : S38} {cs : List Value} (h : k38.K w x cs) : ∃ A0 c0 A1 c1 A2 c2, cs = [.slice A0 x.f0.length c0, .slice A1 x.f1.length c1, .slice A2 x.f2.length c2, .int .i64 x.f3] ∧ x.f0.length ≤ c0 ∧ Kd.string.C w A0 x.f0.length x.f0 ∧ x.f1.length ≤ c1 ∧ Kd.string.C w A1 x.f1.length x.f1 ∧ x.f2.length ≤ c2 ∧ Kd.string.C w A2 x.f2.length x.f2 := by
 obtain ⟨_, _, rfl, ⟨A0, c0, rfl, l0, g0⟩, ⟨_, _, rfl, ⟨A1, c1, rfl, l1, g1⟩, ⟨_, _, rfl, ⟨A2, c2, rfl, l2, g2⟩, rfl⟩⟩⟩ := h
 exact ⟨A0, c0, A1, c1, A2, c2, rfl, l0, g0, l1, g1, l2, g2⟩
theorem k38_openM {w : World} {base : Nat} {ok : Nat → Prop} {x : S38} {cs : List Value} (h : k38.M w base ok x cs) : ∃ v0 v1 v2, cs = [v0, v1, v2, .int .i64 x.f3] ∧ Kd.string.R 9 w base ok v0 x.f0 ∧ Kd.string.R 9 w base ok v1 x.f1 ∧ Kd.string.R 9 w base ok v2 x.f2 := by
 obtain ⟨_, _, rfl, ⟨v0, rfl, g0⟩, ⟨_, _, rfl, ⟨v1, rfl, g1⟩, ⟨_, _, rfl, ⟨v2, rfl, g2⟩, rfl⟩⟩⟩ := h
 exact ⟨v0, v1, v2, rfl, g0, g1, g2⟩
theorem k38_mkM (w : World) (base : Nat) (ok : Nat → Prop) (x : S38) {v0 : Value} (g0 : Kd.string.R 9 w base ok v0 x.f0) {v1 : Value} (g1 : Kd.string.R 9 w base ok v1 x.f1) {v2 : Value} (g2 : Kd.string.R 9 w base ok v2 x.f2) : k38.M w base ok x [v0, v1, v2, .int .i64 x.f3] := ⟨[v0], [v1, v2, .int .i64 x.f3], rfl, ⟨v0, rfl, g0⟩, ⟨[v1], [v2, .int .i64 x.f3], rfl, ⟨v1, rfl, g1⟩, ⟨[v2], [.int .i64 x.f3], rfl, ⟨v2, rfl, g2⟩, rfl⟩⟩⟩
def rd_T38 (xs : List S38) (i : Int) : S38 := xs.getD i.toNat z38
theorem at_T38 {w : World} {A : Option Addr} {n : Nat} {xs : List S38} (h : Kd.C k38 w A n xs) (i : Int) (h0 : 0 ≤ i) (h1 : i < n) : ∃ ad A0 c0 A1 c1 A2 c2, A = some ad ∧ w.cell? (ad.add (i.toNat * 4)) = some (.slice A0 (rd_T38 xs i).f0.length c0) ∧ w.cell? ⟨(ad.add (i.toNat * 4)).block, (ad.add (i.toNat * 4)).off + 1, none⟩ = some (.slice A1 (rd_T38 xs i).f1.length c1) ∧ w.cell? ⟨(ad.add (i.toNat * 4)).block, (ad.add (i.toNat * 4)).off + 2, none⟩ = some (.slice A2 (rd_T38 xs i).f2.length c2) ∧ w.cell? ⟨(ad.add (i.toNat * 4)).block, (ad.add (i.toNat * 4)).off + 3, none⟩ = some (.int .i64 (rd_T38 xs i).f3) ∧ (rd_T38 xs i).f0.length ≤ c0 ∧ Kd.string.C w A0 (rd_T38 xs i).f0.length (rd_T38 xs i).f0 ∧ (rd_T38 xs i).f1.length ≤ c1 ∧ Kd.string.C w A1 (rd_T38 xs i).f1.length (rd_T38 xs i).f1 ∧ (rd_T38 xs i).f2.length ≤ c2 ∧ Kd.string.C w A2 (rd_T38 xs i).f2.length (rd_T38 xs i).f2 := by
 obtain ⟨ad, c, e, _, hK, hc0⟩ := Kd.C_get h z38 i h0 h1
 have hc : ∀ j u, c[j]? = some u → w.cell? (ad.add (i.toNat * 4 + j)) = some u := hc0
 obtain ⟨A0, c0, A1, c1, A2, c2, rfl, l0, g0, l1, g1, l2, g2⟩ := k38_open hK
 exact ⟨ad, A0, c0, A1, c1, A2, c2, e, hc 0 _ rfl, by rw [← add_field _ _ 1 (by omega)]; exact hc 1 _ rfl, by rw [← add_field _ _ 2 (by omega)]; exact hc 2 _ rfl, by rw [← add_field _ _ 3 (by omega)]; exact hc 3 _ rfl, l0, g0, l1, g1, l2, g2⟩
theorem yB : ∀ {P : Program} {ops : Array Oper} {rest : List Oper} {o : Oper} {a : Act} {Q : Exit → Act → World → Prop} {W : World} {f : FuncId} {«as» : Array Operand} {ts : Array TypeId}, Oper.op o = Op.call { callee := Callee.value (Operand.func f), args := «as», argTypes := ts } → wpList P ops Q (o :: rest) a W → wpList P ops Q (o :: rest) a W := @gate_callee
theorem yC : ∀ {α : Type} {d : Kd α} {e : Nat} {w : World} {base : Nat} {ok ok' : Nat → Prop} {v : Value} {xs : List α}, Kd.R d e w base ok v xs → (∀ (k : Nat), ok k → ok' k) → Kd.R d e w base ok' v xs := @Kd.R_mono
theorem yE : ∀ {w w1 : World} {g : Nat} {o : Obj}, w.heap[g]? = some o → Below (w.heap.size) w w1 → w1.heap[g]? = some o := @blk_below
theorem yF : ∀ {W : World} {p a : Addr}, Addr.block a ≠ Addr.block p → ∀ (u : Value), World.cell? (World.setCell W p u) a = World.cell? W a := @cell_far
theorem yJ : ∀ {α : Type} {d : Kd α} {e : Nat} {w1 W : World} {base : Nat} {ok : Nat → Prop} {u v : Value} {xs : List α}, Kd.R d e W base ok u xs → (∀ (k : Nat), Value.ownBlock v = some k → W.heap.size ≤ k) → Below (W.heap.size) W w1 → Kd.R d e w1 base (fun k => ok k ∧ some k ≠ Value.ownBlock v) u xs := @Kd.R_elder'
theorem yK : ∀ {α : Type} {d : Kd α} {e : Nat} {w1 W : World} {ok : Nat → Prop} {u v : Value} {xs : List α}, Kd.R d e w1 (W.heap.size) ok v xs → (∀ (k : Nat), Value.ownBlock u = some k → k < W.heap.size) → Kd.R d e w1 (W.heap.size) (fun k => ok k ∧ some k ≠ Value.ownBlock u) v xs := @Kd.R_new'
theorem yL : ∀ {w : World} {g : Nat} {t : TypeId} {cs : Array Value}, w.heap[g]? = some (Obj.cells cs t) → ∀ (i : Nat) (u : Value), cs[i]? = some u → World.cell? w { block := g, off := i } = some u := fun h i _ hu => (blk_cell h i).trans hu
theorem yM : ∀ {α : Type _} {a b : α}, some a = some b → a = b := fun h => Option.some.inj h
theorem yN : ∀ {α : Type} {d : Kd α} {w w1 : World} {A : Option Addr} {n : Nat} {xs : List α}, Kd.C d w A n xs → Below w.heap.size w w1 → Kd.C d w1 A n xs := fun h hb => Kd.C_below h hb
theorem yO : ∀ {b : Bool}, b ≠ true → b = false := fun h => Bool.eq_false_iff.mpr h
mutual
def spec_l6Bytes.l0 : Nat → ByteArray → List ByteArray → Int → Int → List ByteArray → List ByteArray → List ByteArray → Int → Option (ByteArray)
 | 0, _, _, _, _, _, _, _, _ => none
 | k + 1, x3, x15, x16, x17, x10, x11, x12, x13 => if x17 < x16 then (if 0 ≤ x17 then (if x17 < (x15.length : Int) then ((some (([(((rdOf ByteArray.empty x15 x17).size : Int)) % 256] : List Int) : List Int)).bind fun y14 => (if (strOfNums y14).size + (rdOf ByteArray.empty x15 x17).size ≤ 9223372036854775807 then (if x17 < (x11.length : Int) then ((some (([(((rdOf ByteArray.empty x11 x17).size : Int)) % 256] : List Int) : List Int)).bind fun y18 => (if ((strOfNums y14) ++ (rdOf ByteArray.empty x15 x17)).size + (strOfNums y18).size ≤ 9223372036854775807 then (if (((strOfNums y14) ++ (rdOf ByteArray.empty x15 x17)) ++ (strOfNums y18)).size + (rdOf ByteArray.empty x11 x17).size ≤ 9223372036854775807 then (if x3.size + ((((strOfNums y14) ++ (rdOf ByteArray.empty x15 x17)) ++ (strOfNums y18)) ++ (rdOf ByteArray.empty x11 x17)).size ≤ 9223372036854775807 then (spec_l6Bytes.l0 k (x3 ++ ((((strOfNums y14) ++ (rdOf ByteArray.empty x15 x17)) ++ (strOfNums y18)) ++ (rdOf ByteArray.empty x11 x17))) x15 x16 (wrap64 (x17 + 1)) x10 x11 x12 x13) else (none)) else (none)) else (none))) else (none)) else (none))) else (none)) else (none)) else ((some (([((x12.length : Int)) % 256] : List Int) : List Int)).bind fun y19 => (if x3.size + (strOfNums y19).size ≤ 9223372036854775807 then (spec_l6Bytes.l1 k (x3 ++ (strOfNums y19)) x12 (x12.length : Int) 0) else (none)))
def spec_l6Bytes.l1 : Nat → ByteArray → List ByteArray → Int → Int → Option (ByteArray)
 | 0, _, _, _, _ => none
 | k + 1, x3, x57, x58, x59 => if x59 < x58 then (if 0 ≤ x59 then (if x59 < (x57.length : Int) then (if x3.size + (rdOf ByteArray.empty x57 x59).size ≤ 9223372036854775807 then (spec_l6Bytes.l1 k (x3 ++ (rdOf ByteArray.empty x57 x59)) x57 x58 (wrap64 (x59 + 1))) else (none)) else (none)) else (none)) else (some x3)
end
def spec_l6Bytes.f (k : Nat) (l0_0 : List ByteArray) (l0_1 : List ByteArray) (l0_2 : List ByteArray) (a0_3 : Int) : Option (ByteArray) := spec_l6Bytes.l0 k (strOfNums (([((l0_0.length : Int)) % 256] : List Int))) l0_0 (l0_0.length : Int) 0 l0_0 l0_1 l0_2 a0_3
def spec_l6Bytes.T5 : Bool × List (List Nat × List Nat) := (true, [([], []), ([], []), ([1], [1]), ([2], [2]), ([3], [3]), ([4], [4]), ([], []), ([5, 6], [5, 6]), ([], []), ([8], [8]), ([], []), ([9, 10], [9, 10]), ([11], [11]), ([12], [12]), ([13], [13]), ([14], [14]), ([15], [15]), ([7, 16], [7, 16]), ([], []), ([18], [18]), ([], []), ([19, 20], [19, 20]), ([21], [21]), ([17, 22], [17, 22]), ([0, 23], [0, 23]), ([24, 0, 1, 2, 3, 4, 5, 6, 7, 8, 9, 10, 11, 12, 13, 14, 15, 16, 17, 18, 19, 20, 21, 22, 23, 24], [0, 24])])
def spec_l6Bytes.B5 : List Nat := [0, 0, 2, 6, 14, 30, 0, 126, 0, 256, 0, 1792, 3840, 7936, 16128, 32512, 65280, 131070, 0, 262144, 0, 1835008, 3932160, 8388606, 16777215, 33554431]
theorem spec_l6Bytes.tab5 : rtab .any (opsOf Try.f40 5) = spec_l6Bytes.T5 := by kernel_rfl
theorem spec_l6Bytes.bits5 : waitsOk spec_l6Bytes.T5.2 spec_l6Bytes.B5 = true := by kernel_rfl
theorem spec_l6Bytes.calls (k : Nat) (A0_0 : Option Addr) (c0_0 : Nat) (l0_0 : List ByteArray) (A0_1 : Option Addr) (c0_1 : Nat) (l0_1 : List ByteArray) (A0_2 : Option Addr) (c0_2 : Nat) (l0_2 : List ByteArray) (a0_3 : Int) (r : ByteArray) (w : World) (hr0_0 : Kd.C Kd.string w A0_0 l0_0.length l0_0) (hc0_0 : l0_0.length ≤ c0_0) (hr0_1 : Kd.C Kd.string w A0_1 l0_1.length l0_1) (hc0_1 : l0_1.length ≤ c0_1) (hr0_2 : Kd.C Kd.string w A0_2 l0_2.length l0_2) (hc0_2 : l0_2.length ≤ c0_2) (h : spec_l6Bytes.f k l0_0 l0_1 l0_2 a0_3 = some r) :
  Calls Try.prog 40 #[.agg #[.slice A0_0 l0_0.length c0_0, .slice A0_1 l0_1.length c0_1, .slice A0_2 l0_2.length c0_2, .int .i64 a0_3]] w fun e w' => e = .returned (.string r) ∧ Below w.heap.size w w' := by
 have hu38 := Try.underlying38; have HR0_0 := zA hr0_0; have HC0_0 := zA hc0_0; clear hr0_0 hc0_0; have HR0_1 := zA hr0_1; have HC0_1 := zA hc0_1; clear hr0_1 hc0_1; have HR0_2 := zA hr0_2; have HC0_2 := zA hc0_2; clear hr0_2 hc0_2; have HB := zA (Below.refl w.heap.size w); have H : (spec_l6Bytes.l0 k (strOfNums (([((l0_0.length : Int)) % 256] : List Int))) l0_0 (l0_0.length : Int) 0 l0_0 l0_1 l0_2 a0_3) = some r := h; clear h; obtain ⟨y34, hy34⟩ : ∃ y_ : List Int, y_ = (([((l0_0.length : Int)) % 256] : List Int)) := ⟨_, rfl⟩; replace H : (spec_l6Bytes.l0 k (strOfNums y34) l0_0 (l0_0.length : Int) 0 l0_0 l0_1 l0_2 a0_3) = some r := by first | (rw [hy34]; with_reducible exact H) | (have H2_ := (Option.bind_some _ _).symm.trans H; rw [hy34]; with_reducible exact H2_) | (have H2_ := (Option.bind_some _ _).symm.trans H; with_reducible exact H2_) | with_reducible exact H | (rw [hy34]; exact H) | exact H
 have Ny34 := zA hy34; clear hy34; have H' := zA H; clear H; go_enter Try.func40, Try.ntmps40; go_wp2_with (first | ((with_reducible refine gate_dst (N := 1) rfl ?_); refine box_event ?hg (N := 1) ?hd (cs := #[.slice A0_0 l0_0.length c0_0, .slice A0_1 l0_1.length c0_1, .slice A0_2 l0_2.length c0_2, .int .i64 a0_3]) (t := 38) ?hr ?_; (case hd => rfl); (case hg => rfl); (case hr => first | (go_simp; done) | (go_simp; rfl)); intro gb35 hg w2 hbox hb; have n0_ := zA (zAD (by (with_reducible repeat first | exact HB.out | apply zH | apply zF | apply zG) <;> exact HB.out) hb); have n1_ := zA (hbox); have n2_ := zA ((by rw [hg]; exact (zAE (by (with_reducible repeat first | exact HB.out | apply zH | apply zF | apply zG) <;> exact HB.out)) : w.heap.size ≤ gb35)); have n3_ := zA ((by rw [hg]; exact (zAE (by (with_reducible repeat first | exact HB.out | apply zH | apply zF | apply zG) <;> exact HB.out)) : w.heap.size ≤ gb35)); clear HB; have HB := n0_; have BK35 := n1_; have GW35 := n2_; have GE35 := n3_; clear n0_ n1_ n2_ n3_; clear hb hbox hg; have hcz3_0 := yL BK35.out 0 (.slice A0_0 l0_0.length c0_0) rfl; have hcz3_1 := yL BK35.out 1 (.slice A0_1 l0_1.length c0_1) rfl; have hcz3_2 := yL BK35.out 2 (.slice A0_2 l0_2.length c0_2) rfl; have hcz3_3 := yL BK35.out 3 (.int .i64 a0_3) rfl; have hfz3_0 := zO BK35.out 0; have hfz3_1 := zO BK35.out 1; have hfz3_2 := zO BK35.out 2; have hfz3_3 := zO BK35.out 3) | ((with_reducible refine gate_dst (N := 12) rfl ?_); refine Kd.R_lit (Kd.int .u8) _ 5 ?hg (N := 12) ?hd (xs := ([((l0_0.length : Int)) % 256] : List Int)) (inner := [.int .u8 (((l0_0.length : Int)) % 256)]) (ok := fun _ => True) (okp := fun _ => True) ?hr ?hp (fun _ hk => hk) trivial (Below.refl _ _) (Nat.le_refl _) (by simp) ?_; (case hd => rfl); (case hg => rfl); (case hr => first | (go_simp; done) | (go_simp; rfl)); (case hp => exact (Reps.one (show Kd.M (Kd.int .u8) _ _ _ (((l0_0.length : Int)) % 256) [.int .u8 (((l0_0.length : Int)) % 256)] from rfl) (Reps.none _ _))); intro v36 w4 ho5 hb hg_ hnew_; clear hg_ hnew_; (first | rw [← Ny34.out] at ho5 | (simp only [Int.reduceToNat] at ho5; rw [← Ny34.out] at ho5)); have n0_ := zA (Kd.R_lower ho5 (zAE (by repeat (first | (with_reducible first | exact HB.out | apply zH | apply zF | apply zG | refine zI ?_ GE35.out) | exact HB.out)))); have n1_ := zA (yE (g := gb35) (o := .cells #[.slice A0_0 l0_0.length c0_0, .slice A0_1 l0_1.length c0_1, .slice A0_2 l0_2.length c0_2, .int .i64 a0_3] 38 (0, 0)) (by (with_reducible repeat (first | refine zL ?_ _ | refine zN ?_ | refine zM ?_ _)); exact BK35.out) hb); have n2_ := zA (zAD (by repeat (first | (with_reducible first | exact HB.out | apply zH | apply zF | apply zG | refine zI ?_ GE35.out) | exact HB.out)) hb); clear BK35; clear HB; have HO37 := n0_; have BK35 := n1_; have HB := n2_; clear n0_ n1_ n2_; clear hb ho5; have hcv6 := own_string (P := Try.prog) Try.underlying73 Try.underlying5 Try.underlying9 (Kd.own_of_R HO37.out); have hcz7_0 := yL BK35.out 0 (.slice A0_0 l0_0.length c0_0) rfl; have hcz7_1 := yL BK35.out 1 (.slice A0_1 l0_1.length c0_1) rfl; have hcz7_2 := yL BK35.out 2 (.slice A0_2 l0_2.length c0_2) rfl; have hcz7_3 := yL BK35.out 3 (.int .i64 a0_3) rfl; have hfz7_0 := zO BK35.out 0; have hfz7_1 := zO BK35.out 1; have hfz7_2 := zO BK35.out 2; have hfz7_3 := zO BK35.out 3)); go_loopg [3, 17] k (fun kq v3 v17 w' => ∃ (x3_1 : ByteArray) (x17_1 : Int), v3 = .string x3_1 ∧ v17 = .int .i64 x17_1 ∧ Aside0 (spec_l6Bytes.l0 kq x3_1 l0_0 (l0_0.length : Int) x17_1 l0_0 l0_1 l0_2 a0_3 = some r) ∧ Aside0 (kq ≤ k) ∧ Aside0 (w'.heap[gb35]? = some (.cells #[(.slice A0_0 l0_0.length c0_0), (.slice A0_1 l0_1.length c0_1), (.slice A0_2 l0_2.length c0_2), .int .i64 a0_3] 38 (0, 0))) ∧ Aside0 (Below w.heap.size w w'))
 case atStart => exact ⟨(strOfNums y34), (0), (by first | rfl | (simp; done) | (simp [*]; done) | (simp [bne]; done)), (by first | rfl | (simp; done) | (simp [*]; done) | (simp [bne]; done)), H', ⟨Nat.le_refl _⟩, ⟨by (with_reducible repeat (first | refine zL ?_ _ | refine zN ?_ | refine zM ?_ _)); exact BK35.out⟩, ⟨by repeat (first | (with_reducible first | exact HB.out | apply zH | apply zF | apply zG | refine zI ?_ GE35.out) | exact HB.out)⟩⟩
 case round =>
  clear H'
  try clear p2
  try clear c4
  try clear hcv6
  try clear hcz3_0
  try clear hcz3_1
  try clear hcz3_2
  try clear hcz3_3
  try clear hcz7_0
  try clear hcz7_1
  try clear hcz7_2
  try clear hcz7_3
  try clear hfz3_0
  try clear hfz3_1
  try clear hfz3_2
  try clear hfz3_3
  try clear hfz7_0
  try clear hfz7_1
  try clear hfz7_2
  try clear hfz7_3
  obtain ⟨x3_1, x17_1, rfl, rfl, HA, HK1, BK35, HB⟩ := hrel
  cases gk with
  | zero => exact absurd HA.out (by simp [spec_l6Bytes.l0])
  | succ k1 =>
   have H := HA.out; clear HA; simp only [spec_l6Bytes.l0] at H
   by_cases c8 : x17_1 < (l0_0.length : Int)
   ·rw [if_pos c8] at H
    have c8b0 : decide (x17_1 < (l0_0.length : Int)) = true := zX c8; clear c8
    by_cases c9 : 0 ≤ x17_1
    ·rw [if_pos c9] at H
     have c9b0 : decide (0 ≤ x17_1) = true := zX c9; clear c9
     by_cases c10 : x17_1 < (l0_0.length : Int)
     ·rw [if_pos c10] at H
      have c10b0 : decide (x17_1 < (l0_0.length : Int)) = true := zX c10; clear c10; obtain ⟨y39, hy39⟩ : ∃ y_ : List Int, y_ = (([(((rdOf ByteArray.empty l0_0 x17_1).size : Int)) % 256] : List Int)) := ⟨_, rfl⟩; replace H : (if (strOfNums y39).size + (rdOf ByteArray.empty l0_0 x17_1).size ≤ 9223372036854775807 then (if x17_1 < (l0_1.length : Int) then ((some (([(((rdOf ByteArray.empty l0_1 x17_1).size : Int)) % 256] : List Int) : List Int)).bind fun y40 => (if ((strOfNums y39) ++ (rdOf ByteArray.empty l0_0 x17_1)).size + (strOfNums y40).size ≤ 9223372036854775807 then (if (((strOfNums y39) ++ (rdOf ByteArray.empty l0_0 x17_1)) ++ (strOfNums y40)).size + (rdOf ByteArray.empty l0_1 x17_1).size ≤ 9223372036854775807 then (if x3_1.size + ((((strOfNums y39) ++ (rdOf ByteArray.empty l0_0 x17_1)) ++ (strOfNums y40)) ++ (rdOf ByteArray.empty l0_1 x17_1)).size ≤ 9223372036854775807 then (spec_l6Bytes.l0 k1 (x3_1 ++ ((((strOfNums y39) ++ (rdOf ByteArray.empty l0_0 x17_1)) ++ (strOfNums y40)) ++ (rdOf ByteArray.empty l0_1 x17_1))) l0_0 (l0_0.length : Int) (wrap64 (x17_1 + 1)) l0_0 l0_1 l0_2 a0_3) else (none)) else (none)) else (none))) else (none)) else (none)) = some r := by first | (rw [hy39]; with_reducible exact H) | (have H2_ := (Option.bind_some _ _).symm.trans H; rw [hy39]; with_reducible exact H2_) | (have H2_ := (Option.bind_some _ _).symm.trans H; with_reducible exact H2_) | with_reducible exact H | (rw [hy39]; exact H) | exact H
      have Ny39 := zA hy39; clear hy39
      by_cases c11 : (strOfNums y39).size + (rdOf ByteArray.empty l0_0 x17_1).size ≤ 9223372036854775807
      ·rw [if_pos c11] at H
       have c11b0 := eq_true c11; have c11b1 : decide ((strOfNums y39).size + (rdOf ByteArray.empty l0_0 x17_1).size ≤ 9223372036854775807) = true := zX c11
       try have c11b2 : (9223372036854775807 < (strOfNums y39).size + (rdOf ByteArray.empty l0_0 x17_1).size) = False := eq_false (Nat.not_lt.2 c11)
       by_cases c12 : x17_1 < (l0_1.length : Int)
       ·rw [if_pos c12] at H
        have c12b0 : decide (x17_1 < (l0_1.length : Int)) = true := zX c12; clear c12; obtain ⟨y40, hy40⟩ : ∃ y_ : List Int, y_ = (([(((rdOf ByteArray.empty l0_1 x17_1).size : Int)) % 256] : List Int)) := ⟨_, rfl⟩; replace H : (if ((strOfNums y39) ++ (rdOf ByteArray.empty l0_0 x17_1)).size + (strOfNums y40).size ≤ 9223372036854775807 then (if (((strOfNums y39) ++ (rdOf ByteArray.empty l0_0 x17_1)) ++ (strOfNums y40)).size + (rdOf ByteArray.empty l0_1 x17_1).size ≤ 9223372036854775807 then (if x3_1.size + ((((strOfNums y39) ++ (rdOf ByteArray.empty l0_0 x17_1)) ++ (strOfNums y40)) ++ (rdOf ByteArray.empty l0_1 x17_1)).size ≤ 9223372036854775807 then (spec_l6Bytes.l0 k1 (x3_1 ++ ((((strOfNums y39) ++ (rdOf ByteArray.empty l0_0 x17_1)) ++ (strOfNums y40)) ++ (rdOf ByteArray.empty l0_1 x17_1))) l0_0 (l0_0.length : Int) (wrap64 (x17_1 + 1)) l0_0 l0_1 l0_2 a0_3) else (none)) else (none)) else (none)) = some r := by first | (rw [hy40]; with_reducible exact H) | (have H2_ := (Option.bind_some _ _).symm.trans H; rw [hy40]; with_reducible exact H2_) | (have H2_ := (Option.bind_some _ _).symm.trans H; with_reducible exact H2_) | with_reducible exact H | (rw [hy40]; exact H) | exact H
        have Ny40 := zA hy40; clear hy40
        by_cases c13 : ((strOfNums y39) ++ (rdOf ByteArray.empty l0_0 x17_1)).size + (strOfNums y40).size ≤ 9223372036854775807
        ·rw [if_pos c13] at H
         have c13b0 := eq_true c13; have c13b1 : decide (((strOfNums y39) ++ (rdOf ByteArray.empty l0_0 x17_1)).size + (strOfNums y40).size ≤ 9223372036854775807) = true := zX c13; (try (have c13b3 := (show ((strOfNums y39) ++ (rdOf ByteArray.empty l0_0 x17_1)).size + (strOfNums y40).size ≤ 9223372036854775807 from c13); simp only [ByteArray.size_append, ByteArray.size_extract, Nat.min_self, Nat.sub_zero] at c13b3; have c13b4 := eq_true c13b3; have c13b5 : decide (_) = true := zX c13b3; have c13b6 := eq_false (Nat.not_lt.2 c13b3); clear c13b3))
         try have c13b2 : (9223372036854775807 < ((strOfNums y39) ++ (rdOf ByteArray.empty l0_0 x17_1)).size + (strOfNums y40).size) = False := eq_false (Nat.not_lt.2 c13)
         by_cases c14 : (((strOfNums y39) ++ (rdOf ByteArray.empty l0_0 x17_1)) ++ (strOfNums y40)).size + (rdOf ByteArray.empty l0_1 x17_1).size ≤ 9223372036854775807
         ·rw [if_pos c14] at H
          have c14b0 := eq_true c14; have c14b1 : decide ((((strOfNums y39) ++ (rdOf ByteArray.empty l0_0 x17_1)) ++ (strOfNums y40)).size + (rdOf ByteArray.empty l0_1 x17_1).size ≤ 9223372036854775807) = true := zX c14; (try (have c14b3 := (show (((strOfNums y39) ++ (rdOf ByteArray.empty l0_0 x17_1)) ++ (strOfNums y40)).size + (rdOf ByteArray.empty l0_1 x17_1).size ≤ 9223372036854775807 from c14); simp only [ByteArray.size_append, ByteArray.size_extract, Nat.min_self, Nat.sub_zero] at c14b3; have c14b4 := eq_true c14b3; have c14b5 : decide (_) = true := zX c14b3; have c14b6 := eq_false (Nat.not_lt.2 c14b3); clear c14b3))
          try have c14b2 : (9223372036854775807 < (((strOfNums y39) ++ (rdOf ByteArray.empty l0_0 x17_1)) ++ (strOfNums y40)).size + (rdOf ByteArray.empty l0_1 x17_1).size) = False := eq_false (Nat.not_lt.2 c14)
          by_cases c15 : x3_1.size + ((((strOfNums y39) ++ (rdOf ByteArray.empty l0_0 x17_1)) ++ (strOfNums y40)) ++ (rdOf ByteArray.empty l0_1 x17_1)).size ≤ 9223372036854775807
          ·rw [if_pos c15] at H
           have c15b0 := eq_true c15; have c15b1 : decide (x3_1.size + ((((strOfNums y39) ++ (rdOf ByteArray.empty l0_0 x17_1)) ++ (strOfNums y40)) ++ (rdOf ByteArray.empty l0_1 x17_1)).size ≤ 9223372036854775807) = true := zX c15; (try (have c15b3 := (show x3_1.size + ((((strOfNums y39) ++ (rdOf ByteArray.empty l0_0 x17_1)) ++ (strOfNums y40)) ++ (rdOf ByteArray.empty l0_1 x17_1)).size ≤ 9223372036854775807 from c15); simp only [ByteArray.size_append, ByteArray.size_extract, Nat.min_self, Nat.sub_zero] at c15b3; have c15b4 := eq_true c15b3; have c15b5 : decide (_) = true := zX c15b3; have c15b6 := eq_false (Nat.not_lt.2 c15b3); clear c15b3))
           try have c15b2 : (9223372036854775807 < x3_1.size + ((((strOfNums y39) ++ (rdOf ByteArray.empty l0_0 x17_1)) ++ (strOfNums y40)) ++ (rdOf ByteArray.empty l0_1 x17_1)).size) = False := eq_false (Nat.not_lt.2 c15)
           have H' := zA H; clear H; have p41 : 0 ≤ (x17_1 : Int) := zW (by first | (with_reducible assumption) | assumption); have q41 : x17_1 < (l0_0.length : Int) := zW (by first | (with_reducible assumption) | assumption); obtain ⟨ad41, e41, hx41_0⟩ := Kd.at_string HR0_0.out x17_1 p41 q41
           cases e41
           replace hx41_0 := (HB.out.cell (zB w _ hx41_0)).trans hx41_0; replace p41 := eq_true p41; replace q41 := eq_true q41
           try go_wp2
           have n0_ := zA (zN BK35.out); have n1_ := zA (zG HB.out); clear BK35 HB; have BK35 := n0_; have HB := n1_; clear n0_ n1_; have p42 : 0 ≤ (x17_1 : Int) := zW (by first | (with_reducible assumption) | assumption); have q42 : x17_1 < (l0_1.length : Int) := zW (by first | (with_reducible assumption) | assumption); obtain ⟨ad42, e42, hx42_0⟩ := Kd.at_string HR0_1.out x17_1 p42 q42; have hw42_0 := hx42_0
           cases e42
           replace hx42_0 := (HB.out.cell (zB w _ hx42_0)).trans hx42_0; replace p42 := eq_true p42; replace q42 := eq_true q42; have p43 : 0 ≤ (x17_1 : Int) := zW (by first | (with_reducible assumption) | assumption); have q43 : x17_1 < (l0_1.length : Int) := zW (by first | (with_reducible assumption) | assumption); obtain ⟨ad43, e43, hx43_0⟩ := Kd.at_string HR0_1.out x17_1 p43 q43; have hw43_0 := hx43_0; obtain rfl : ad42 = ad43 := (by injection e43); replace hx43_0 := (HB.out.cell (zB w _ hx43_0)).trans hx43_0; replace p43 := eq_true p43; replace q43 := eq_true q43; refine start_ (n := 26) (S := fun w' => w'.cell? ⟨gb35, 0, none⟩ = some (.slice (some ad41) l0_0.length c0_0) ∧ w'.cell? ⟨gb35, 1, none⟩ = some (.slice (some ad42) l0_1.length c0_1) ∧ w'.cell? ⟨gb35, 2, none⟩ = some (.slice A0_2 l0_2.length c0_2) ∧ w'.cell? ⟨gb35, 3, none⟩ = some (.int .i64 a0_3) ∧ w'.cell? (ad42.add (x17_1).toNat) = some (.string (rdOf ByteArray.empty l0_1 x17_1)) ∧ w'.cell? (ad42.add (x17_1).toNat) = some (.string (rdOf ByteArray.empty l0_1 x17_1))) (ds := []) (bA 26 0) (by kernel_rfl) rfl rfl ⟨(zP BK35.out 0).trans rfl, (zP BK35.out 1).trans rfl, (zP BK35.out 2).trans rfl, (zP BK35.out 3).trans rfl, ((HB.out.cell (zB w _ hw42_0)).trans hw42_0), ((HB.out.cell (zB w _ hw43_0)).trans hw43_0)⟩ (fun hHeld => ?_); refine with_tabW spec_l6Bytes.tab5 spec_l6Bytes.bits5 (fun HT_ HW_ => ?_); generalize wr.drew = w16 at BK35 HB hx42_0 hx43_0 hHeld ⊢; refine wzP 0 22 (bA 26 1) HT_ ?_
           refine wzP 1 23 (bA 26 3) HT_ ?_
           refine wzP 2 24 (bA 26 7) HT_ ?_
           refine wzP 3 25 (bA 26 15) HT_ ?_
           refine wzP 6 28 (bA 26 79) HT_ ?_
           refine wzP 8 30 (bA 26 335) HT_ ?_
           refine wzP 10 32 (bA 26 1359) HT_ ?_
           refine wzP 18 40 (bA 26 263503) HT_ ?_
           refine wzP 20 42 (bA 26 1312079) HT_ ?_
           refine wzT 9 31 (bA 26 1312591) HT_ HW_ hHeld ?_
           refine wzP 11 33 (bA 26 1314639) HT_ ?_
           refine wzT 12 34 (bA 26 1318735) HT_ HW_ hHeld ?_
           refine wzP 13 35 (bA 26 1326927) HT_ ?_
           refine wzP 14 36 (bA 26 1343311) HT_ ?_
           refine wzT 19 41 (bA 26 1867599) HT_ HW_ hHeld ?_
           refine wzP 21 43 (bA 26 3964751) HT_ ?_
           refine wzT 22 44 (bA 26 8159055) HT_ HW_ hHeld ?_
           refine join_ (σ := Value × Value) 4 (bA 26 8257535) (fun s_ => [(26, s_.1), (27, .string (strOfNums y39)), (37, s_.2), (38, .string (strOfNums y40)), (29, .string ((strOfNums y39) ++ (rdOf ByteArray.empty l0_0 x17_1)))]) (fun s_ w' => (w'.cell? ⟨gb35, 0, none⟩ = some (.slice (some ad41) l0_0.length c0_0) ∧ w'.cell? ⟨gb35, 1, none⟩ = some (.slice (some ad42) l0_1.length c0_1) ∧ w'.cell? ⟨gb35, 2, none⟩ = some (.slice A0_2 l0_2.length c0_2) ∧ w'.cell? ⟨gb35, 3, none⟩ = some (.int .i64 a0_3) ∧ w'.cell? (ad42.add (x17_1).toNat) = some (.string (rdOf ByteArray.empty l0_1 x17_1)) ∧ w'.cell? (ad42.add (x17_1).toNat) = some (.string (rdOf ByteArray.empty l0_1 x17_1))) ∧ (Kd.R (Kd.int .u8) 5 w' w.heap.size (fun k_ => some k_ ≠ (s_.2 : Value).ownBlock) s_.1 y39) ∧ (Kd.R (Kd.int .u8) 5 w' w.heap.size (fun k_ => some k_ ≠ (s_.1 : Value).ownBlock) s_.2 y40) ∧ (w'.heap[gb35]? = some (.cells #[.slice (some ad41) l0_0.length c0_0, .slice (some ad42) l0_1.length c0_1, .slice A0_2 l0_2.length c0_2, .int .i64 a0_3] 38 (0, 0))) ∧ (Below w.heap.size w w')) ?_ ?_; rotate_left
           ·intro hJ4_5_15_16
            refine join_ (σ := Value × Value) 5 (bA 26 8191999) (fun s_ => [(26, s_.1), (27, .string (strOfNums y39)), (37, s_.2), (29, .string ((strOfNums y39) ++ (rdOf ByteArray.empty l0_0 x17_1)))]) (fun s_ w' => (w'.cell? ⟨gb35, 0, none⟩ = some (.slice (some ad41) l0_0.length c0_0) ∧ w'.cell? ⟨gb35, 1, none⟩ = some (.slice (some ad42) l0_1.length c0_1) ∧ w'.cell? ⟨gb35, 2, none⟩ = some (.slice A0_2 l0_2.length c0_2) ∧ w'.cell? ⟨gb35, 3, none⟩ = some (.int .i64 a0_3) ∧ w'.cell? (ad42.add (x17_1).toNat) = some (.string (rdOf ByteArray.empty l0_1 x17_1)) ∧ w'.cell? (ad42.add (x17_1).toNat) = some (.string (rdOf ByteArray.empty l0_1 x17_1))) ∧ (Kd.R (Kd.int .u8) 5 w' w.heap.size (fun k_ => some k_ ≠ (s_.2 : Value).ownBlock) s_.1 y39) ∧ (Kd.R (Kd.int .u8) 5 w' w.heap.size (fun k_ => some k_ ≠ (s_.1 : Value).ownBlock) s_.2 y40) ∧ (w'.heap[gb35]? = some (.cells #[.slice (some ad41) l0_0.length c0_0, .slice (some ad42) l0_1.length c0_1, .slice A0_2 l0_2.length c0_2, .int .i64 a0_3] 38 (0, 0))) ∧ (Below w.heap.size w w')) ?_ ?_; rotate_left
            ·intro hJ4_5_15
             refine join_ (σ := Value × Value) 6 (bA 26 8257375) (fun s_ => [(26, s_.1), (37, s_.2), (38, .string (strOfNums y40))]) (fun s_ w' => (w'.cell? ⟨gb35, 0, none⟩ = some (.slice (some ad41) l0_0.length c0_0) ∧ w'.cell? ⟨gb35, 1, none⟩ = some (.slice (some ad42) l0_1.length c0_1) ∧ w'.cell? ⟨gb35, 2, none⟩ = some (.slice A0_2 l0_2.length c0_2) ∧ w'.cell? ⟨gb35, 3, none⟩ = some (.int .i64 a0_3) ∧ w'.cell? (ad42.add (x17_1).toNat) = some (.string (rdOf ByteArray.empty l0_1 x17_1)) ∧ w'.cell? (ad42.add (x17_1).toNat) = some (.string (rdOf ByteArray.empty l0_1 x17_1))) ∧ (Kd.R (Kd.int .u8) 5 w' w.heap.size (fun k_ => some k_ ≠ (s_.2 : Value).ownBlock) s_.1 y39) ∧ (Kd.R (Kd.int .u8) 5 w' w.heap.size (fun k_ => some k_ ≠ (s_.1 : Value).ownBlock) s_.2 y40) ∧ (w'.heap[gb35]? = some (.cells #[.slice (some ad41) l0_0.length c0_0, .slice (some ad42) l0_1.length c0_1, .slice A0_2 l0_2.length c0_2, .int .i64 a0_3] 38 (0, 0))) ∧ (Below w.heap.size w w')) ?_ ?_; rotate_left
             ·intro hJ4_15_16
              refine join_ (σ := Value) 6 (bA 26 8159231) (fun s_ => [(26, s_), (27, .string (strOfNums y39)), (29, .string ((strOfNums y39) ++ (rdOf ByteArray.empty l0_0 x17_1)))]) (fun s_ w' => (w'.cell? ⟨gb35, 0, none⟩ = some (.slice (some ad41) l0_0.length c0_0) ∧ w'.cell? ⟨gb35, 1, none⟩ = some (.slice (some ad42) l0_1.length c0_1) ∧ w'.cell? ⟨gb35, 2, none⟩ = some (.slice A0_2 l0_2.length c0_2) ∧ w'.cell? ⟨gb35, 3, none⟩ = some (.int .i64 a0_3) ∧ w'.cell? (ad42.add (x17_1).toNat) = some (.string (rdOf ByteArray.empty l0_1 x17_1)) ∧ w'.cell? (ad42.add (x17_1).toNat) = some (.string (rdOf ByteArray.empty l0_1 x17_1))) ∧ (Kd.R (Kd.int .u8) 5 w' w.heap.size (fun _ => True) s_ y39) ∧ (w'.heap[gb35]? = some (.cells #[.slice (some ad41) l0_0.length c0_0, .slice (some ad42) l0_1.length c0_1, .slice A0_2 l0_2.length c0_2, .int .i64 a0_3] 38 (0, 0))) ∧ (Below w.heap.size w w')) ?_ ?_; rotate_left
              ·intro hJ4_5
               refine join_ (σ := Value × Value) 7 (bA 26 8191839) (fun s_ => [(26, s_.1), (37, s_.2)]) (fun s_ w' => (w'.cell? ⟨gb35, 0, none⟩ = some (.slice (some ad41) l0_0.length c0_0) ∧ w'.cell? ⟨gb35, 1, none⟩ = some (.slice (some ad42) l0_1.length c0_1) ∧ w'.cell? ⟨gb35, 2, none⟩ = some (.slice A0_2 l0_2.length c0_2) ∧ w'.cell? ⟨gb35, 3, none⟩ = some (.int .i64 a0_3) ∧ w'.cell? (ad42.add (x17_1).toNat) = some (.string (rdOf ByteArray.empty l0_1 x17_1)) ∧ w'.cell? (ad42.add (x17_1).toNat) = some (.string (rdOf ByteArray.empty l0_1 x17_1))) ∧ (Kd.R (Kd.int .u8) 5 w' w.heap.size (fun k_ => some k_ ≠ (s_.2 : Value).ownBlock) s_.1 y39) ∧ (Kd.R (Kd.int .u8) 5 w' w.heap.size (fun k_ => some k_ ≠ (s_.1 : Value).ownBlock) s_.2 y40) ∧ (w'.heap[gb35]? = some (.cells #[.slice (some ad41) l0_0.length c0_0, .slice (some ad42) l0_1.length c0_1, .slice A0_2 l0_2.length c0_2, .int .i64 a0_3] 38 (0, 0))) ∧ (Below w.heap.size w w')) ?_ ?_; rotate_left
               ·intro hJ4_15
                refine join_ (σ := Value) 7 (bA 26 8257359) (fun s_ => [(37, s_), (38, .string (strOfNums y40))]) (fun s_ w' => (w'.cell? ⟨gb35, 0, none⟩ = some (.slice (some ad41) l0_0.length c0_0) ∧ w'.cell? ⟨gb35, 1, none⟩ = some (.slice (some ad42) l0_1.length c0_1) ∧ w'.cell? ⟨gb35, 2, none⟩ = some (.slice A0_2 l0_2.length c0_2) ∧ w'.cell? ⟨gb35, 3, none⟩ = some (.int .i64 a0_3) ∧ w'.cell? (ad42.add (x17_1).toNat) = some (.string (rdOf ByteArray.empty l0_1 x17_1)) ∧ w'.cell? (ad42.add (x17_1).toNat) = some (.string (rdOf ByteArray.empty l0_1 x17_1))) ∧ (Kd.R (Kd.int .u8) 5 w' w.heap.size (fun _ => True) s_ y40) ∧ (w'.heap[gb35]? = some (.cells #[.slice (some ad41) l0_0.length c0_0, .slice (some ad42) l0_1.length c0_1, .slice A0_2 l0_2.length c0_2, .int .i64 a0_3] 38 (0, 0))) ∧ (Below w.heap.size w w')) ?_ ?_; rotate_left
                ·intro hJ15_16
                 refine join_ (σ := Value) 8 (bA 26 8159071) (fun s_ => [(26, s_)]) (fun s_ w' => (w'.cell? ⟨gb35, 0, none⟩ = some (.slice (some ad41) l0_0.length c0_0) ∧ w'.cell? ⟨gb35, 1, none⟩ = some (.slice (some ad42) l0_1.length c0_1) ∧ w'.cell? ⟨gb35, 2, none⟩ = some (.slice A0_2 l0_2.length c0_2) ∧ w'.cell? ⟨gb35, 3, none⟩ = some (.int .i64 a0_3) ∧ w'.cell? (ad42.add (x17_1).toNat) = some (.string (rdOf ByteArray.empty l0_1 x17_1)) ∧ w'.cell? (ad42.add (x17_1).toNat) = some (.string (rdOf ByteArray.empty l0_1 x17_1))) ∧ (Kd.R (Kd.int .u8) 5 w' w.heap.size (fun _ => True) s_ y39) ∧ (w'.heap[gb35]? = some (.cells #[.slice (some ad41) l0_0.length c0_0, .slice (some ad42) l0_1.length c0_1, .slice A0_2 l0_2.length c0_2, .int .i64 a0_3] 38 (0, 0))) ∧ (Below w.heap.size w w')) ?_ ?_; rotate_left
                 ·intro hJ4
                  refine join_ (σ := Value) 8 (bA 26 8191823) (fun s_ => [(37, s_)]) (fun s_ w' => (w'.cell? ⟨gb35, 0, none⟩ = some (.slice (some ad41) l0_0.length c0_0) ∧ w'.cell? ⟨gb35, 1, none⟩ = some (.slice (some ad42) l0_1.length c0_1) ∧ w'.cell? ⟨gb35, 2, none⟩ = some (.slice A0_2 l0_2.length c0_2) ∧ w'.cell? ⟨gb35, 3, none⟩ = some (.int .i64 a0_3) ∧ w'.cell? (ad42.add (x17_1).toNat) = some (.string (rdOf ByteArray.empty l0_1 x17_1)) ∧ w'.cell? (ad42.add (x17_1).toNat) = some (.string (rdOf ByteArray.empty l0_1 x17_1))) ∧ (Kd.R (Kd.int .u8) 5 w' w.heap.size (fun _ => True) s_ y40) ∧ (w'.heap[gb35]? = some (.cells #[.slice (some ad41) l0_0.length c0_0, .slice (some ad42) l0_1.length c0_1, .slice A0_2 l0_2.length c0_2, .int .i64 a0_3] 38 (0, 0))) ∧ (Below w.heap.size w w')) ?_ ?_; rotate_left
                  ·intro hJ15
                   refine two_ (i := 4) (j := 15) (Ni := some 26) (Nj := some 37) (bA 26 8159071) (bA 26 8191823) rfl rfl rfl rfl (two_of HT_.out (by kernel_rfl)) (by decide) (by decide) (fun K hK => ?_) (fun K hK => ?_)
                   ·skip
                    refine Kd.R_lit_step (Kd.int .u8) _ 5 ?hg (N := 26) ?hd (xs := ([(((rdOf ByteArray.empty l0_0 x17_1).size : Int)) % 256] : List Int)) (inner := [.int .u8 ((((rdOf ByteArray.empty l0_0 x17_1).size : Int)) % 256)]) (ok := fun _ => True) (okp := fun _ => True) ?hr ?hp (fun _ hk => hk) trivial (Below.refl _ _) (Nat.le_refl _) (by simp) ?_; (case hd => rfl); (case hg => rfl); (case hr => first | (go_simp; done) | (go_simp; rfl)); (case hp => exact (Reps.one (show Kd.M (Kd.int .u8) _ _ _ ((((rdOf ByteArray.empty l0_0 x17_1).size : Int)) % 256) [.int .u8 ((((rdOf ByteArray.empty l0_0 x17_1).size : Int)) % 256)] from rfl) (Reps.none _ _))); intro v44 w17 ho18 hb hg_ hnew_; clear hg_ hnew_; (first | rw [← Ny39.out] at ho18 | (simp only [Int.reduceToNat] at ho18; rw [← Ny39.out] at ho18)); have n0_ := zA (Kd.R_lower ho18 (zAE (by repeat (first | (with_reducible first | exact HB.out | apply zH | apply zF | apply zG | refine zI ?_ GE35.out) | exact HB.out)))); have n1_ := zA (yE (g := gb35) (o := .cells #[.slice (some ad41) l0_0.length c0_0, .slice (some ad42) l0_1.length c0_1, .slice A0_2 l0_2.length c0_2, .int .i64 a0_3] 38 (0, 0)) (by (with_reducible repeat (first | refine zL ?_ _ | refine zN ?_ | refine zM ?_ _)); exact BK35.out) hb); have n2_ := zA (zAD (by repeat (first | (with_reducible first | exact HB.out | apply zH | apply zF | apply zG | refine zI ?_ GE35.out) | exact HB.out)) hb); clear BK35 HB; have HO45 := n0_; have BK35 := n1_; have HB := n2_; clear n0_ n1_ n2_ hb ho18; refine hK.out _ _ ⟨(zP BK35.out 0).trans rfl, (zP BK35.out 1).trans rfl, (zP BK35.out 2).trans rfl, (zP BK35.out 3).trans rfl, ((HB.out.cell (zB w _ hw42_0)).trans hw42_0), ((HB.out.cell (zB w _ hw43_0)).trans hw43_0)⟩ (fun hHeld => ?_); clear hK K; refine wzN 26 ?_
                    exact norm_ (by simp only [putAll, Act.put, zC, zD, zE] <;> rfl) (hJ4 (v44) _ ⟨hHeld, (by (with_reducible repeat first | apply zQ | apply zR | apply zS); exact HO45.out), (by (with_reducible repeat (first | refine zL ?_ _ | refine zN ?_ | refine zM ?_ _)); exact BK35.out), (by repeat (first | (with_reducible first | exact HB.out | apply zH | apply zF | apply zG | refine zI ?_ GE35.out) | exact HB.out))⟩)
                   ·skip
                    refine Kd.R_lit_step (Kd.int .u8) _ 5 ?hg (N := 37) ?hd (xs := ([(((rdOf ByteArray.empty l0_1 x17_1).size : Int)) % 256] : List Int)) (inner := [.int .u8 ((((rdOf ByteArray.empty l0_1 x17_1).size : Int)) % 256)]) (ok := fun _ => True) (okp := fun _ => True) ?hr ?hp (fun _ hk => hk) trivial (Below.refl _ _) (Nat.le_refl _) (by simp) ?_; (case hd => rfl); (case hg => rfl); (case hr => first | (go_simp; done) | (go_simp; rfl)); (case hp => exact (Reps.one (show Kd.M (Kd.int .u8) _ _ _ ((((rdOf ByteArray.empty l0_1 x17_1).size : Int)) % 256) [.int .u8 ((((rdOf ByteArray.empty l0_1 x17_1).size : Int)) % 256)] from rfl) (Reps.none _ _))); intro v46 w17 ho18 hb hg_ hnew_; clear hg_ hnew_; (first | rw [← Ny40.out] at ho18 | (simp only [Int.reduceToNat] at ho18; rw [← Ny40.out] at ho18)); have n0_ := zA (Kd.R_lower ho18 (zAE (by repeat (first | (with_reducible first | exact HB.out | apply zH | apply zF | apply zG | refine zI ?_ GE35.out) | exact HB.out)))); have n1_ := zA (yE (g := gb35) (o := .cells #[.slice (some ad41) l0_0.length c0_0, .slice (some ad42) l0_1.length c0_1, .slice A0_2 l0_2.length c0_2, .int .i64 a0_3] 38 (0, 0)) (by (with_reducible repeat (first | refine zL ?_ _ | refine zN ?_ | refine zM ?_ _)); exact BK35.out) hb); have n2_ := zA (zAD (by repeat (first | (with_reducible first | exact HB.out | apply zH | apply zF | apply zG | refine zI ?_ GE35.out) | exact HB.out)) hb); clear BK35 HB; have HO47 := n0_; have BK35 := n1_; have HB := n2_; clear n0_ n1_ n2_ hb ho18; refine hK.out _ _ ⟨(zP BK35.out 0).trans rfl, (zP BK35.out 1).trans rfl, (zP BK35.out 2).trans rfl, (zP BK35.out 3).trans rfl, ((HB.out.cell (zB w _ hw42_0)).trans hw42_0), ((HB.out.cell (zB w _ hw43_0)).trans hw43_0)⟩ (fun hHeld => ?_); clear hK K; refine wzN 37 ?_
                    exact norm_ (by simp only [putAll, Act.put, zC, zD, zE] <;> rfl) (hJ15 (v46) _ ⟨hHeld, (by (with_reducible repeat first | apply zQ | apply zR | apply zS); exact HO47.out), (by (with_reducible repeat (first | refine zL ?_ _ | refine zN ?_ | refine zM ?_ _)); exact BK35.out), (by repeat (first | (with_reducible first | exact HB.out | apply zH | apply zF | apply zG | refine zI ?_ GE35.out) | exact HB.out))⟩)
                  ·skip
                   rintro v46 w19 ⟨hS_, h0_, h1_, h2_⟩; have n0_ : Aside0 (Kd.R (Kd.int .u8) 5 w19 w.heap.size (fun _ => True) v46 y40) := ⟨h0_⟩; have n1_ : Aside0 (w19.heap[gb35]? = some (.cells #[.slice (some ad41) l0_0.length c0_0, .slice (some ad42) l0_1.length c0_1, .slice A0_2 l0_2.length c0_2, .int .i64 a0_3] 38 (0, 0))) := ⟨h1_⟩; have n2_ : Aside0 (Below w.heap.size w w19) := ⟨h2_⟩; clear BK35 HB h0_ h1_ h2_; have HO47 := n0_; have BK35 := n1_; have HB := n2_; clear n0_ n1_ n2_; have hHeld : w19.cell? ⟨gb35, 0, none⟩ = some (.slice (some ad41) l0_0.length c0_0) ∧ w19.cell? ⟨gb35, 1, none⟩ = some (.slice (some ad42) l0_1.length c0_1) ∧ w19.cell? ⟨gb35, 2, none⟩ = some (.slice A0_2 l0_2.length c0_2) ∧ w19.cell? ⟨gb35, 3, none⟩ = some (.int .i64 a0_3) ∧ w19.cell? (ad42.add (x17_1).toNat) = some (.string (rdOf ByteArray.empty l0_1 x17_1)) ∧ w19.cell? (ad42.add (x17_1).toNat) = some (.string (rdOf ByteArray.empty l0_1 x17_1)) := hS_; refine norm_ (a' := ?_) ?_ ?_; rotate_left
                   ·simp only [putAll, Act.put, zC, zD, zE]
                    rfl
                   refine two_ (i := 4) (j := 16) (Ni := some 26) (Nj := some 38) (bA 26 8191839) (bA 26 8257359) rfl rfl rfl rfl (two_of HT_.out (by kernel_rfl)) (by decide) (by decide) (fun K hK => ?_) (fun K hK => ?_)
                   ·skip
                    refine Kd.R_lit_step (Kd.int .u8) _ 5 ?hg (N := 26) ?hd (xs := ([(((rdOf ByteArray.empty l0_0 x17_1).size : Int)) % 256] : List Int)) (inner := [.int .u8 ((((rdOf ByteArray.empty l0_0 x17_1).size : Int)) % 256)]) (ok := fun _ => True) (okp := fun _ => True) ?hr ?hp (fun _ hk => hk) trivial (Below.refl _ _) (Nat.le_refl _) (by simp) ?_; (case hd => rfl); (case hg => rfl); (case hr => first | (go_simp; done) | (go_simp; rfl)); (case hp => exact (Reps.one (show Kd.M (Kd.int .u8) _ _ _ ((((rdOf ByteArray.empty l0_0 x17_1).size : Int)) % 256) [.int .u8 ((((rdOf ByteArray.empty l0_0 x17_1).size : Int)) % 256)] from rfl) (Reps.none _ _))); intro v44 w20 ho21 hb hg_ hnew_; clear hg_ hnew_; (first | rw [← Ny39.out] at ho21 | (simp only [Int.reduceToNat] at ho21; rw [← Ny39.out] at ho21)); have n0_ := zA (yJ (by (with_reducible repeat first | apply zQ | apply zR | apply zS); exact HO47.out) (Kd.R_base ho21) hb); have n1_ := zA (Kd.R_lower (yK ho21 (Kd.R_lt (by (with_reducible repeat first | apply zQ | apply zR | apply zS); exact HO47.out))) (zAE (by repeat (first | (with_reducible first | exact HB.out | apply zH | apply zF | apply zG | refine zI ?_ GE35.out) | exact HB.out)))); have n2_ := zA (yE (g := gb35) (o := .cells #[.slice (some ad41) l0_0.length c0_0, .slice (some ad42) l0_1.length c0_1, .slice A0_2 l0_2.length c0_2, .int .i64 a0_3] 38 (0, 0)) (by (with_reducible repeat (first | refine zL ?_ _ | refine zN ?_ | refine zM ?_ _)); exact BK35.out) hb); have n3_ := zA (zAD (by repeat (first | (with_reducible first | exact HB.out | apply zH | apply zF | apply zG | refine zI ?_ GE35.out) | exact HB.out)) hb); clear HO47 BK35 HB; have HO47 := n0_; have HO45 := n1_; have BK35 := n2_; have HB := n3_; clear n0_ n1_ n2_ n3_ hb ho21; refine hK.out _ _ ⟨(zP BK35.out 0).trans rfl, (zP BK35.out 1).trans rfl, (zP BK35.out 2).trans rfl, (zP BK35.out 3).trans rfl, ((HB.out.cell (zB w _ hw42_0)).trans hw42_0), ((HB.out.cell (zB w _ hw43_0)).trans hw43_0)⟩ (fun hHeld => ?_); clear hK K; refine wzN 26 ?_
                    exact norm_ (by simp only [putAll, Act.put, zC, zD, zE] <;> rfl) (hJ4_15 (v44, v46) _ ⟨hHeld, (by (with_reducible repeat first | apply zQ | apply zR | apply zS); exact yC HO45.out (fun _ hk => hk.2)), (by (with_reducible repeat first | apply zQ | apply zR | apply zS); exact yC HO47.out (fun _ hk => hk.2)), (by (with_reducible repeat (first | refine zL ?_ _ | refine zN ?_ | refine zM ?_ _)); exact BK35.out), (by repeat (first | (with_reducible first | exact HB.out | apply zH | apply zF | apply zG | refine zI ?_ GE35.out) | exact HB.out))⟩)
                   ·skip
                    have hcv20 := own_string (P := Try.prog) Try.underlying73 Try.underlying5 Try.underlying9 (Kd.own_of_R HO47.out); refine value_ (w1 := ?_) (v := ?_) (by rfl) rfl ?_ ?_; rotate_left 2
                    ·go_simp
                     constructor
                     ·rfl
                     ·rfl
                    clear hcv20; refine hK.out _ _ ⟨(zP BK35.out 0).trans rfl, (zP BK35.out 1).trans rfl, (zP BK35.out 2).trans rfl, (zP BK35.out 3).trans rfl, ((HB.out.cell (zB w _ hw42_0)).trans hw42_0), ((HB.out.cell (zB w _ hw43_0)).trans hw43_0)⟩ (fun hHeld => ?_); clear hK K; refine wzN 38 ?_
                    exact norm_ (by simp only [putAll, Act.put, zC, zD, zE] <;> rfl) (hJ15_16 (v46) _ ⟨hHeld, (by (with_reducible repeat first | apply zQ | apply zR | apply zS); exact HO47.out), (by (with_reducible repeat (first | refine zL ?_ _ | refine zN ?_ | refine zM ?_ _)); exact BK35.out), (by repeat (first | (with_reducible first | exact HB.out | apply zH | apply zF | apply zG | refine zI ?_ GE35.out) | exact HB.out))⟩)
                 ·skip
                  rintro v44 w19 ⟨hS_, h0_, h1_, h2_⟩; have n0_ : Aside0 (Kd.R (Kd.int .u8) 5 w19 w.heap.size (fun _ => True) v44 y39) := ⟨h0_⟩; have n1_ : Aside0 (w19.heap[gb35]? = some (.cells #[.slice (some ad41) l0_0.length c0_0, .slice (some ad42) l0_1.length c0_1, .slice A0_2 l0_2.length c0_2, .int .i64 a0_3] 38 (0, 0))) := ⟨h1_⟩; have n2_ : Aside0 (Below w.heap.size w w19) := ⟨h2_⟩; clear BK35 HB h0_ h1_ h2_; have HO45 := n0_; have BK35 := n1_; have HB := n2_; clear n0_ n1_ n2_; have hHeld : w19.cell? ⟨gb35, 0, none⟩ = some (.slice (some ad41) l0_0.length c0_0) ∧ w19.cell? ⟨gb35, 1, none⟩ = some (.slice (some ad42) l0_1.length c0_1) ∧ w19.cell? ⟨gb35, 2, none⟩ = some (.slice A0_2 l0_2.length c0_2) ∧ w19.cell? ⟨gb35, 3, none⟩ = some (.int .i64 a0_3) ∧ w19.cell? (ad42.add (x17_1).toNat) = some (.string (rdOf ByteArray.empty l0_1 x17_1)) ∧ w19.cell? (ad42.add (x17_1).toNat) = some (.string (rdOf ByteArray.empty l0_1 x17_1)) := hS_; refine norm_ (a' := ?_) ?_ ?_; rotate_left
                  ·simp only [putAll, Act.put, zC, zD, zE]
                   rfl
                  refine two_ (i := 5) (j := 15) (Ni := some 27) (Nj := some 37) (bA 26 8159103) (bA 26 8191839) rfl rfl rfl rfl (two_of HT_.out (by kernel_rfl)) (by decide) (by decide) (fun K hK => ?_) (fun K hK => ?_)
                  ·skip
                   have hcv20 := own_string (P := Try.prog) Try.underlying73 Try.underlying5 Try.underlying9 (Kd.own_of_R HO45.out); refine value_ (w1 := ?_) (v := ?_) (by rfl) rfl ?_ ?_; rotate_left 2
                   ·go_simp
                    constructor
                    ·rfl
                    ·rfl
                   clear hcv20; refine hK.out _ _ ⟨(zP BK35.out 0).trans rfl, (zP BK35.out 1).trans rfl, (zP BK35.out 2).trans rfl, (zP BK35.out 3).trans rfl, ((HB.out.cell (zB w _ hw42_0)).trans hw42_0), ((HB.out.cell (zB w _ hw43_0)).trans hw43_0)⟩ (fun hHeld => ?_); clear hK K; refine wzN 27 ?_
                   refine wzP 7 29 (bA 26 8159231) HT_ ?_
                   exact norm_ (by simp only [putAll, Act.put, zC, zD, zE] <;> rfl) (hJ4_5 (v44) _ ⟨hHeld, (by (with_reducible repeat first | apply zQ | apply zR | apply zS); exact HO45.out), (by (with_reducible repeat (first | refine zL ?_ _ | refine zN ?_ | refine zM ?_ _)); exact BK35.out), (by repeat (first | (with_reducible first | exact HB.out | apply zH | apply zF | apply zG | refine zI ?_ GE35.out) | exact HB.out))⟩)
                  ·skip
                   refine Kd.R_lit_step (Kd.int .u8) _ 5 ?hg (N := 37) ?hd (xs := ([(((rdOf ByteArray.empty l0_1 x17_1).size : Int)) % 256] : List Int)) (inner := [.int .u8 ((((rdOf ByteArray.empty l0_1 x17_1).size : Int)) % 256)]) (ok := fun _ => True) (okp := fun _ => True) ?hr ?hp (fun _ hk => hk) trivial (Below.refl _ _) (Nat.le_refl _) (by simp) ?_; (case hd => rfl); (case hg => rfl); (case hr => first | (go_simp; done) | (go_simp; rfl)); (case hp => exact (Reps.one (show Kd.M (Kd.int .u8) _ _ _ ((((rdOf ByteArray.empty l0_1 x17_1).size : Int)) % 256) [.int .u8 ((((rdOf ByteArray.empty l0_1 x17_1).size : Int)) % 256)] from rfl) (Reps.none _ _))); intro v46 w20 ho21 hb hg_ hnew_; clear hg_ hnew_; (first | rw [← Ny40.out] at ho21 | (simp only [Int.reduceToNat] at ho21; rw [← Ny40.out] at ho21)); have n0_ := zA (yJ (by (with_reducible repeat first | apply zQ | apply zR | apply zS); exact HO45.out) (Kd.R_base ho21) hb); have n1_ := zA (Kd.R_lower (yK ho21 (Kd.R_lt (by (with_reducible repeat first | apply zQ | apply zR | apply zS); exact HO45.out))) (zAE (by repeat (first | (with_reducible first | exact HB.out | apply zH | apply zF | apply zG | refine zI ?_ GE35.out) | exact HB.out)))); have n2_ := zA (yE (g := gb35) (o := .cells #[.slice (some ad41) l0_0.length c0_0, .slice (some ad42) l0_1.length c0_1, .slice A0_2 l0_2.length c0_2, .int .i64 a0_3] 38 (0, 0)) (by (with_reducible repeat (first | refine zL ?_ _ | refine zN ?_ | refine zM ?_ _)); exact BK35.out) hb); have n3_ := zA (zAD (by repeat (first | (with_reducible first | exact HB.out | apply zH | apply zF | apply zG | refine zI ?_ GE35.out) | exact HB.out)) hb); clear HO45 BK35 HB; have HO45 := n0_; have HO47 := n1_; have BK35 := n2_; have HB := n3_; clear n0_ n1_ n2_ n3_ hb ho21; refine hK.out _ _ ⟨(zP BK35.out 0).trans rfl, (zP BK35.out 1).trans rfl, (zP BK35.out 2).trans rfl, (zP BK35.out 3).trans rfl, ((HB.out.cell (zB w _ hw42_0)).trans hw42_0), ((HB.out.cell (zB w _ hw43_0)).trans hw43_0)⟩ (fun hHeld => ?_); clear hK K; refine wzN 37 ?_
                   exact norm_ (by simp only [putAll, Act.put, zC, zD, zE] <;> rfl) (hJ4_15 (v44, v46) _ ⟨hHeld, (by (with_reducible repeat first | apply zQ | apply zR | apply zS); exact yC HO45.out (fun _ hk => hk.2)), (by (with_reducible repeat first | apply zQ | apply zR | apply zS); exact yC HO47.out (fun _ hk => hk.2)), (by (with_reducible repeat (first | refine zL ?_ _ | refine zN ?_ | refine zM ?_ _)); exact BK35.out), (by repeat (first | (with_reducible first | exact HB.out | apply zH | apply zF | apply zG | refine zI ?_ GE35.out) | exact HB.out))⟩)
                ·skip
                 rintro v46 w20 ⟨hS_, h0_, h1_, h2_⟩; have n0_ : Aside0 (Kd.R (Kd.int .u8) 5 w20 w.heap.size (fun _ => True) v46 y40) := ⟨h0_⟩; have n1_ : Aside0 (w20.heap[gb35]? = some (.cells #[.slice (some ad41) l0_0.length c0_0, .slice (some ad42) l0_1.length c0_1, .slice A0_2 l0_2.length c0_2, .int .i64 a0_3] 38 (0, 0))) := ⟨h1_⟩; have n2_ : Aside0 (Below w.heap.size w w20) := ⟨h2_⟩; clear BK35 HB h0_ h1_ h2_; have HO47 := n0_; have BK35 := n1_; have HB := n2_; clear n0_ n1_ n2_; have hHeld : w20.cell? ⟨gb35, 0, none⟩ = some (.slice (some ad41) l0_0.length c0_0) ∧ w20.cell? ⟨gb35, 1, none⟩ = some (.slice (some ad42) l0_1.length c0_1) ∧ w20.cell? ⟨gb35, 2, none⟩ = some (.slice A0_2 l0_2.length c0_2) ∧ w20.cell? ⟨gb35, 3, none⟩ = some (.int .i64 a0_3) ∧ w20.cell? (ad42.add (x17_1).toNat) = some (.string (rdOf ByteArray.empty l0_1 x17_1)) ∧ w20.cell? (ad42.add (x17_1).toNat) = some (.string (rdOf ByteArray.empty l0_1 x17_1)) := hS_; refine norm_ (a' := ?_) ?_ ?_; rotate_left
                 ·simp only [putAll, Act.put, zC, zD, zE]
                  rfl
                 refine one_ (i := 4) (N := some 26) (bA 26 8257375) rfl rfl (one_of HT_.out (by kernel_rfl)) (by decide) (fun K hK => ?_); refine Kd.R_lit_step (Kd.int .u8) _ 5 ?hg (N := 26) ?hd (xs := ([(((rdOf ByteArray.empty l0_0 x17_1).size : Int)) % 256] : List Int)) (inner := [.int .u8 ((((rdOf ByteArray.empty l0_0 x17_1).size : Int)) % 256)]) (ok := fun _ => True) (okp := fun _ => True) ?hr ?hp (fun _ hk => hk) trivial (Below.refl _ _) (Nat.le_refl _) (by simp) ?_; (case hd => rfl); (case hg => rfl); (case hr => first | (go_simp; done) | (go_simp; rfl)); (case hp => exact (Reps.one (show Kd.M (Kd.int .u8) _ _ _ ((((rdOf ByteArray.empty l0_0 x17_1).size : Int)) % 256) [.int .u8 ((((rdOf ByteArray.empty l0_0 x17_1).size : Int)) % 256)] from rfl) (Reps.none _ _))); intro v44 w21 ho22 hb hg_ hnew_; clear hg_ hnew_; (first | rw [← Ny39.out] at ho22 | (simp only [Int.reduceToNat] at ho22; rw [← Ny39.out] at ho22)); have n0_ := zA (yJ (by (with_reducible repeat first | apply zQ | apply zR | apply zS); exact HO47.out) (Kd.R_base ho22) hb); have n1_ := zA (Kd.R_lower (yK ho22 (Kd.R_lt (by (with_reducible repeat first | apply zQ | apply zR | apply zS); exact HO47.out))) (zAE (by repeat (first | (with_reducible first | exact HB.out | apply zH | apply zF | apply zG | refine zI ?_ GE35.out) | exact HB.out)))); have n2_ := zA (yE (g := gb35) (o := .cells #[.slice (some ad41) l0_0.length c0_0, .slice (some ad42) l0_1.length c0_1, .slice A0_2 l0_2.length c0_2, .int .i64 a0_3] 38 (0, 0)) (by (with_reducible repeat (first | refine zL ?_ _ | refine zN ?_ | refine zM ?_ _)); exact BK35.out) hb); have n3_ := zA (zAD (by repeat (first | (with_reducible first | exact HB.out | apply zH | apply zF | apply zG | refine zI ?_ GE35.out) | exact HB.out)) hb); clear HO47 BK35 HB; have HO47 := n0_; have HO45 := n1_; have BK35 := n2_; have HB := n3_; clear n0_ n1_ n2_ n3_ hb ho22; refine hK.out _ _ ⟨(zP BK35.out 0).trans rfl, (zP BK35.out 1).trans rfl, (zP BK35.out 2).trans rfl, (zP BK35.out 3).trans rfl, ((HB.out.cell (zB w _ hw42_0)).trans hw42_0), ((HB.out.cell (zB w _ hw43_0)).trans hw43_0)⟩ (fun hHeld => ?_); clear hK K; refine wzN 26 ?_
                 exact norm_ (by simp only [putAll, Act.put, zC, zD, zE] <;> rfl) (hJ4_15_16 (v44, v46) _ ⟨hHeld, (by (with_reducible repeat first | apply zQ | apply zR | apply zS); exact yC HO45.out (fun _ hk => hk.2)), (by (with_reducible repeat first | apply zQ | apply zR | apply zS); exact yC HO47.out (fun _ hk => hk.2)), (by (with_reducible repeat (first | refine zL ?_ _ | refine zN ?_ | refine zM ?_ _)); exact BK35.out), (by repeat (first | (with_reducible first | exact HB.out | apply zH | apply zF | apply zG | refine zI ?_ GE35.out) | exact HB.out))⟩)
               ·skip
                rintro ⟨v44, v46⟩ w21 ⟨hS_, h0_, h1_, h2_, h3_⟩; have n0_ : Aside0 (Kd.R (Kd.int .u8) 5 w21 w.heap.size (fun k_ => some k_ ≠ (v46 : Value).ownBlock) v44 y39) := ⟨h0_⟩; have n1_ : Aside0 (Kd.R (Kd.int .u8) 5 w21 w.heap.size (fun k_ => some k_ ≠ (v44 : Value).ownBlock) v46 y40) := ⟨h1_⟩; have n2_ : Aside0 (w21.heap[gb35]? = some (.cells #[.slice (some ad41) l0_0.length c0_0, .slice (some ad42) l0_1.length c0_1, .slice A0_2 l0_2.length c0_2, .int .i64 a0_3] 38 (0, 0))) := ⟨h2_⟩; have n3_ : Aside0 (Below w.heap.size w w21) := ⟨h3_⟩; clear BK35 HB h0_ h1_ h2_ h3_; have HO45 := n0_; have HO47 := n1_; have BK35 := n2_; have HB := n3_; clear n0_ n1_ n2_ n3_; have hHeld : w21.cell? ⟨gb35, 0, none⟩ = some (.slice (some ad41) l0_0.length c0_0) ∧ w21.cell? ⟨gb35, 1, none⟩ = some (.slice (some ad42) l0_1.length c0_1) ∧ w21.cell? ⟨gb35, 2, none⟩ = some (.slice A0_2 l0_2.length c0_2) ∧ w21.cell? ⟨gb35, 3, none⟩ = some (.int .i64 a0_3) ∧ w21.cell? (ad42.add (x17_1).toNat) = some (.string (rdOf ByteArray.empty l0_1 x17_1)) ∧ w21.cell? (ad42.add (x17_1).toNat) = some (.string (rdOf ByteArray.empty l0_1 x17_1)) := hS_; refine norm_ (a' := ?_) ?_ ?_; rotate_left
                ·simp only [putAll, Act.put, zC, zD, zE]
                 rfl
                refine two_ (i := 5) (j := 16) (Ni := some 27) (Nj := some 38) (bA 26 8191871) (bA 26 8257375) rfl rfl rfl rfl (two_of HT_.out (by kernel_rfl)) (by decide) (by decide) (fun K hK => ?_) (fun K hK => ?_)
                ·skip
                 have hcv22 := own_string (P := Try.prog) Try.underlying73 Try.underlying5 Try.underlying9 (Kd.own_of_R HO45.out); refine value_ (w1 := ?_) (v := ?_) (by rfl) rfl ?_ ?_; rotate_left 2
                 ·go_simp
                  constructor
                  ·rfl
                  ·rfl
                 clear hcv22; refine hK.out _ _ ⟨(zP BK35.out 0).trans rfl, (zP BK35.out 1).trans rfl, (zP BK35.out 2).trans rfl, (zP BK35.out 3).trans rfl, ((HB.out.cell (zB w _ hw42_0)).trans hw42_0), ((HB.out.cell (zB w _ hw43_0)).trans hw43_0)⟩ (fun hHeld => ?_); clear hK K; refine wzN 27 ?_
                 refine wzP 7 29 (bA 26 8191999) HT_ ?_
                 exact norm_ (by simp only [putAll, Act.put, zC, zD, zE] <;> rfl) (hJ4_5_15 (v44, v46) _ ⟨hHeld, (by (with_reducible repeat first | apply zQ | apply zR | apply zS); exact HO45.out), (by (with_reducible repeat first | apply zQ | apply zR | apply zS); exact HO47.out), (by (with_reducible repeat (first | refine zL ?_ _ | refine zN ?_ | refine zM ?_ _)); exact BK35.out), (by repeat (first | (with_reducible first | exact HB.out | apply zH | apply zF | apply zG | refine zI ?_ GE35.out) | exact HB.out))⟩)
                ·skip
                 have hcv22 := own_string (P := Try.prog) Try.underlying73 Try.underlying5 Try.underlying9 (Kd.own_of_R HO47.out); refine value_ (w1 := ?_) (v := ?_) (by rfl) rfl ?_ ?_; rotate_left 2
                 ·go_simp
                  constructor
                  ·rfl
                  ·rfl
                 clear hcv22; refine hK.out _ _ ⟨(zP BK35.out 0).trans rfl, (zP BK35.out 1).trans rfl, (zP BK35.out 2).trans rfl, (zP BK35.out 3).trans rfl, ((HB.out.cell (zB w _ hw42_0)).trans hw42_0), ((HB.out.cell (zB w _ hw43_0)).trans hw43_0)⟩ (fun hHeld => ?_); clear hK K; refine wzN 38 ?_
                 exact norm_ (by simp only [putAll, Act.put, zC, zD, zE] <;> rfl) (hJ4_15_16 (v44, v46) _ ⟨hHeld, (by (with_reducible repeat first | apply zQ | apply zR | apply zS); exact HO45.out), (by (with_reducible repeat first | apply zQ | apply zR | apply zS); exact HO47.out), (by (with_reducible repeat (first | refine zL ?_ _ | refine zN ?_ | refine zM ?_ _)); exact BK35.out), (by repeat (first | (with_reducible first | exact HB.out | apply zH | apply zF | apply zG | refine zI ?_ GE35.out) | exact HB.out))⟩)
              ·skip
               rintro v44 w20 ⟨hS_, h0_, h1_, h2_⟩; have n0_ : Aside0 (Kd.R (Kd.int .u8) 5 w20 w.heap.size (fun _ => True) v44 y39) := ⟨h0_⟩; have n1_ : Aside0 (w20.heap[gb35]? = some (.cells #[.slice (some ad41) l0_0.length c0_0, .slice (some ad42) l0_1.length c0_1, .slice A0_2 l0_2.length c0_2, .int .i64 a0_3] 38 (0, 0))) := ⟨h1_⟩; have n2_ : Aside0 (Below w.heap.size w w20) := ⟨h2_⟩; clear BK35 HB h0_ h1_ h2_; have HO45 := n0_; have BK35 := n1_; have HB := n2_; clear n0_ n1_ n2_; have hHeld : w20.cell? ⟨gb35, 0, none⟩ = some (.slice (some ad41) l0_0.length c0_0) ∧ w20.cell? ⟨gb35, 1, none⟩ = some (.slice (some ad42) l0_1.length c0_1) ∧ w20.cell? ⟨gb35, 2, none⟩ = some (.slice A0_2 l0_2.length c0_2) ∧ w20.cell? ⟨gb35, 3, none⟩ = some (.int .i64 a0_3) ∧ w20.cell? (ad42.add (x17_1).toNat) = some (.string (rdOf ByteArray.empty l0_1 x17_1)) ∧ w20.cell? (ad42.add (x17_1).toNat) = some (.string (rdOf ByteArray.empty l0_1 x17_1)) := hS_; refine norm_ (a' := ?_) ?_ ?_; rotate_left
               ·simp only [putAll, Act.put, zC, zD, zE]
                rfl
               refine one_ (i := 15) (N := some 37) (bA 26 8191999) rfl rfl (one_of HT_.out (by kernel_rfl)) (by decide) (fun K hK => ?_); refine Kd.R_lit_step (Kd.int .u8) _ 5 ?hg (N := 37) ?hd (xs := ([(((rdOf ByteArray.empty l0_1 x17_1).size : Int)) % 256] : List Int)) (inner := [.int .u8 ((((rdOf ByteArray.empty l0_1 x17_1).size : Int)) % 256)]) (ok := fun _ => True) (okp := fun _ => True) ?hr ?hp (fun _ hk => hk) trivial (Below.refl _ _) (Nat.le_refl _) (by simp) ?_; (case hd => rfl); (case hg => rfl); (case hr => first | (go_simp; done) | (go_simp; rfl)); (case hp => exact (Reps.one (show Kd.M (Kd.int .u8) _ _ _ ((((rdOf ByteArray.empty l0_1 x17_1).size : Int)) % 256) [.int .u8 ((((rdOf ByteArray.empty l0_1 x17_1).size : Int)) % 256)] from rfl) (Reps.none _ _))); intro v46 w21 ho22 hb hg_ hnew_; clear hg_ hnew_; (first | rw [← Ny40.out] at ho22 | (simp only [Int.reduceToNat] at ho22; rw [← Ny40.out] at ho22)); have n0_ := zA (yJ (by (with_reducible repeat first | apply zQ | apply zR | apply zS); exact HO45.out) (Kd.R_base ho22) hb); have n1_ := zA (Kd.R_lower (yK ho22 (Kd.R_lt (by (with_reducible repeat first | apply zQ | apply zR | apply zS); exact HO45.out))) (zAE (by repeat (first | (with_reducible first | exact HB.out | apply zH | apply zF | apply zG | refine zI ?_ GE35.out) | exact HB.out)))); have n2_ := zA (yE (g := gb35) (o := .cells #[.slice (some ad41) l0_0.length c0_0, .slice (some ad42) l0_1.length c0_1, .slice A0_2 l0_2.length c0_2, .int .i64 a0_3] 38 (0, 0)) (by (with_reducible repeat (first | refine zL ?_ _ | refine zN ?_ | refine zM ?_ _)); exact BK35.out) hb); have n3_ := zA (zAD (by repeat (first | (with_reducible first | exact HB.out | apply zH | apply zF | apply zG | refine zI ?_ GE35.out) | exact HB.out)) hb); clear HO45 BK35 HB; have HO45 := n0_; have HO47 := n1_; have BK35 := n2_; have HB := n3_; clear n0_ n1_ n2_ n3_ hb ho22; refine hK.out _ _ ⟨(zP BK35.out 0).trans rfl, (zP BK35.out 1).trans rfl, (zP BK35.out 2).trans rfl, (zP BK35.out 3).trans rfl, ((HB.out.cell (zB w _ hw42_0)).trans hw42_0), ((HB.out.cell (zB w _ hw43_0)).trans hw43_0)⟩ (fun hHeld => ?_); clear hK K; refine wzN 37 ?_
               exact norm_ (by simp only [putAll, Act.put, zC, zD, zE] <;> rfl) (hJ4_5_15 (v44, v46) _ ⟨hHeld, (by (with_reducible repeat first | apply zQ | apply zR | apply zS); exact yC HO45.out (fun _ hk => hk.2)), (by (with_reducible repeat first | apply zQ | apply zR | apply zS); exact yC HO47.out (fun _ hk => hk.2)), (by (with_reducible repeat (first | refine zL ?_ _ | refine zN ?_ | refine zM ?_ _)); exact BK35.out), (by repeat (first | (with_reducible first | exact HB.out | apply zH | apply zF | apply zG | refine zI ?_ GE35.out) | exact HB.out))⟩)
             ·skip
              rintro ⟨v44, v46⟩ w22 ⟨hS_, h0_, h1_, h2_, h3_⟩; have n0_ : Aside0 (Kd.R (Kd.int .u8) 5 w22 w.heap.size (fun k_ => some k_ ≠ (v46 : Value).ownBlock) v44 y39) := ⟨h0_⟩; have n1_ : Aside0 (Kd.R (Kd.int .u8) 5 w22 w.heap.size (fun k_ => some k_ ≠ (v44 : Value).ownBlock) v46 y40) := ⟨h1_⟩; have n2_ : Aside0 (w22.heap[gb35]? = some (.cells #[.slice (some ad41) l0_0.length c0_0, .slice (some ad42) l0_1.length c0_1, .slice A0_2 l0_2.length c0_2, .int .i64 a0_3] 38 (0, 0))) := ⟨h2_⟩; have n3_ : Aside0 (Below w.heap.size w w22) := ⟨h3_⟩; clear BK35 HB h0_ h1_ h2_ h3_; have HO45 := n0_; have HO47 := n1_; have BK35 := n2_; have HB := n3_; clear n0_ n1_ n2_ n3_; have hHeld : w22.cell? ⟨gb35, 0, none⟩ = some (.slice (some ad41) l0_0.length c0_0) ∧ w22.cell? ⟨gb35, 1, none⟩ = some (.slice (some ad42) l0_1.length c0_1) ∧ w22.cell? ⟨gb35, 2, none⟩ = some (.slice A0_2 l0_2.length c0_2) ∧ w22.cell? ⟨gb35, 3, none⟩ = some (.int .i64 a0_3) ∧ w22.cell? (ad42.add (x17_1).toNat) = some (.string (rdOf ByteArray.empty l0_1 x17_1)) ∧ w22.cell? (ad42.add (x17_1).toNat) = some (.string (rdOf ByteArray.empty l0_1 x17_1)) := hS_; refine norm_ (a' := ?_) ?_ ?_; rotate_left
              ·simp only [putAll, Act.put, zC, zD, zE]
               rfl
              refine one_ (i := 5) (N := some 27) (bA 26 8257407) rfl rfl (one_of HT_.out (by kernel_rfl)) (by decide) (fun K hK => ?_); have hcv23 := own_string (P := Try.prog) Try.underlying73 Try.underlying5 Try.underlying9 (Kd.own_of_R HO45.out); refine value_ (w1 := ?_) (v := ?_) (by rfl) rfl ?_ ?_; rotate_left 2
              ·go_simp
               constructor
               ·rfl
               ·rfl
              clear hcv23; refine hK.out _ _ ⟨(zP BK35.out 0).trans rfl, (zP BK35.out 1).trans rfl, (zP BK35.out 2).trans rfl, (zP BK35.out 3).trans rfl, ((HB.out.cell (zB w _ hw42_0)).trans hw42_0), ((HB.out.cell (zB w _ hw43_0)).trans hw43_0)⟩ (fun hHeld => ?_); clear hK K; refine wzN 27 ?_
              refine wzP 7 29 (bA 26 8257535) HT_ ?_
              exact norm_ (by simp only [putAll, Act.put, zC, zD, zE] <;> rfl) (hJ4_5_15_16 (v44, v46) _ ⟨hHeld, (by (with_reducible repeat first | apply zQ | apply zR | apply zS); exact HO45.out), (by (with_reducible repeat first | apply zQ | apply zR | apply zS); exact HO47.out), (by (with_reducible repeat (first | refine zL ?_ _ | refine zN ?_ | refine zM ?_ _)); exact BK35.out), (by repeat (first | (with_reducible first | exact HB.out | apply zH | apply zF | apply zG | refine zI ?_ GE35.out) | exact HB.out))⟩)
            ·skip
             rintro ⟨v44, v46⟩ w22 ⟨hS_, h0_, h1_, h2_, h3_⟩; have n0_ : Aside0 (Kd.R (Kd.int .u8) 5 w22 w.heap.size (fun k_ => some k_ ≠ (v46 : Value).ownBlock) v44 y39) := ⟨h0_⟩; have n1_ : Aside0 (Kd.R (Kd.int .u8) 5 w22 w.heap.size (fun k_ => some k_ ≠ (v44 : Value).ownBlock) v46 y40) := ⟨h1_⟩; have n2_ : Aside0 (w22.heap[gb35]? = some (.cells #[.slice (some ad41) l0_0.length c0_0, .slice (some ad42) l0_1.length c0_1, .slice A0_2 l0_2.length c0_2, .int .i64 a0_3] 38 (0, 0))) := ⟨h2_⟩; have n3_ : Aside0 (Below w.heap.size w w22) := ⟨h3_⟩; clear BK35 HB h0_ h1_ h2_ h3_; have HO45 := n0_; have HO47 := n1_; have BK35 := n2_; have HB := n3_; clear n0_ n1_ n2_ n3_; have hHeld : w22.cell? ⟨gb35, 0, none⟩ = some (.slice (some ad41) l0_0.length c0_0) ∧ w22.cell? ⟨gb35, 1, none⟩ = some (.slice (some ad42) l0_1.length c0_1) ∧ w22.cell? ⟨gb35, 2, none⟩ = some (.slice A0_2 l0_2.length c0_2) ∧ w22.cell? ⟨gb35, 3, none⟩ = some (.int .i64 a0_3) ∧ w22.cell? (ad42.add (x17_1).toNat) = some (.string (rdOf ByteArray.empty l0_1 x17_1)) ∧ w22.cell? (ad42.add (x17_1).toNat) = some (.string (rdOf ByteArray.empty l0_1 x17_1)) := hS_; refine norm_ (a' := ?_) ?_ ?_; rotate_left
             ·simp only [putAll, Act.put, zC, zD, zE]
              rfl
             refine one_ (i := 16) (N := some 38) (bA 26 8257535) rfl rfl (one_of HT_.out (by kernel_rfl)) (by decide) (fun K hK => ?_); have hcv23 := own_string (P := Try.prog) Try.underlying73 Try.underlying5 Try.underlying9 (Kd.own_of_R HO47.out); refine value_ (w1 := ?_) (v := ?_) (by rfl) rfl ?_ ?_; rotate_left 2
             ·go_simp
              constructor
              ·rfl
              ·rfl
             clear hcv23; refine hK.out _ _ ⟨(zP BK35.out 0).trans rfl, (zP BK35.out 1).trans rfl, (zP BK35.out 2).trans rfl, (zP BK35.out 3).trans rfl, ((HB.out.cell (zB w _ hw42_0)).trans hw42_0), ((HB.out.cell (zB w _ hw43_0)).trans hw43_0)⟩ (fun hHeld => ?_); clear hK K; refine wzN 38 ?_
             exact norm_ (by simp only [putAll, Act.put, zC, zD, zE] <;> rfl) (hJ4_5_15_16 (v44, v46) _ ⟨hHeld, (by (with_reducible repeat first | apply zQ | apply zR | apply zS); exact HO45.out), (by (with_reducible repeat first | apply zQ | apply zR | apply zS); exact HO47.out), (by (with_reducible repeat (first | refine zL ?_ _ | refine zN ?_ | refine zM ?_ _)); exact BK35.out), (by repeat (first | (with_reducible first | exact HB.out | apply zH | apply zF | apply zG | refine zI ?_ GE35.out) | exact HB.out))⟩)
           rintro ⟨v44, v46⟩ w23 ⟨hS_, h0_, h1_, h2_, h3_⟩; have n0_ : Aside0 (Kd.R (Kd.int .u8) 5 w23 w.heap.size (fun k_ => some k_ ≠ (v46 : Value).ownBlock) v44 y39) := ⟨h0_⟩; have n1_ : Aside0 (Kd.R (Kd.int .u8) 5 w23 w.heap.size (fun k_ => some k_ ≠ (v44 : Value).ownBlock) v46 y40) := ⟨h1_⟩; have n2_ : Aside0 (w23.heap[gb35]? = some (.cells #[.slice (some ad41) l0_0.length c0_0, .slice (some ad42) l0_1.length c0_1, .slice A0_2 l0_2.length c0_2, .int .i64 a0_3] 38 (0, 0))) := ⟨h2_⟩; have n3_ : Aside0 (Below w.heap.size w w23) := ⟨h3_⟩; clear BK35 HB h0_ h1_ h2_ h3_; have HO45 := n0_; have HO47 := n1_; have BK35 := n2_; have HB := n3_; clear n0_ n1_ n2_ n3_; have hHeld : w23.cell? ⟨gb35, 0, none⟩ = some (.slice (some ad41) l0_0.length c0_0) ∧ w23.cell? ⟨gb35, 1, none⟩ = some (.slice (some ad42) l0_1.length c0_1) ∧ w23.cell? ⟨gb35, 2, none⟩ = some (.slice A0_2 l0_2.length c0_2) ∧ w23.cell? ⟨gb35, 3, none⟩ = some (.int .i64 a0_3) ∧ w23.cell? (ad42.add (x17_1).toNat) = some (.string (rdOf ByteArray.empty l0_1 x17_1)) ∧ w23.cell? (ad42.add (x17_1).toNat) = some (.string (rdOf ByteArray.empty l0_1 x17_1)) := hS_; refine norm_ (a' := ?_) ?_ ?_; rotate_left
           ·simp only [putAll, Act.put, zC, zD, zE]
            rfl
           refine wzP 17 39 (bA 26 8388607) HT_ ?_
           refine wzP 23 45 (bA 26 16777215) HT_ ?_
           refine wzP 24 46 (bA 26 33554431) HT_ ?_
           refine wzP 25 3 (bA 26 67108863) HT_ ?_
           refine done_ (done_of HT_.out (by kernel_rfl)) ?_
           try go_wp2
           go_roundg k1
           case measure => have := HK1.out; omega
           case rel => exact ⟨(x3_1 ++ ((((strOfNums y39) ++ (rdOf ByteArray.empty l0_0 x17_1)) ++ (strOfNums y40)) ++ (rdOf ByteArray.empty l0_1 x17_1))), (wrap64 (x17_1 + 1)), (by first | rfl | (simp; done) | (simp [*]; done) | (simp [bne]; done)), (by first | rfl | (simp; done) | (simp [*]; done) | (simp [bne]; done)), H', ⟨by have := HK1.out; omega⟩, ⟨by (with_reducible repeat (first | refine zL ?_ _ | refine zN ?_ | refine zM ?_ _)); exact BK35.out⟩, ⟨by repeat (first | (with_reducible first | exact HB.out | apply zH | apply zF | apply zG | refine zI ?_ GE35.out) | exact HB.out)⟩⟩
          ·rw [if_neg c15] at H
           exact absurd H (by simp)
         ·rw [if_neg c14] at H
          exact absurd H (by simp)
        ·rw [if_neg c13] at H
         exact absurd H (by simp)
       ·rw [if_neg c12] at H
        exact absurd H (by simp)
      ·rw [if_neg c11] at H
       exact absurd H (by simp)
     ·rw [if_neg c10] at H
      exact absurd H (by simp)
    ·rw [if_neg c9] at H
     exact absurd H (by simp)
   ·rw [if_neg c8] at H
    have c8b0 : decide (x17_1 < (l0_0.length : Int)) = false := decide_eq_false c8; clear c8; obtain ⟨y48, hy48⟩ : ∃ y_ : List Int, y_ = (([((l0_2.length : Int)) % 256] : List Int)) := ⟨_, rfl⟩; replace H : (if x3_1.size + (strOfNums y48).size ≤ 9223372036854775807 then (spec_l6Bytes.l1 k1 (x3_1 ++ (strOfNums y48)) l0_2 (l0_2.length : Int) 0) else (none)) = some r := by first | (rw [hy48]; with_reducible exact H) | (have H2_ := (Option.bind_some _ _).symm.trans H; rw [hy48]; with_reducible exact H2_) | (have H2_ := (Option.bind_some _ _).symm.trans H; with_reducible exact H2_) | with_reducible exact H | (rw [hy48]; exact H) | exact H
    have Ny48 := zA hy48; clear hy48
    by_cases c24 : x3_1.size + (strOfNums y48).size ≤ 9223372036854775807
    ·rw [if_pos c24] at H
     have c24b0 := eq_true c24; have c24b1 : decide (x3_1.size + (strOfNums y48).size ≤ 9223372036854775807) = true := zX c24
     try have c24b2 : (9223372036854775807 < x3_1.size + (strOfNums y48).size) = False := eq_false (Nat.not_lt.2 c24)
     have H' := zA H; clear H; have hcz25_0 := yL BK35.out 0 (.slice A0_0 l0_0.length c0_0) rfl; have hcz25_1 := yL BK35.out 1 (.slice A0_1 l0_1.length c0_1) rfl; have hcz25_2 := yL BK35.out 2 (.slice A0_2 l0_2.length c0_2) rfl; have hcz25_3 := yL BK35.out 3 (.int .i64 a0_3) rfl; have hfz25_0 := zO BK35.out 0; have hfz25_1 := zO BK35.out 1; have hfz25_2 := zO BK35.out 2; have hfz25_3 := zO BK35.out 3; go_wp2_with (first | ((with_reducible refine gate_dst (N := 53) rfl ?_); refine Kd.R_lit (Kd.int .u8) _ 5 ?hg (N := 53) ?hd (xs := ([((l0_2.length : Int)) % 256] : List Int)) (inner := [.int .u8 (((l0_2.length : Int)) % 256)]) (ok := fun _ => True) (okp := fun _ => True) ?hr ?hp (fun _ hk => hk) trivial (Below.refl _ _) (Nat.le_refl _) (by simp) ?_; (case hd => rfl); (case hg => rfl); (case hr => first | (go_simp; done) | (go_simp; rfl)); (case hp => exact (Reps.one (show Kd.M (Kd.int .u8) _ _ _ (((l0_2.length : Int)) % 256) [.int .u8 (((l0_2.length : Int)) % 256)] from rfl) (Reps.none _ _))); intro v49 w26 ho27 hb hg_ hnew_; clear hg_ hnew_; (first | rw [← Ny48.out] at ho27 | (simp only [Int.reduceToNat] at ho27; rw [← Ny48.out] at ho27)); have n0_ := zA (Kd.R_lower ho27 (zAE (by repeat (first | (with_reducible first | exact HB.out | apply zH | apply zF | apply zG | refine zI ?_ GE35.out) | exact HB.out)))); have n1_ := zA (yE (g := gb35) (o := .cells #[.slice A0_0 l0_0.length c0_0, .slice A0_1 l0_1.length c0_1, .slice A0_2 l0_2.length c0_2, .int .i64 a0_3] 38 (0, 0)) (by (with_reducible repeat (first | refine zL ?_ _ | refine zN ?_ | refine zM ?_ _)); exact BK35.out) hb); have n2_ := zA (zAD (by repeat (first | (with_reducible first | exact HB.out | apply zH | apply zF | apply zG | refine zI ?_ GE35.out) | exact HB.out)) hb); clear BK35; clear HB; have HO50 := n0_; have BK35 := n1_; have HB := n2_; clear n0_ n1_ n2_; clear hb ho27; have hcv28 := own_string (P := Try.prog) Try.underlying73 Try.underlying5 Try.underlying9 (Kd.own_of_R HO50.out); have hcz29_0 := yL BK35.out 0 (.slice A0_0 l0_0.length c0_0) rfl; have hcz29_1 := yL BK35.out 1 (.slice A0_1 l0_1.length c0_1) rfl; have hcz29_2 := yL BK35.out 2 (.slice A0_2 l0_2.length c0_2) rfl; have hcz29_3 := yL BK35.out 3 (.int .i64 a0_3) rfl; have hfz29_0 := zO BK35.out 0; have hfz29_1 := zO BK35.out 1; have hfz29_2 := zO BK35.out 2; have hfz29_3 := zO BK35.out 3)); go_loopg [3, 59] k1 (fun kq v3 v59 w' => ∃ (x3_2 : ByteArray) (x59_2 : Int), v3 = .string x3_2 ∧ v59 = .int .i64 x59_2 ∧ Aside0 (spec_l6Bytes.l1 kq x3_2 l0_2 (l0_2.length : Int) x59_2 = some r) ∧ Aside0 (kq ≤ k1) ∧ Aside0 (w'.heap[gb35]? = some (.cells #[(.slice A0_0 l0_0.length c0_0), (.slice A0_1 l0_1.length c0_1), (.slice A0_2 l0_2.length c0_2), .int .i64 a0_3] 38 (0, 0))) ∧ Aside0 (Below w.heap.size w w'))
     case atStart => exact ⟨(x3_1 ++ (strOfNums y48)), (0), (by first | rfl | (simp; done) | (simp [*]; done) | (simp [bne]; done)), (by first | rfl | (simp; done) | (simp [*]; done) | (simp [bne]; done)), H', ⟨Nat.le_refl _⟩, ⟨by (with_reducible repeat (first | refine zL ?_ _ | refine zN ?_ | refine zM ?_ _)); exact BK35.out⟩, ⟨by repeat (first | (with_reducible first | exact HB.out | apply zH | apply zF | apply zG | refine zI ?_ GE35.out) | exact HB.out)⟩⟩
     case round =>
      clear H'
      try clear c1
      try clear c2
      try clear p2
      try clear hcv2
      try clear p6
      try clear c8
      try clear c8b0
      try clear c9
      try clear c10
      try clear c11
      try clear c12
      try clear c13
      try clear c14
      try clear c15
      try clear hcv20
      try clear hcv22
      try clear hcv23
      try clear c24
      try clear c24b0
      try clear c24b1
      try clear c24b2
      try clear hcv28
      try clear hcz25_0
      try clear hcz25_1
      try clear hcz25_2
      try clear hcz25_3
      try clear hcz29_0
      try clear hcz29_1
      try clear hcz29_2
      try clear hcz29_3
      try clear hfz25_0
      try clear hfz25_1
      try clear hfz25_2
      try clear hfz25_3
      try clear hfz29_0
      try clear hfz29_1
      try clear hfz29_2
      try clear hfz29_3
      obtain ⟨x3_2, x59_2, rfl, rfl, HA, HK2, BK35, HB⟩ := hrel
      cases gk with
      | zero => exact absurd HA.out (by simp [spec_l6Bytes.l1])
      | succ k2 =>
       have H := HA.out; clear HA; simp only [spec_l6Bytes.l1] at H
       by_cases c30 : x59_2 < (l0_2.length : Int)
       ·rw [if_pos c30] at H
        have c30b0 : decide (x59_2 < (l0_2.length : Int)) = true := zX c30; clear c30
        by_cases c31 : 0 ≤ x59_2
        ·rw [if_pos c31] at H
         have c31b0 : decide (0 ≤ x59_2) = true := zX c31; clear c31
         by_cases c32 : x59_2 < (l0_2.length : Int)
         ·rw [if_pos c32] at H
          have c32b0 : decide (x59_2 < (l0_2.length : Int)) = true := zX c32; clear c32
          by_cases c33 : x3_2.size + (rdOf ByteArray.empty l0_2 x59_2).size ≤ 9223372036854775807
          ·rw [if_pos c33] at H
           have c33b0 := eq_true c33; have c33b1 : decide (x3_2.size + (rdOf ByteArray.empty l0_2 x59_2).size ≤ 9223372036854775807) = true := zX c33
           try have c33b2 : (9223372036854775807 < x3_2.size + (rdOf ByteArray.empty l0_2 x59_2).size) = False := eq_false (Nat.not_lt.2 c33)
           have H' := zA H; clear H; have p51 : 0 ≤ (x59_2 : Int) := zW (by first | (with_reducible assumption) | assumption); have q51 : x59_2 < (l0_2.length : Int) := zW (by first | (with_reducible assumption) | assumption); obtain ⟨ad51, e51, hx51_0⟩ := Kd.at_string HR0_2.out x59_2 p51 q51
           cases e51
           replace hx51_0 := (HB.out.cell (zB w _ hx51_0)).trans hx51_0; replace p51 := eq_true p51; replace q51 := eq_true q51; go_wp2; go_roundg k2
           case measure => have := HK1.out; have := HK2.out; omega
           case rel => exact ⟨(x3_2 ++ (rdOf ByteArray.empty l0_2 x59_2)), (wrap64 (x59_2 + 1)), (by first | rfl | (simp; done) | (simp [*]; done) | (simp [bne]; done)), (by first | rfl | (simp; done) | (simp [*]; done) | (simp [bne]; done)), H', ⟨by have := HK1.out; have := HK2.out; omega⟩, ⟨by (with_reducible repeat (first | refine zL ?_ _ | refine zN ?_ | refine zM ?_ _)); exact BK35.out⟩, ⟨by repeat (first | (with_reducible first | exact HB.out | apply zH | apply zF | apply zG | refine zI ?_ GE35.out) | exact HB.out)⟩⟩
          ·rw [if_neg c33] at H
           exact absurd H (by simp)
         ·rw [if_neg c32] at H
          exact absurd H (by simp)
        ·rw [if_neg c31] at H
         exact absurd H (by simp)
       ·rw [if_neg c30] at H
        have c30b0 : decide (x59_2 < (l0_2.length : Int)) = false := decide_eq_false c30; clear c30; obtain rfl := yM H; go_wp2; go_ret; exact ⟨by first | rfl | (simp <;> rfl) | (simp [*] <;> rfl), by repeat (first | (with_reducible first | exact HB.out | apply zH | apply zF | apply zG | refine zI ?_ GE35.out) | exact HB.out)⟩
    ·rw [if_neg c24] at H
     exact absurd H (by simp)
def spec_l1Kind.f (a0 : Int) : Option (Bool) := if a0 ≥ 97 then (some (decide (a0 ≤ 122))) else (some false)
theorem spec_l1Kind.calls (a0 : Int) (r : Bool) (w : World) (h : spec_l1Kind.f a0 = some r) :
  Calls Try.prog 91 #[.int .u8 a0] w fun e w' => e = .returned (.bool r) ∧ Drawn0 w w' := by
 have H : (if a0 ≥ 97 then (some (decide (a0 ≤ 122))) else (some false)) = some r := h; clear h
 by_cases c2 : a0 ≥ 97
 ·rw [if_pos c2] at H
  have c2b0 : decide (97 ≤ a0) = true := zX c2; clear c2; obtain rfl := yM H; go_enter Try.func91, Try.ntmps91; go_wp2; go_ret; exact ⟨by first | rfl | (simp; done) | (simp [*]; done) | (simp [bne]; done), by repeat (first | exact Drawn0.refl _ | apply Drawn0.step)⟩
 ·rw [if_neg c2] at H
  have c2b0 : decide (97 ≤ a0) = false := decide_eq_false c2; clear c2; obtain rfl := yM H; go_enter Try.func91, Try.ntmps91; go_wp2; go_ret; exact ⟨by first | rfl | (simp; done) | (simp [*]; done) | (simp [bne]; done), by repeat (first | exact Drawn0.refl _ | apply Drawn0.step)⟩
def spec_NewMix.f (a0 : Int) : Option (Int × Int × Int × Bool) := (spec_l1Kind.f a0).bind fun t10 => (if t10 = true then (some (wrap64 (1 + (wrap64 (a0))), wrap64 (1 + (wrap64 (a0))), 0, true)) else (some (0, 0, 0, false)))
theorem spec_NewMix.calls (a0 : Int) (r1 : Int) (r2 : Int) (r3 : Int) (r4 : Bool) (w : World) (h : spec_NewMix.f a0 = some (r1, r2, r3, r4)) :
  Calls Try.prog 78 #[.int .u8 a0] w fun e w' => e = .returned (.tuple #[.agg #[.int .i64 r1, .int .i64 r2, .int .i64 r3], .bool r4]) ∧ Below w.heap.size w w' := by
 have hu84 := Try.underlying84; have HB := zA (Below.refl w.heap.size w); have H : ((spec_l1Kind.f a0).bind fun t10 => (if t10 = true then (some (wrap64 (1 + (wrap64 (a0))), wrap64 (1 + (wrap64 (a0))), 0, true)) else (some (0, 0, 0, false)))) = some (r1, r2, r3, r4) := h; clear h; replace H := zAF H; obtain ⟨t10, A20, H⟩ := H; replace H : (if t10 = true then (some (wrap64 (1 + (wrap64 (a0))), wrap64 (1 + (wrap64 (a0))), 0, true)) else (some (0, 0, 0, false))) = some (r1, r2, r3, r4) := H; have A2 := zA A20; clear A20
 by_cases c3 : t10 = true
 ·subst c3
  have H1 : (some (wrap64 (1 + (wrap64 (a0))), wrap64 (1 + (wrap64 (a0))), 0, true)) = some (r1, r2, r3, r4) := by rw [if_pos rfl] at H; exact H
  clear H; have H := H1; clear H1; simp only [Option.some.injEq, Prod.mk.injEq] at H; obtain ⟨rfl, rfl, rfl, rfl⟩ := H; go_enter Try.func78, Try.ntmps78; go_wp2_with (first | ((with_reducible refine gate_dst (N := 2) rfl ?_); refine box_event ?hg (N := 2) ?hd (cs := #[.int .i64 0, .int .i64 0, .int .i64 0]) (t := 84) ?hr ?_; (case hd => rfl); (case hg => rfl); (case hr => first | (go_simp; done) | (go_simp; rfl)); intro gb11 hg w4 hbox hb; have n0_ := zA (zAD (by (with_reducible repeat first | exact HB.out | apply zH | apply zF | apply zG) <;> exact HB.out) hb); have n1_ := zA (hbox); have n2_ := zA ((by rw [hg]; exact (zAE (by (with_reducible repeat first | exact HB.out | apply zH | apply zF | apply zG) <;> exact HB.out)) : w.heap.size ≤ gb11)); have n3_ := zA ((by rw [hg]; exact (zAE (by (with_reducible repeat first | exact HB.out | apply zH | apply zF | apply zG) <;> exact HB.out)) : w.heap.size ≤ gb11)); clear HB; have HB := n0_; have BK11 := n1_; have GW11 := n2_; have GE11 := n3_; clear n0_ n1_ n2_ n3_; clear hb hbox hg) | ((with_reducible refine yB (f := 91) rfl ?_); refine goesL_ (some 5) rfl rfl Try.func91 (by kernel_rfl) rfl #[.int .u8 a0] rfl (by (try simp only [zAA, zAB, zAC]); first | done | rfl) ?_; (with_reducible refine (spec_l1Kind.calls a0 true _ A2.out).mono ?_); rintro e w' ⟨rfl, ⟨nd, rfl⟩⟩; refine ⟨_, rfl, ?_⟩; (try (rw [drewN_self w4]; generalize hq_ : World.drewN w4 _ = w4; have n0_ : Aside0 (w4.heap[gb11]? = some (.cells #[.int .i64 0, .int .i64 0, .int .i64 0] 84 (0, 0))) := ⟨by rw [← hq_]; exact (by (with_reducible repeat (first | refine zL ?_ _ | refine zN ?_ | refine zM ?_ _)); exact BK11.out)⟩; have n1_ : Aside0 (Below w.heap.size w w4) := ⟨by rw [← hq_]; exact (by repeat (first | (with_reducible first | exact HB.out | apply zH | apply zF | apply zG | refine zI ?_ GE11.out) | exact HB.out))⟩; clear BK11 HB hq_; have BK11 := n0_; have HB := n1_; clear n0_ n1_)); have hcz5_0 := yL BK11.out 0 (.int .i64 0) rfl; have hcz5_1 := yL BK11.out 1 (.int .i64 0) rfl; have hcz5_2 := yL BK11.out 2 (.int .i64 0) rfl; have hfz5_0 := zO BK11.out 0; have hfz5_1 := zO BK11.out 1; have hfz5_2 := zO BK11.out 2)); refine bodyPost_ret (results_ct rfl _ _ gb11 84 #[.int .i64 (wrap64 (1 + (wrap64 (a0)))), .int .i64 (wrap64 (1 + (wrap64 (a0)))), .int .i64 0] (0, 0) _ rfl (by (with_reducible repeat (first | refine zL ?_ _ | refine zN ?_ | refine zM ?_ _)); refine blk_put (cs := #[.int .i64 (wrap64 (1 + (wrap64 (a0)))), .int .i64 (wrap64 (1 + (wrap64 (a0)))), .int .i64 0]) ?_ 2 _ rfl; (with_reducible repeat (first | refine zL ?_ _ | refine zN ?_ | refine zM ?_ _)); refine blk_put (cs := #[.int .i64 (wrap64 (1 + (wrap64 (a0)))), .int .i64 0, .int .i64 0]) ?_ 1 _ rfl; (with_reducible repeat (first | refine zL ?_ _ | refine zN ?_ | refine zM ?_ _)); refine blk_put (cs := #[.int .i64 0, .int .i64 0, .int .i64 0]) ?_ 0 _ rfl; (with_reducible repeat (first | refine zL ?_ _ | refine zN ?_ | refine zM ?_ _)); exact BK11.out) Try.underlying84 rfl (by kernel_rfl)) rfl ?_; exact ⟨by first | rfl | (simp <;> rfl) | (simp [*] <;> rfl), by repeat (first | (with_reducible first | exact HB.out | apply zH | apply zF | apply zG | refine zI ?_ GE11.out) | exact HB.out)⟩
 ·replace c3 := yO c3
  subst c3; have H1 : (some (0, 0, 0, false)) = some (r1, r2, r3, r4) := by rw [if_neg (show ¬ (false = true) by decide)] at H; exact H
  clear H; have H := H1; clear H1; simp only [Option.some.injEq, Prod.mk.injEq] at H; obtain ⟨rfl, rfl, rfl, rfl⟩ := H; go_enter Try.func78, Try.ntmps78; go_wp2_with (first | ((with_reducible refine gate_dst (N := 2) rfl ?_); refine box_event ?hg (N := 2) ?hd (cs := #[.int .i64 0, .int .i64 0, .int .i64 0]) (t := 84) ?hr ?_; (case hd => rfl); (case hg => rfl); (case hr => first | (go_simp; done) | (go_simp; rfl)); intro gb11 hg w6 hbox hb; have n0_ := zA (zAD (by (with_reducible repeat first | exact HB.out | apply zH | apply zF | apply zG) <;> exact HB.out) hb); have n1_ := zA (hbox); have n2_ := zA ((by rw [hg]; exact (zAE (by (with_reducible repeat first | exact HB.out | apply zH | apply zF | apply zG) <;> exact HB.out)) : w.heap.size ≤ gb11)); have n3_ := zA ((by rw [hg]; exact (zAE (by (with_reducible repeat first | exact HB.out | apply zH | apply zF | apply zG) <;> exact HB.out)) : w.heap.size ≤ gb11)); clear HB; have HB := n0_; have BK11 := n1_; have GW11 := n2_; have GE11 := n3_; clear n0_ n1_ n2_ n3_; clear hb hbox hg) | ((with_reducible refine yB (f := 91) rfl ?_); refine goesL_ (some 5) rfl rfl Try.func91 (by kernel_rfl) rfl #[.int .u8 a0] rfl (by (try simp only [zAA, zAB, zAC]); first | done | rfl) ?_; (with_reducible refine (spec_l1Kind.calls a0 false _ A2.out).mono ?_); rintro e w' ⟨rfl, ⟨nd, rfl⟩⟩; refine ⟨_, rfl, ?_⟩; (try (rw [drewN_self w6]; generalize hq_ : World.drewN w6 _ = w6; have n0_ : Aside0 (w6.heap[gb11]? = some (.cells #[.int .i64 0, .int .i64 0, .int .i64 0] 84 (0, 0))) := ⟨by rw [← hq_]; exact (by (with_reducible repeat (first | refine zL ?_ _ | refine zN ?_ | refine zM ?_ _)); exact BK11.out)⟩; have n1_ : Aside0 (Below w.heap.size w w6) := ⟨by rw [← hq_]; exact (by repeat (first | (with_reducible first | exact HB.out | apply zH | apply zF | apply zG | refine zI ?_ GE11.out) | exact HB.out))⟩; clear BK11 HB hq_; have BK11 := n0_; have HB := n1_; clear n0_ n1_)); have hcz7_0 := yL BK11.out 0 (.int .i64 0) rfl; have hcz7_1 := yL BK11.out 1 (.int .i64 0) rfl; have hcz7_2 := yL BK11.out 2 (.int .i64 0) rfl; have hfz7_0 := zO BK11.out 0; have hfz7_1 := zO BK11.out 1; have hfz7_2 := zO BK11.out 2)); refine bodyPost_ret (results_ct rfl _ _ gb11 84 #[.int .i64 0, .int .i64 0, .int .i64 0] (0, 0) _ rfl (by (with_reducible repeat (first | refine zL ?_ _ | refine zN ?_ | refine zM ?_ _)); refine blk_put (cs := #[.int .i64 0, .int .i64 0, .int .i64 0]) ?_ 2 _ rfl; (with_reducible repeat (first | refine zL ?_ _ | refine zN ?_ | refine zM ?_ _)); refine blk_put (cs := #[.int .i64 0, .int .i64 0, .int .i64 0]) ?_ 1 _ rfl; (with_reducible repeat (first | refine zL ?_ _ | refine zN ?_ | refine zM ?_ _)); refine blk_put (cs := #[.int .i64 0, .int .i64 0, .int .i64 0]) ?_ 0 _ rfl; (with_reducible repeat (first | refine zL ?_ _ | refine zN ?_ | refine zM ?_ _)); exact BK11.out) Try.underlying84 rfl (by kernel_rfl)) rfl ?_; exact ⟨by first | rfl | (simp <;> rfl) | (simp [*] <;> rfl), by repeat (first | (with_reducible first | exact HB.out | apply zH | apply zF | apply zG | refine zI ?_ GE11.out) | exact HB.out)⟩
def spec_l1End.f (a0_0 : Int) (a0_1 : Int) (a0_2 : Int) : Option (ByteArray) := some (strOfNums (([(a0_1 / 256) % 256, (a0_1) % 256, (a0_0 / 256) % 256, (a0_0) % 256] : List Int)))
theorem spec_l1End.calls (a0_0 : Int) (a0_1 : Int) (a0_2 : Int) (r : ByteArray) (w : World) (h : spec_l1End.f a0_0 a0_1 a0_2 = some r) :
  Calls Try.prog 79 #[.agg #[.int .i64 a0_0, .int .i64 a0_1, .int .i64 a0_2]] w fun e w' => e = .returned (.string r) ∧ Below w.heap.size w w' := by
 have hu84 := Try.underlying84; have HB := zA (Below.refl w.heap.size w); have H : (some (strOfNums (([(a0_1 / 256) % 256, (a0_1) % 256, (a0_0 / 256) % 256, (a0_0) % 256] : List Int)))) = some r := h; clear h; obtain ⟨y10, hy10⟩ : ∃ y_ : List Int, y_ = (([(a0_1 / 256) % 256, (a0_1) % 256, (a0_0 / 256) % 256, (a0_0) % 256] : List Int)) := ⟨_, rfl⟩; replace H : (some (strOfNums y10)) = some r := by first | (rw [hy10]; with_reducible exact H) | (have H2_ := (Option.bind_some _ _).symm.trans H; rw [hy10]; with_reducible exact H2_) | (have H2_ := (Option.bind_some _ _).symm.trans H; with_reducible exact H2_) | with_reducible exact H | (rw [hy10]; exact H) | exact H
 have Ny10 := zA hy10; clear hy10; obtain rfl := yM H; go_enter Try.func79, Try.ntmps79; go_wp2_with (first | ((with_reducible refine gate_dst (N := 1) rfl ?_); refine box_event ?hg (N := 1) ?hd (cs := #[.int .i64 a0_0, .int .i64 a0_1, .int .i64 a0_2]) (t := 84) ?hr ?_; (case hd => rfl); (case hg => rfl); (case hr => first | (go_simp; done) | (go_simp; rfl)); intro gb11 hg w2 hbox hb; have n0_ := zA (zAD (by (with_reducible repeat first | exact HB.out | apply zH | apply zF | apply zG) <;> exact HB.out) hb); have n1_ := zA (hbox); have n2_ := zA ((by rw [hg]; exact (zAE (by (with_reducible repeat first | exact HB.out | apply zH | apply zF | apply zG) <;> exact HB.out)) : w.heap.size ≤ gb11)); have n3_ := zA ((by rw [hg]; exact (zAE (by (with_reducible repeat first | exact HB.out | apply zH | apply zF | apply zG) <;> exact HB.out)) : w.heap.size ≤ gb11)); clear HB; have HB := n0_; have BK11 := n1_; have GW11 := n2_; have GE11 := n3_; clear n0_ n1_ n2_ n3_; clear hb hbox hg; have hcz3_0 := yL BK11.out 0 (.int .i64 a0_0) rfl; have hcz3_1 := yL BK11.out 1 (.int .i64 a0_1) rfl; have hcz3_2 := yL BK11.out 2 (.int .i64 a0_2) rfl; have hfz3_0 := zO BK11.out 0; have hfz3_1 := zO BK11.out 1; have hfz3_2 := zO BK11.out 2) | ((with_reducible refine gate_dst (N := 17) rfl ?_); refine Kd.R_lit (Kd.int .u8) _ 5 ?hg (N := 17) ?hd (xs := ([(a0_1 / 256) % 256, (a0_1) % 256, (a0_0 / 256) % 256, (a0_0) % 256] : List Int)) (inner := [.int .u8 ((a0_1 / 256) % 256), .int .u8 ((a0_1) % 256), .int .u8 ((a0_0 / 256) % 256), .int .u8 ((a0_0) % 256)]) (ok := fun _ => True) (okp := fun _ => True) ?hr ?hp (fun _ hk => hk) trivial (Below.refl _ _) (Nat.le_refl _) (by simp) ?_; (case hd => rfl); (case hg => rfl); (case hr => first | (go_simp; done) | (go_simp; rfl)); (case hp => exact (Reps.one (show Kd.M (Kd.int .u8) _ _ _ ((a0_1 / 256) % 256) [.int .u8 ((a0_1 / 256) % 256)] from rfl) (Reps.one (show Kd.M (Kd.int .u8) _ _ _ ((a0_1) % 256) [.int .u8 ((a0_1) % 256)] from rfl) (Reps.one (show Kd.M (Kd.int .u8) _ _ _ ((a0_0 / 256) % 256) [.int .u8 ((a0_0 / 256) % 256)] from rfl) (Reps.one (show Kd.M (Kd.int .u8) _ _ _ ((a0_0) % 256) [.int .u8 ((a0_0) % 256)] from rfl) (Reps.none _ _)))))); intro v12 w4 ho5 hb hg_ hnew_; clear hg_ hnew_; (first | rw [← Ny10.out] at ho5 | (simp only [Int.reduceToNat] at ho5; rw [← Ny10.out] at ho5)); have n0_ := zA (Kd.R_lower ho5 (zAE (by repeat (first | (with_reducible first | exact HB.out | apply zH | apply zF | apply zG | refine zI ?_ GE11.out) | exact HB.out)))); have n1_ := zA (yE (g := gb11) (o := .cells #[.int .i64 a0_0, .int .i64 a0_1, .int .i64 a0_2] 84 (0, 0)) (by (with_reducible repeat (first | refine zL ?_ _ | refine zN ?_ | refine zM ?_ _)); exact BK11.out) hb); have n2_ := zA (zAD (by repeat (first | (with_reducible first | exact HB.out | apply zH | apply zF | apply zG | refine zI ?_ GE11.out) | exact HB.out)) hb); clear BK11; clear HB; have HO13 := n0_; have BK11 := n1_; have HB := n2_; clear n0_ n1_ n2_; clear hb ho5; have hcv6 := own_string (P := Try.prog) Try.underlying73 Try.underlying5 Try.underlying9 (Kd.own_of_R HO13.out))); go_ret; exact ⟨by first | rfl | (simp <;> rfl) | (simp [*] <;> rfl), by repeat (first | (with_reducible first | exact HB.out | apply zH | apply zF | apply zG | refine zI ?_ GE11.out) | exact HB.out)⟩
def spec_l1Feed.l0 : Nat → ByteArray → Int → Int → Int → Int → Option (Int × Int × Int)
 | 0, _, _, _, _, _ => none
 | k + 1, x1, x5, x10, x11, x12 => if x5 < (x1.size : Int) then (if 0 ≤ x5 then (spec_l1Feed.l0 k x1 (wrap64 (x5 + 1)) (Int.tmod (wrap64 (x10 + (wrap64 (bt x1 x5)))) 65521) (Int.tmod (wrap64 (x11 + (Int.tmod (wrap64 (x10 + (wrap64 (bt x1 x5)))) 65521))) 65521) x12) else (none)) else (some (x10, x11, wrap64 (x12 + (x1.size : Int))))
def spec_l1Feed.f (k : Nat) (a0_0 : Int) (a0_1 : Int) (a0_2 : Int) (a1 : ByteArray) : Option (Int × Int × Int) := spec_l1Feed.l0 k a1 0 a0_0 a0_1 a0_2
def spec_l1Feed.T4 : Bool × List (List Nat × List Nat) := (true, [([], []), ([0], [0]), ([], []), ([], []), ([2, 3], [2, 3]), ([4], [4]), ([1, 5], [1, 5]), ([6], [6]), ([0, 1, 2, 3, 4, 5, 6, 7], []), ([8, 7, 0, 1, 2, 3, 4, 5, 6, 7], [7, 8])])
def spec_l1Feed.B4 : List Nat := [0, 1, 0, 0, 12, 28, 63, 127, 255, 511]
theorem spec_l1Feed.tab4 : rtab .any (opsOf Try.f80 4) = spec_l1Feed.T4 := by kernel_rfl
theorem spec_l1Feed.bits4 : waitsOk spec_l1Feed.T4.2 spec_l1Feed.B4 = true := by kernel_rfl
theorem spec_l1Feed.calls (k : Nat) (a0_0 : Int) (a0_1 : Int) (a0_2 : Int) (a1 : ByteArray) (r1 : Int) (r2 : Int) (r3 : Int) (w : World) (h : spec_l1Feed.f k a0_0 a0_1 a0_2 a1 = some (r1, r2, r3)) :
  Calls Try.prog 80 #[.agg #[.int .i64 a0_0, .int .i64 a0_1, .int .i64 a0_2], .string a1] w fun e w' => e = .returned (.agg #[.int .i64 r1, .int .i64 r2, .int .i64 r3]) ∧ Below w.heap.size w w' := by
 have hu84 := Try.underlying84; have HB := zA (Below.refl w.heap.size w); have H : (spec_l1Feed.l0 k a1 0 a0_0 a0_1 a0_2) = some (r1, r2, r3) := h; clear h; have H' := zA H; clear H; go_enter Try.func80, Try.ntmps80; go_wp2_with (first | ((with_reducible refine gate_dst (N := 2) rfl ?_); refine box_event ?hg (N := 2) ?hd (cs := #[.int .i64 a0_0, .int .i64 a0_1, .int .i64 a0_2]) (t := 84) ?hr ?_; (case hd => rfl); (case hg => rfl); (case hr => first | (go_simp; done) | (go_simp; rfl)); intro gb15 hg w3 hbox hb; have n0_ := zA (zAD (by (with_reducible repeat first | exact HB.out | apply zH | apply zF | apply zG) <;> exact HB.out) hb); have n1_ := zA (hbox); have n2_ := zA ((by rw [hg]; exact (zAE (by (with_reducible repeat first | exact HB.out | apply zH | apply zF | apply zG) <;> exact HB.out)) : w.heap.size ≤ gb15)); have n3_ := zA ((by rw [hg]; exact (zAE (by (with_reducible repeat first | exact HB.out | apply zH | apply zF | apply zG) <;> exact HB.out)) : w.heap.size ≤ gb15)); clear HB; have HB := n0_; have BK15 := n1_; have GW15 := n2_; have GE15 := n3_; clear n0_ n1_ n2_ n3_; clear hb hbox hg) | ((with_reducible refine gate_dst (N := 4) rfl ?_); refine box_event ?hg (N := 4) ?hd (cs := #[.int .i64 0, .int .i64 0, .int .i64 0]) (t := 84) ?hr ?_; (case hd => rfl); (case hg => rfl); (case hr => first | (go_simp; done) | (go_simp; rfl)); intro gb16 hg w4 hbox hb; have n0_ := zA (yE (g := gb15) (o := .cells #[.int .i64 a0_0, .int .i64 a0_1, .int .i64 a0_2] 84 (0, 0)) (by (with_reducible repeat (first | refine zL ?_ _ | refine zN ?_ | refine zM ?_ _)); exact BK15.out) hb); have n1_ := zA (zAD (by repeat (first | (with_reducible first | exact HB.out | apply zH | apply zF | apply zG | refine zI ?_ GE15.out) | exact HB.out)) hb); have n2_ := zA (hbox); have n3_ := zA ((by rw [hg]; exact (zAE (by repeat (first | (with_reducible first | exact HB.out | apply zH | apply zF | apply zG | refine zI ?_ GE15.out) | exact HB.out))) : w.heap.size ≤ gb16)); have n4_ := zA ((by rw [hg]; exact (zAE (by repeat (first | (with_reducible first | exact HB.out | apply zH | apply zF | apply zG | refine zI ?_ GE15.out) | exact HB.out))) : w.heap.size ≤ gb16)); have n5_ := zA ((by rw [hg]; exact zK (blk_lt (g := gb15) (o := .cells #[.int .i64 a0_0, .int .i64 a0_1, .int .i64 a0_2] 84 (0, 0)) (by (with_reducible repeat (first | refine zL ?_ _ | refine zN ?_ | refine zM ?_ _)); exact BK15.out)) : gb15 ≠ gb16)); have n6_ := zA ((by rw [hg]; exact Nat.ne_of_gt (blk_lt (g := gb15) (o := .cells #[.int .i64 a0_0, .int .i64 a0_1, .int .i64 a0_2] 84 (0, 0)) (by (with_reducible repeat (first | refine zL ?_ _ | refine zN ?_ | refine zM ?_ _)); exact BK15.out)) : gb16 ≠ gb15)); clear BK15; clear HB; have BK15 := n0_; have HB := n1_; have BK16 := n2_; have GW16 := n3_; have GE16 := n4_; have NB15_16 := n5_; have NB16_15 := n6_; clear n0_ n1_ n2_ n3_ n4_ n5_ n6_; clear hb hbox hg)); go_loopg [5] k (fun kq v5 w' => ∃ (x5_1 : Int) (x17_1 : Int) (x18_1 : Int), v5 = .int .i64 x5_1 ∧ Aside0 (spec_l1Feed.l0 kq a1 x5_1 x17_1 x18_1 a0_2 = some (r1, r2, r3)) ∧ Aside0 (kq ≤ k) ∧ Aside0 (w'.heap[gb15]? = some (.cells #[.int .i64 x17_1, .int .i64 x18_1, .int .i64 a0_2] 84 (0, 0))) ∧ Aside0 (w'.heap[gb16]? = some (.cells #[.int .i64 0, .int .i64 0, .int .i64 0] 84 (0, 0))) ∧ Aside0 (Below w.heap.size w w'))
 case atStart => exact ⟨(0), (a0_0), (a0_1), (by first | rfl | (simp; done) | (simp [*]; done) | (simp [bne]; done)), H', ⟨Nat.le_refl _⟩, ⟨by (with_reducible repeat (first | refine zL ?_ _ | refine zN ?_ | refine zM ?_ _)); exact BK15.out⟩, ⟨by (with_reducible repeat (first | refine zL ?_ _ | refine zN ?_ | refine zM ?_ _)); exact BK16.out⟩, ⟨by repeat (first | (with_reducible first | exact HB.out | apply zH | apply zF | apply zG | refine zI ?_ GE15.out | refine zI ?_ GE16.out) | exact HB.out)⟩⟩
 case round =>
  clear H'
  try clear p2
  obtain ⟨x5_1, x17_1, x18_1, rfl, HA, HK1, BK15, BK16, HB⟩ := hrel
  cases gk with
  | zero => exact absurd HA.out (by simp [spec_l1Feed.l0])
  | succ k1 =>
   have H := HA.out; clear HA; simp only [spec_l1Feed.l0] at H
   by_cases c5 : x5_1 < (a1.size : Int)
   ·rw [if_pos c5] at H
    have c5b0 : decide (x5_1 < (a1.size : Int)) = true := zX c5; clear c5
    by_cases c6 : 0 ≤ x5_1
    ·rw [if_pos c6] at H
     have c6b0 : decide (0 ≤ x5_1) = true := zX c6; clear c6; have H' := zA H; clear H
     try go_wp2
     have n0_ := zA (zN BK15.out); have n1_ := zA (zN BK16.out); have n2_ := zA (zG HB.out); clear BK15 BK16 HB; have BK15 := n0_; have BK16 := n1_; have HB := n2_; clear n0_ n1_ n2_; have p7 : 0 ≤ (x5_1 : Int) := zW (by first | (with_reducible assumption) | assumption); have q7 : x5_1 < (a1.size : Int) := zW (by first | (with_reducible assumption) | assumption); have hx7 := bt_at a1 x5_1; replace p7 := eq_true p7; replace q7 := eq_true q7; refine start_ (n := 10) (S := fun w' => w'.cell? ⟨gb15, 0, none⟩ = some (.int .i64 x17_1) ∧ w'.cell? ⟨gb15, 1, none⟩ = some (.int .i64 x18_1) ∧ w'.cell? ⟨gb15, 2, none⟩ = some (.int .i64 a0_2)) (ds := [9]) (bA 10 0) (by kernel_rfl) rfl rfl ⟨(zP BK15.out 0).trans rfl, (zP BK15.out 1).trans rfl, (zP BK15.out 2).trans rfl⟩ (fun hHeld => ?_); refine with_tabW spec_l1Feed.tab4 spec_l1Feed.bits4 (fun HT_ HW_ => ?_); generalize wr.drew = w8 at BK15 BK16 HB hHeld ⊢; refine wzP 0 12 (bA 10 1) HT_ ?_
     refine wzP 2 14 (bA 10 5) HT_ ?_
     refine wzP 3 15 (bA 10 13) HT_ ?_
     refine wzT 1 13 (bA 10 15) HT_ HW_ hHeld ?_
     refine wzT 4 16 (bA 10 31) HT_ HW_ hHeld ?_
     refine wzP 5 17 (bA 10 63) HT_ ?_
     refine wzP 6 18 (bA 10 127) HT_ ?_
     refine wzP 7 19 (bA 10 255) HT_ ?_
     refine wzP 8 20 (bA 10 511) HT_ ?_
     refine last_ (i := 9) (N := none) (bA 10 1023) rfl rfl (one_of HT_.out (by kernel_rfl)) (by decide) (fun K hK => ?_); have hs9 : w8.cell? ⟨gb15, 0, none⟩ = some (.int .i64 x17_1) := (zP BK15.out 0).trans rfl; have hfs9 := zO BK15.out 0; have hns9_1 := NB16_15.out; have hms9_1 := NB15_16.out; refine skip_ (w1 := ?_) (by rfl) rfl ?_ ?_; rotate_left
     ·go_simp
      rfl
     refine hK.out _ _ ?_; clear hK K; refine done_ (done_of HT_.out (by kernel_rfl)) ?_; have hnb10 := NB15_16.out; have hnc10 := NB16_15.out; have hcz11_0 := yL BK15.out 0 (.int .i64 x17_1) rfl; have hcz11_1 := yL BK15.out 1 (.int .i64 x18_1) rfl; have hcz11_2 := yL BK15.out 2 (.int .i64 a0_2) rfl; have hfz11_0 := zO BK15.out 0; have hfz11_1 := zO BK15.out 1; have hfz11_2 := zO BK15.out 2
     try go_wp2
     go_roundg k1
     case measure => have := HK1.out; omega
     case rel => exact ⟨(wrap64 (x5_1 + 1)), (Int.tmod (wrap64 (x17_1 + (wrap64 (bt a1 x5_1)))) 65521), (Int.tmod (wrap64 (x18_1 + (Int.tmod (wrap64 (x17_1 + (wrap64 (bt a1 x5_1)))) 65521))) 65521), (by first | rfl | (simp; done) | (simp [*]; done) | (simp [bne]; done)), H', ⟨by have := HK1.out; omega⟩, ⟨by (with_reducible repeat (first | refine zL ?_ _ | refine zN ?_ | refine zM ?_ _)); refine blk_put (cs := #[.int .i64 (Int.tmod (wrap64 (x17_1 + (wrap64 (bt a1 x5_1)))) 65521), .int .i64 x18_1, .int .i64 a0_2]) ?_ 1 _ rfl; (with_reducible repeat (first | refine zL ?_ _ | refine zN ?_ | refine zM ?_ _)); refine blk_put (cs := #[.int .i64 x17_1, .int .i64 x18_1, .int .i64 a0_2]) ?_ 0 _ rfl; (with_reducible repeat (first | refine zL ?_ _ | refine zN ?_ | refine zM ?_ _)); exact BK15.out⟩, ⟨by (with_reducible repeat (first | refine zL ?_ _ | refine zN ?_ | refine zM ?_ _)); refine blk_far ?_ NB16_15.out _; (with_reducible repeat (first | refine zL ?_ _ | refine zN ?_ | refine zM ?_ _)); refine blk_far ?_ NB16_15.out _; (with_reducible repeat (first | refine zL ?_ _ | refine zN ?_ | refine zM ?_ _)); exact BK16.out⟩, ⟨by repeat (first | (with_reducible first | exact HB.out | apply zH | apply zF | apply zG | refine zI ?_ GE15.out | refine zI ?_ GE16.out) | exact HB.out)⟩⟩
    ·rw [if_neg c6] at H
     exact absurd H (by simp)
   ·rw [if_neg c5] at H
    have c5b0 : decide (x5_1 < (a1.size : Int)) = false := decide_eq_false c5; clear c5; simp only [Option.some.injEq, Prod.mk.injEq] at H; obtain ⟨rfl, rfl, rfl⟩ := H; have hnb12 := NB15_16.out; have hnc12 := NB16_15.out; have hcz13_0 := yL BK15.out 0 (.int .i64 x17_1) rfl; have hcz13_1 := yL BK15.out 1 (.int .i64 x18_1) rfl; have hcz13_2 := yL BK15.out 2 (.int .i64 a0_2) rfl; have hfz13_0 := zO BK15.out 0; have hfz13_1 := zO BK15.out 1; have hfz13_2 := zO BK15.out 2; have hcz14_0 := yL BK16.out 0 (.int .i64 0) rfl; have hcz14_1 := yL BK16.out 1 (.int .i64 0) rfl; have hcz14_2 := yL BK16.out 2 (.int .i64 0) rfl; have hfz14_0 := zO BK16.out 0; have hfz14_1 := zO BK16.out 1; have hfz14_2 := zO BK16.out 2; go_wp2; refine bodyPost_ret (results_cell_row rfl _ _ gb16 84 #[.int .i64 x17_1, .int .i64 x18_1, .int .i64 (wrap64 (a0_2 + (a1.size : Int)))] (0, 0) _ rfl (by (with_reducible repeat (first | refine zL ?_ _ | refine zN ?_ | refine zM ?_ _)); refine blk_put (cs := #[.int .i64 x17_1, .int .i64 x18_1, .int .i64 0]) ?_ 2 _ rfl; (with_reducible repeat (first | refine zL ?_ _ | refine zN ?_ | refine zM ?_ _)); refine blk_put (cs := #[.int .i64 x17_1, .int .i64 0, .int .i64 0]) ?_ 1 _ rfl; (with_reducible repeat (first | refine zL ?_ _ | refine zN ?_ | refine zM ?_ _)); refine blk_put (cs := #[.int .i64 0, .int .i64 0, .int .i64 0]) ?_ 0 _ rfl; (with_reducible repeat (first | refine zL ?_ _ | refine zN ?_ | refine zM ?_ _)); refine blk_far ?_ NB16_15.out _; (with_reducible repeat (first | refine zL ?_ _ | refine zN ?_ | refine zM ?_ _)); exact BK16.out) Try.underlying84 rfl (by kernel_rfl)) rfl ?_; exact ⟨by first | rfl | (simp <;> rfl) | (simp [*] <;> rfl), by repeat (first | (with_reducible first | exact HB.out | apply zH | apply zF | apply zG | refine zI ?_ GE15.out | refine zI ?_ GE16.out) | exact HB.out)⟩
def spec_l1Digest.f (k : Nat) (a0 : Int) (a1 : ByteArray) : Option (ByteArray) := (spec_NewMix.f a0).bind fun bt10 => ((spec_l1Feed.f k bt10.1 bt10.2.1 bt10.2.2.1 a1).bind fun bt11 => ((spec_l1End.f bt11.1 bt11.2.1 bt11.2.2).bind fun t12 => (some t12)))
theorem spec_l1Digest.calls (k : Nat) (a0 : Int) (a1 : ByteArray) (r : ByteArray) (w : World) (h : spec_l1Digest.f k a0 a1 = some r) :
  Calls Try.prog 60 #[.int .u8 a0, .string a1] w fun e w' => e = .returned (.string r) ∧ Below w.heap.size w w' := by
 have hu84 := Try.underlying84; have HB := zA (Below.refl w.heap.size w); have H : ((spec_NewMix.f a0).bind fun bt11 => ((spec_l1Feed.f k bt11.1 bt11.2.1 bt11.2.2.1 a1).bind fun bt12 => ((spec_l1End.f bt12.1 bt12.2.1 bt12.2.2).bind fun t13 => (some t13)))) = some r := h; clear h; replace H := zAF H; obtain ⟨⟨t11, t14, t15, t16⟩, A30, H⟩ := H; replace H : ((spec_l1Feed.f k t11 t14 t15 a1).bind fun bt12 => ((spec_l1End.f bt12.1 bt12.2.1 bt12.2.2).bind fun t13 => (some t13))) = some r := H; have A3 := zA A30; clear A30; replace H := zAF H; obtain ⟨⟨t12, t17, t18⟩, A40, H⟩ := H; replace H : ((spec_l1End.f t12 t17 t18).bind fun t13 => (some t13)) = some r := H; have A4 := zA A40; clear A40; replace H := zAF H; obtain ⟨t13, A50, H⟩ := H; replace H : (some t13) = some r := H; have A5 := zA A50; clear A50; obtain rfl := yM H; go_enter Try.func60, Try.ntmps60; go_wp2_with (first | ((with_reducible refine yB (f := 78) rfl ?_); refine goesL_ (some 9) rfl rfl Try.func78 (by kernel_rfl) rfl #[.int .u8 a0] rfl (by (try simp only [zAA, zAB, zAC]); first | done | rfl) ?_; (with_reducible refine (spec_NewMix.calls a0 t11 t14 t15 t16 _ A3.out).mono ?_); rintro e w6 ⟨rfl, hb⟩; refine ⟨_, rfl, ?_⟩; have n0_ := zA (zAD (by (with_reducible repeat first | exact HB.out | apply zH | apply zF | apply zG) <;> exact HB.out) hb); clear HB; have HB := n0_; clear n0_; (try clear hb)) | ((with_reducible refine gate_dst (N := 5) rfl ?_); refine box_event ?hg (N := 5) ?hd (cs := #[.int .i64 0, .int .i64 0, .int .i64 0]) (t := 84) ?hr ?_; (case hd => rfl); (case hg => rfl); (case hr => first | (go_simp; done) | (go_simp; rfl)); intro gb19 hg w7 hbox hb; have n0_ := zA (zAD (by (with_reducible repeat first | exact HB.out | apply zH | apply zF | apply zG) <;> exact HB.out) hb); have n1_ := zA (hbox); have n2_ := zA ((by rw [hg]; exact (zAE (by (with_reducible repeat first | exact HB.out | apply zH | apply zF | apply zG) <;> exact HB.out)) : w.heap.size ≤ gb19)); have n3_ := zA ((by rw [hg]; exact (zAE (by (with_reducible repeat first | exact HB.out | apply zH | apply zF | apply zG) <;> exact HB.out)) : w.heap.size ≤ gb19)); clear HB; have HB := n0_; have BK19 := n1_; have GW19 := n2_; have GE19 := n3_; clear n0_ n1_ n2_ n3_; clear hb hbox hg; have hcz8_0 := yL BK19.out 0 (.int .i64 0) rfl; have hcz8_1 := yL BK19.out 1 (.int .i64 0) rfl; have hcz8_2 := yL BK19.out 2 (.int .i64 0) rfl; have hfz8_0 := zO BK19.out 0; have hfz8_1 := zO BK19.out 1; have hfz8_2 := zO BK19.out 2) | ((with_reducible refine yB (f := 80) rfl ?_); refine goesL_ (some 14) rfl rfl Try.func80 (by kernel_rfl) rfl #[.agg #[.int .i64 t11, .int .i64 t14, .int .i64 t15], .string a1] rfl (by (try simp only [zAA, zAB, zAC]); first | done | rfl) ?_; (with_reducible refine (spec_l1Feed.calls k t11 t14 t15 a1 t12 t17 t18 _ A4.out).mono ?_); rintro e w9 ⟨rfl, hb⟩; refine ⟨_, rfl, ?_⟩; have n0_ := zA (yE (g := gb19) (o := .cells #[.int .i64 t11, .int .i64 t14, .int .i64 t15] 84 (0, 0)) (by (with_reducible repeat (first | refine zL ?_ _ | refine zN ?_ | refine zM ?_ _)); refine blk_put (cs := #[.int .i64 t11, .int .i64 t14, .int .i64 0]) ?_ 2 _ rfl; (with_reducible repeat (first | refine zL ?_ _ | refine zN ?_ | refine zM ?_ _)); refine blk_put (cs := #[.int .i64 t11, .int .i64 0, .int .i64 0]) ?_ 1 _ rfl; (with_reducible repeat (first | refine zL ?_ _ | refine zN ?_ | refine zM ?_ _)); refine blk_put (cs := #[.int .i64 0, .int .i64 0, .int .i64 0]) ?_ 0 _ rfl; (with_reducible repeat (first | refine zL ?_ _ | refine zN ?_ | refine zM ?_ _)); exact BK19.out) hb); have n1_ := zA (zAD (by repeat (first | (with_reducible first | exact HB.out | apply zH | apply zF | apply zG | refine zI ?_ GE19.out) | exact HB.out)) hb); clear BK19; clear HB; have BK19 := n0_; have HB := n1_; clear n0_ n1_; (try clear hb)) | ((with_reducible refine yB (f := 79) rfl ?_); refine goesL_ (some 15) rfl rfl Try.func79 (by kernel_rfl) rfl #[.agg #[.int .i64 t12, .int .i64 t17, .int .i64 t18]] rfl (by (try simp only [zAA, zAB, zAC]); first | done | rfl) ?_; (with_reducible refine (spec_l1End.calls t12 t17 t18 t13 _ A5.out).mono ?_); rintro e w10 ⟨rfl, hb⟩; refine ⟨_, rfl, ?_⟩; have n0_ := zA (yE (g := gb19) (o := .cells #[.int .i64 t11, .int .i64 t14, .int .i64 t15] 84 (0, 0)) (by (with_reducible repeat (first | refine zL ?_ _ | refine zN ?_ | refine zM ?_ _)); exact BK19.out) hb); have n1_ := zA (zAD (by repeat (first | (with_reducible first | exact HB.out | apply zH | apply zF | apply zG | refine zI ?_ GE19.out) | exact HB.out)) hb); clear BK19; clear HB; have BK19 := n0_; have HB := n1_; clear n0_ n1_; (try clear hb))); go_ret; exact ⟨by first | rfl | (simp <;> rfl) | (simp [*] <;> rfl), by repeat (first | (with_reducible first | exact HB.out | apply zH | apply zF | apply zG | refine zI ?_ GE19.out) | exact HB.out)⟩
def spec_l6Digest.f (k : Nat) (l0_0 : List ByteArray) (l0_1 : List ByteArray) (l0_2 : List ByteArray) (a0_3 : Int) : Option (ByteArray) := (spec_l6Bytes.f k l0_0 l0_1 l0_2 a0_3).bind fun t10 => ((spec_l1Digest.f k 103 t10).bind fun t11 => (some t11))
theorem spec_l6Digest.calls (k : Nat) (A0_0 : Option Addr) (c0_0 : Nat) (l0_0 : List ByteArray) (A0_1 : Option Addr) (c0_1 : Nat) (l0_1 : List ByteArray) (A0_2 : Option Addr) (c0_2 : Nat) (l0_2 : List ByteArray) (a0_3 : Int) (r : ByteArray) (w : World) (hr0_0 : Kd.C Kd.string w A0_0 l0_0.length l0_0) (hc0_0 : l0_0.length ≤ c0_0) (hr0_1 : Kd.C Kd.string w A0_1 l0_1.length l0_1) (hc0_1 : l0_1.length ≤ c0_1) (hr0_2 : Kd.C Kd.string w A0_2 l0_2.length l0_2) (hc0_2 : l0_2.length ≤ c0_2) (h : spec_l6Digest.f k l0_0 l0_1 l0_2 a0_3 = some r) :
  Calls Try.prog 41 #[.agg #[.slice A0_0 l0_0.length c0_0, .slice A0_1 l0_1.length c0_1, .slice A0_2 l0_2.length c0_2, .int .i64 a0_3]] w fun e w' => e = .returned (.string r) ∧ Below w.heap.size w w' := by
 have hu38 := Try.underlying38; have HR0_0 := zA hr0_0; have HC0_0 := zA hc0_0; clear hr0_0 hc0_0; have HR0_1 := zA hr0_1; have HC0_1 := zA hc0_1; clear hr0_1 hc0_1; have HR0_2 := zA hr0_2; have HC0_2 := zA hc0_2; clear hr0_2 hc0_2; have HB := zA (Below.refl w.heap.size w); have H : ((spec_l6Bytes.f k l0_0 l0_1 l0_2 a0_3).bind fun t10 => ((spec_l1Digest.f k 103 t10).bind fun t11 => (some t11))) = some r := h; clear h; replace H := zAF H; obtain ⟨t10, A20, H⟩ := H; replace H : ((spec_l1Digest.f k 103 t10).bind fun t11 => (some t11)) = some r := H; have A2 := zA A20; clear A20; replace H := zAF H; obtain ⟨t11, A30, H⟩ := H; replace H : (some t11) = some r := H; have A3 := zA A30; clear A30; obtain rfl := yM H; go_enter Try.func41, Try.ntmps41; go_wp2_with (first | ((with_reducible refine gate_dst (N := 1) rfl ?_); refine box_event ?hg (N := 1) ?hd (cs := #[.slice A0_0 l0_0.length c0_0, .slice A0_1 l0_1.length c0_1, .slice A0_2 l0_2.length c0_2, .int .i64 a0_3]) (t := 38) ?hr ?_; (case hd => rfl); (case hg => rfl); (case hr => first | (go_simp; done) | (go_simp; rfl)); intro gb12 hg w4 hbox hb; have n0_ := zA (zAD (by (with_reducible repeat first | exact HB.out | apply zH | apply zF | apply zG) <;> exact HB.out) hb); have n1_ := zA (hbox); have n2_ := zA ((by rw [hg]; exact (zAE (by (with_reducible repeat first | exact HB.out | apply zH | apply zF | apply zG) <;> exact HB.out)) : w.heap.size ≤ gb12)); have n3_ := zA ((by rw [hg]; exact (zAE (by (with_reducible repeat first | exact HB.out | apply zH | apply zF | apply zG) <;> exact HB.out)) : w.heap.size ≤ gb12)); clear HB; have HB := n0_; have BK12 := n1_; have GW12 := n2_; have GE12 := n3_; clear n0_ n1_ n2_ n3_; clear hb hbox hg; have hcz5_0 := yL BK12.out 0 (.slice A0_0 l0_0.length c0_0) rfl; have hcz5_1 := yL BK12.out 1 (.slice A0_1 l0_1.length c0_1) rfl; have hcz5_2 := yL BK12.out 2 (.slice A0_2 l0_2.length c0_2) rfl; have hcz5_3 := yL BK12.out 3 (.int .i64 a0_3) rfl; have hfz5_0 := zO BK12.out 0; have hfz5_1 := zO BK12.out 1; have hfz5_2 := zO BK12.out 2; have hfz5_3 := zO BK12.out 3) | ((with_reducible refine yB (f := 40) rfl ?_); refine goesL_ (some 4) rfl rfl Try.func40 (by kernel_rfl) rfl #[.agg #[.slice A0_0 l0_0.length c0_0, .slice A0_1 l0_1.length c0_1, .slice A0_2 l0_2.length c0_2, .int .i64 a0_3]] rfl (by (try simp only [zAA, zAB, zAC]); first | done | rfl | (simp only [zZ, zY]; rfl)) ?_; (with_reducible refine (spec_l6Bytes.calls k _ _ l0_0 _ _ l0_1 _ _ l0_2 a0_3 t10 _ ?side1 ?side2 ?side3 ?side4 ?side5 ?side6 A2.out).mono ?_); (case side1 => repeat (first | exact (yN HR0_0.out HB.out) | (with_reducible first | refine zT ?_ _ | refine zU ?_ _ | refine zV ?_))); (case side2 => exact HC0_0.out); (case side3 => repeat (first | exact (yN HR0_1.out HB.out) | (with_reducible first | refine zT ?_ _ | refine zU ?_ _ | refine zV ?_))); (case side4 => exact HC0_1.out); (case side5 => repeat (first | exact (yN HR0_2.out HB.out) | (with_reducible first | refine zT ?_ _ | refine zU ?_ _ | refine zV ?_))); (case side6 => exact HC0_2.out); rintro e w6 ⟨rfl, hb⟩; refine ⟨_, rfl, ?_⟩; have n0_ := zA (yE (g := gb12) (o := .cells #[.slice A0_0 l0_0.length c0_0, .slice A0_1 l0_1.length c0_1, .slice A0_2 l0_2.length c0_2, .int .i64 a0_3] 38 (0, 0)) (by (with_reducible repeat (first | refine zL ?_ _ | refine zN ?_ | refine zM ?_ _)); exact BK12.out) hb); have n1_ := zA (zAD (by repeat (first | (with_reducible first | exact HB.out | apply zH | apply zF | apply zG | refine zI ?_ GE12.out) | exact HB.out)) hb); clear BK12; clear HB; have BK12 := n0_; have HB := n1_; clear n0_ n1_; (try clear hb)) | ((with_reducible refine yB (f := 60) rfl ?_); refine goesL_ (some 5) rfl rfl Try.func60 (by kernel_rfl) rfl #[.int .u8 103, .string t10] rfl (by (try simp only [zAA, zAB, zAC]); first | done | rfl) ?_; (with_reducible refine (spec_l1Digest.calls k 103 t10 t11 _ A3.out).mono ?_); rintro e w7 ⟨rfl, hb⟩; refine ⟨_, rfl, ?_⟩; have n0_ := zA (yE (g := gb12) (o := .cells #[.slice A0_0 l0_0.length c0_0, .slice A0_1 l0_1.length c0_1, .slice A0_2 l0_2.length c0_2, .int .i64 a0_3] 38 (0, 0)) (by (with_reducible repeat (first | refine zL ?_ _ | refine zN ?_ | refine zM ?_ _)); exact BK12.out) hb); have n1_ := zA (zAD (by repeat (first | (with_reducible first | exact HB.out | apply zH | apply zF | apply zG | refine zI ?_ GE12.out) | exact HB.out)) hb); clear BK12; clear HB; have BK12 := n0_; have HB := n1_; clear n0_ n1_; (try clear hb))); go_ret; exact ⟨by first | rfl | (simp <;> rfl) | (simp [*] <;> rfl), by repeat (first | (with_reducible first | exact HB.out | apply zH | apply zF | apply zG | refine zI ?_ GE12.out) | exact HB.out)⟩
def spec_l6Less.l0 : Nat → ByteArray → Int → List ByteArray → List ByteArray → List ByteArray → Int → Option (Int)
 | 0, _, _, _, _, _, _ => none
 | k + 1, x1, x5, x10, x11, x12, x13 => if x5 < (x10.length : Int) then (if 0 ≤ x5 then (if (Op.bytesLess ((rdOf ByteArray.empty x10 x5).toList) x1.toList) = true then (spec_l6Less.l0 k x1 (wrap64 (x5 + 1)) x10 x11 x12 x13) else (some x5)) else (none)) else (some x5)
def spec_l6Less.f (k : Nat) (l0_0 : List ByteArray) (l0_1 : List ByteArray) (l0_2 : List ByteArray) (a0_3 : Int) (a1 : ByteArray) : Option (Int) := spec_l6Less.l0 k a1 0 l0_0 l0_1 l0_2 a0_3
theorem spec_l6Less.calls (k : Nat) (A0_0 : Option Addr) (c0_0 : Nat) (l0_0 : List ByteArray) (A0_1 : Option Addr) (c0_1 : Nat) (l0_1 : List ByteArray) (A0_2 : Option Addr) (c0_2 : Nat) (l0_2 : List ByteArray) (a0_3 : Int) (a1 : ByteArray) (r : Int) (w : World) (hr0_0 : Kd.C Kd.string w A0_0 l0_0.length l0_0) (hc0_0 : l0_0.length ≤ c0_0) (hr0_1 : Kd.C Kd.string w A0_1 l0_1.length l0_1) (hc0_1 : l0_1.length ≤ c0_1) (hr0_2 : Kd.C Kd.string w A0_2 l0_2.length l0_2) (hc0_2 : l0_2.length ≤ c0_2) (h : spec_l6Less.f k l0_0 l0_1 l0_2 a0_3 a1 = some r) :
  Calls Try.prog 77 #[.agg #[.slice A0_0 l0_0.length c0_0, .slice A0_1 l0_1.length c0_1, .slice A0_2 l0_2.length c0_2, .int .i64 a0_3], .string a1] w fun e w' => e = .returned (.int .i64 r) ∧ Below w.heap.size w w' := by
 have hu38 := Try.underlying38; have HR0_0 := zA hr0_0; have HC0_0 := zA hc0_0; clear hr0_0 hc0_0; have HR0_1 := zA hr0_1; have HC0_1 := zA hc0_1; clear hr0_1 hc0_1; have HR0_2 := zA hr0_2; have HC0_2 := zA hc0_2; clear hr0_2 hc0_2; have HB := zA (Below.refl w.heap.size w); have H : (spec_l6Less.l0 k a1 0 l0_0 l0_1 l0_2 a0_3) = some r := h; clear h; have H' := zA H; clear H; go_enter Try.func77, Try.ntmps77; go_wp2_with (first | ((with_reducible refine gate_dst (N := 2) rfl ?_); refine box_event ?hg (N := 2) ?hd (cs := #[.slice A0_0 l0_0.length c0_0, .slice A0_1 l0_1.length c0_1, .slice A0_2 l0_2.length c0_2, .int .i64 a0_3]) (t := 38) ?hr ?_; (case hd => rfl); (case hg => rfl); (case hr => first | (go_simp; done) | (go_simp; rfl)); intro gb10 hg w3 hbox hb; have n0_ := zA (zAD (by (with_reducible repeat first | exact HB.out | apply zH | apply zF | apply zG) <;> exact HB.out) hb); have n1_ := zA (hbox); have n2_ := zA ((by rw [hg]; exact (zAE (by (with_reducible repeat first | exact HB.out | apply zH | apply zF | apply zG) <;> exact HB.out)) : w.heap.size ≤ gb10)); have n3_ := zA ((by rw [hg]; exact (zAE (by (with_reducible repeat first | exact HB.out | apply zH | apply zF | apply zG) <;> exact HB.out)) : w.heap.size ≤ gb10)); clear HB; have HB := n0_; have BK10 := n1_; have GW10 := n2_; have GE10 := n3_; clear n0_ n1_ n2_ n3_; clear hb hbox hg)); go_loopg [5] k (fun kq v5 w' => ∃ (x5_1 : Int), v5 = .int .i64 x5_1 ∧ Aside0 (spec_l6Less.l0 kq a1 x5_1 l0_0 l0_1 l0_2 a0_3 = some r) ∧ Aside0 (kq ≤ k) ∧ Aside0 (w'.heap[gb10]? = some (.cells #[(.slice A0_0 l0_0.length c0_0), (.slice A0_1 l0_1.length c0_1), (.slice A0_2 l0_2.length c0_2), .int .i64 a0_3] 38 (0, 0))) ∧ Aside0 (Below w.heap.size w w'))
 case atStart => exact ⟨(0), (by first | rfl | (simp; done) | (simp [*]; done) | (simp [bne]; done)), H', ⟨Nat.le_refl _⟩, ⟨by (with_reducible repeat (first | refine zL ?_ _ | refine zN ?_ | refine zM ?_ _)); exact BK10.out⟩, ⟨by repeat (first | (with_reducible first | exact HB.out | apply zH | apply zF | apply zG | refine zI ?_ GE10.out) | exact HB.out)⟩⟩
 case round =>
  clear H'
  try clear p2
  obtain ⟨x5_1, rfl, HA, HK1, BK10, HB⟩ := hrel
  cases gk with
  | zero => exact absurd HA.out (by simp [spec_l6Less.l0])
  | succ k1 =>
   have H := HA.out; clear HA; simp only [spec_l6Less.l0] at H
   by_cases c4 : x5_1 < (l0_0.length : Int)
   ·rw [if_pos c4] at H
    have c4b0 : decide (x5_1 < (l0_0.length : Int)) = true := zX c4; clear c4
    by_cases c5 : 0 ≤ x5_1
    ·rw [if_pos c5] at H
     have c5b0 : decide (0 ≤ x5_1) = true := zX c5; clear c5
     by_cases c6 : (Op.bytesLess ((rdOf ByteArray.empty l0_0 x5_1).toList) a1.toList) = true
     ·rw [if_pos c6] at H
      have c6b0 : (Op.bytesLess ((rdOf ByteArray.empty l0_0 x5_1).toList) a1.toList) = true := c6; clear c6; have H' := zA H; clear H; have hcz7_0 := yL BK10.out 0 (.slice A0_0 l0_0.length c0_0) rfl; have hcz7_1 := yL BK10.out 1 (.slice A0_1 l0_1.length c0_1) rfl; have hcz7_2 := yL BK10.out 2 (.slice A0_2 l0_2.length c0_2) rfl; have hcz7_3 := yL BK10.out 3 (.int .i64 a0_3) rfl; have hfz7_0 := zO BK10.out 0; have hfz7_1 := zO BK10.out 1; have hfz7_2 := zO BK10.out 2; have hfz7_3 := zO BK10.out 3; have p11 : 0 ≤ (x5_1 : Int) := zW (by first | (with_reducible assumption) | assumption); have q11 : x5_1 < (l0_0.length : Int) := zW (by first | (with_reducible assumption) | assumption); obtain ⟨ad11, e11, hx11_0⟩ := Kd.at_string HR0_0.out x5_1 p11 q11
      cases e11
      replace hx11_0 := (HB.out.cell (zB w _ hx11_0)).trans hx11_0; replace p11 := eq_true p11; replace q11 := eq_true q11; go_wp2; go_roundg k1
      case measure => have := HK1.out; omega
      case rel => exact ⟨(wrap64 (x5_1 + 1)), (by first | rfl | (simp; done) | (simp [*]; done) | (simp [bne]; done)), H', ⟨by have := HK1.out; omega⟩, ⟨by (with_reducible repeat (first | refine zL ?_ _ | refine zN ?_ | refine zM ?_ _)); exact BK10.out⟩, ⟨by repeat (first | (with_reducible first | exact HB.out | apply zH | apply zF | apply zG | refine zI ?_ GE10.out) | exact HB.out)⟩⟩
     ·rw [if_neg c6] at H
      have c6b0 : (Op.bytesLess ((rdOf ByteArray.empty l0_0 x5_1).toList) a1.toList) = false := by simpa using c6
      clear c6; obtain rfl := yM H; have hcz8_0 := yL BK10.out 0 (.slice A0_0 l0_0.length c0_0) rfl; have hcz8_1 := yL BK10.out 1 (.slice A0_1 l0_1.length c0_1) rfl; have hcz8_2 := yL BK10.out 2 (.slice A0_2 l0_2.length c0_2) rfl; have hcz8_3 := yL BK10.out 3 (.int .i64 a0_3) rfl; have hfz8_0 := zO BK10.out 0; have hfz8_1 := zO BK10.out 1; have hfz8_2 := zO BK10.out 2; have hfz8_3 := zO BK10.out 3; have p11 : 0 ≤ (x5_1 : Int) := zW (by first | (with_reducible assumption) | assumption); have q11 : x5_1 < (l0_0.length : Int) := zW (by first | (with_reducible assumption) | assumption); obtain ⟨ad11, e11, hx11_0⟩ := Kd.at_string HR0_0.out x5_1 p11 q11
      cases e11
      replace hx11_0 := (HB.out.cell (zB w _ hx11_0)).trans hx11_0; replace p11 := eq_true p11; replace q11 := eq_true q11; go_wp2; go_ret; exact ⟨by first | rfl | (simp <;> rfl) | (simp [*] <;> rfl), by repeat (first | (with_reducible first | exact HB.out | apply zH | apply zF | apply zG | refine zI ?_ GE10.out) | exact HB.out)⟩
    ·rw [if_neg c5] at H
     exact absurd H (by simp)
   ·rw [if_neg c4] at H
    have c4b0 : decide (x5_1 < (l0_0.length : Int)) = false := decide_eq_false c4; clear c4; obtain rfl := yM H; have hcz9_0 := yL BK10.out 0 (.slice A0_0 l0_0.length c0_0) rfl; have hcz9_1 := yL BK10.out 1 (.slice A0_1 l0_1.length c0_1) rfl; have hcz9_2 := yL BK10.out 2 (.slice A0_2 l0_2.length c0_2) rfl; have hcz9_3 := yL BK10.out 3 (.int .i64 a0_3) rfl; have hfz9_0 := zO BK10.out 0; have hfz9_1 := zO BK10.out 1; have hfz9_2 := zO BK10.out 2; have hfz9_3 := zO BK10.out 3; go_wp2; go_ret; exact ⟨by first | rfl | (simp <;> rfl) | (simp [*] <;> rfl), by repeat (first | (with_reducible first | exact HB.out | apply zH | apply zF | apply zG | refine zI ?_ GE10.out) | exact HB.out)⟩
def laws_szStringS.l0 : Nat → List ByteArray → Int → Int → Option (Int)
 | 0, _, _, _ => none
 | k + 1, x0, x1, x5 => if x5 < (x0.length : Int) then (if 0 ≤ x5 then (if (wrap64 (x1 - ((rdOf ByteArray.empty x0 x5).size : Int))) < 0 then (some (-1)) else (laws_szStringS.l0 k x0 (wrap64 (x1 - ((rdOf ByteArray.empty x0 x5).size : Int))) (wrap64 (x5 + 1)))) else (none)) else (some x1)
def laws_szStringS.f (k : Nat) (l0 : List ByteArray) (a1 : Int) : Option (Int) := if (wrap64 (a1 - (l0.length : Int))) < 0 then (some (-1)) else (laws_szStringS.l0 k l0 (wrap64 (a1 - (l0.length : Int))) 0)
theorem laws_szStringS.calls (k : Nat) (A0 : Option Addr) (c0 : Nat) (l0 : List ByteArray) (a1 : Int) (r : Int) (w : World) (hr0 : Kd.C Kd.string w A0 l0.length l0) (hc0 : l0.length ≤ c0) (h : laws_szStringS.f k l0 a1 = some r) :
  Calls Try.prog 6 #[.slice A0 l0.length c0, .int .i64 a1] w fun e w' => e = .returned (.int .i64 r) ∧ Drawn0 w w' := by
 have HR0 := zA hr0; have HC0 := zA hc0; clear hr0 hc0; have H : (if (wrap64 (a1 - (l0.length : Int))) < 0 then (some (-1)) else (laws_szStringS.l0 k l0 (wrap64 (a1 - (l0.length : Int))) 0)) = some r := h; clear h
 by_cases c3 : (wrap64 (a1 - (l0.length : Int))) < 0
 ·rw [if_pos c3] at H
  have c3b0 : decide ((wrap64 (a1 - (l0.length : Int))) < 0) = true := zX c3; clear c3; obtain rfl := yM H; go_enter Try.func6, Try.ntmps6; go_wp2; go_ret; exact ⟨by first | rfl | (simp; done) | (simp [*]; done) | (simp [bne]; done), by repeat (first | exact Drawn0.refl _ | apply Drawn0.step)⟩
 ·rw [if_neg c3] at H
  have c3b0 : decide ((wrap64 (a1 - (l0.length : Int))) < 0) = false := decide_eq_false c3; clear c3; have H' := zA H; clear H; go_enter Try.func6, Try.ntmps6; go_wp2; go_loopg [1, 5] k (fun kq v1 v5 w' => ∃ (x1_1 : Int) (x5_1 : Int), v1 = .int .i64 x1_1 ∧ v5 = .int .i64 x5_1 ∧ Aside0 (laws_szStringS.l0 kq l0 x1_1 x5_1 = some r) ∧ Aside0 (kq ≤ k) ∧ Drawn0 w w')
  case atStart => exact ⟨(wrap64 (a1 - (l0.length : Int))), (0), (by first | rfl | (simp; done) | (simp [*]; done) | (simp [bne]; done)), (by first | rfl | (simp; done) | (simp [*]; done) | (simp [bne]; done)), H', ⟨Nat.le_refl _⟩, by repeat (first | exact Drawn0.refl _ | apply Drawn0.step)⟩
  case round =>
   clear H'
   try clear p2
   try clear c3
   try clear c3b0
   obtain ⟨x1_1, x5_1, rfl, rfl, HA, HK1, ⟨m1, rfl⟩⟩ := hrel
   cases gk with
   | zero => exact absurd HA.out (by simp [laws_szStringS.l0])
   | succ k1 =>
    have H := HA.out; clear HA; simp only [laws_szStringS.l0] at H
    by_cases c4 : x5_1 < (l0.length : Int)
    ·rw [if_pos c4] at H
     have c4b0 : decide (x5_1 < (l0.length : Int)) = true := zX c4; clear c4
     by_cases c5 : 0 ≤ x5_1
     ·rw [if_pos c5] at H
      have c5b0 : decide (0 ≤ x5_1) = true := zX c5; clear c5
      by_cases c6 : (wrap64 (x1_1 - ((rdOf ByteArray.empty l0 x5_1).size : Int))) < 0
      ·rw [if_pos c6] at H
       have c6b0 : decide ((wrap64 (x1_1 - ((rdOf ByteArray.empty l0 x5_1).size : Int))) < 0) = true := zX c6; clear c6; obtain rfl := yM H; have p10 : 0 ≤ (x5_1 : Int) := zW (by first | (with_reducible assumption) | assumption); have q10 : x5_1 < (l0.length : Int) := zW (by first | (with_reducible assumption) | assumption); obtain ⟨ad10, e10, hx10_0⟩ := Kd.at_string HR0.out x5_1 p10 q10
       cases e10
       replace p10 := eq_true p10; replace q10 := eq_true q10; go_wp2; go_ret; exact ⟨by first | rfl | (simp; done) | (simp [*]; done) | (simp [bne]; done), by repeat (first | exact Drawn0.refl _ | apply Drawn0.step)⟩
      ·rw [if_neg c6] at H
       have c6b0 : decide ((wrap64 (x1_1 - ((rdOf ByteArray.empty l0 x5_1).size : Int))) < 0) = false := decide_eq_false c6; clear c6; have H' := zA H; clear H; have p10 : 0 ≤ (x5_1 : Int) := zW (by first | (with_reducible assumption) | assumption); have q10 : x5_1 < (l0.length : Int) := zW (by first | (with_reducible assumption) | assumption); obtain ⟨ad10, e10, hx10_0⟩ := Kd.at_string HR0.out x5_1 p10 q10
       cases e10
       replace p10 := eq_true p10; replace q10 := eq_true q10; go_wp2; go_roundg k1
       case measure => have := HK1.out; omega
       case rel => exact ⟨(wrap64 (x1_1 - ((rdOf ByteArray.empty l0 x5_1).size : Int))), (wrap64 (x5_1 + 1)), (by first | rfl | (simp; done) | (simp [*]; done) | (simp [bne]; done)), (by first | rfl | (simp; done) | (simp [*]; done) | (simp [bne]; done)), H', ⟨by have := HK1.out; omega⟩, by repeat (first | exact Drawn0.refl _ | apply Drawn0.step)⟩
     ·rw [if_neg c5] at H
      exact absurd H (by simp)
    ·rw [if_neg c4] at H
     have c4b0 : decide (x5_1 < (l0.length : Int)) = false := decide_eq_false c4; clear c4; obtain rfl := yM H; go_wp2; go_ret; exact ⟨by first | rfl | (simp; done) | (simp [*]; done) | (simp [bne]; done), by repeat (first | exact Drawn0.refl _ | apply Drawn0.step)⟩
def laws_szShown.f (k : Nat) (l0_0 : List ByteArray) (l0_1 : List ByteArray) (l0_2 : List ByteArray) (a0_3 : Int) (a1 : Int) : Option (Int) := (laws_szStringS.f k l0_0 a1).bind fun t10 => (if t10 < 0 then (some (-1)) else ((laws_szStringS.f k l0_1 t10).bind fun t11 => (if t11 < 0 then (some (-1)) else ((laws_szStringS.f k l0_2 t11).bind fun t12 => (if t12 < 0 then (some (-1)) else (some t12))))))
theorem laws_szShown.calls (k : Nat) (A0_0 : Option Addr) (c0_0 : Nat) (l0_0 : List ByteArray) (A0_1 : Option Addr) (c0_1 : Nat) (l0_1 : List ByteArray) (A0_2 : Option Addr) (c0_2 : Nat) (l0_2 : List ByteArray) (a0_3 : Int) (a1 : Int) (r : Int) (w : World) (hr0_0 : Kd.C Kd.string w A0_0 l0_0.length l0_0) (hc0_0 : l0_0.length ≤ c0_0) (hr0_1 : Kd.C Kd.string w A0_1 l0_1.length l0_1) (hc0_1 : l0_1.length ≤ c0_1) (hr0_2 : Kd.C Kd.string w A0_2 l0_2.length l0_2) (hc0_2 : l0_2.length ≤ c0_2) (h : laws_szShown.f k l0_0 l0_1 l0_2 a0_3 a1 = some r) :
  Calls Try.prog 38 #[.agg #[.slice A0_0 l0_0.length c0_0, .slice A0_1 l0_1.length c0_1, .slice A0_2 l0_2.length c0_2, .int .i64 a0_3], .int .i64 a1] w fun e w' => e = .returned (.int .i64 r) ∧ Below w.heap.size w w' := by
 have hu61 := Try.underlying61; have HR0_0 := zA hr0_0; have HC0_0 := zA hc0_0; clear hr0_0 hc0_0; have HR0_1 := zA hr0_1; have HC0_1 := zA hc0_1; clear hr0_1 hc0_1; have HR0_2 := zA hr0_2; have HC0_2 := zA hc0_2; clear hr0_2 hc0_2; have HB := zA (Below.refl w.heap.size w); have H : ((laws_szStringS.f k l0_0 a1).bind fun t17 => (if t17 < 0 then (some (-1)) else ((laws_szStringS.f k l0_1 t17).bind fun t18 => (if t18 < 0 then (some (-1)) else ((laws_szStringS.f k l0_2 t18).bind fun t19 => (if t19 < 0 then (some (-1)) else (some t19))))))) = some r := h; clear h; replace H := zAF H; obtain ⟨t17, A30, H⟩ := H; replace H : (if t17 < 0 then (some (-1)) else ((laws_szStringS.f k l0_1 t17).bind fun t18 => (if t18 < 0 then (some (-1)) else ((laws_szStringS.f k l0_2 t18).bind fun t19 => (if t19 < 0 then (some (-1)) else (some t19)))))) = some r := H; have A3 := zA A30; clear A30
 by_cases c4 : t17 < 0
 ·rw [if_pos c4] at H
  have c4b0 : decide (t17 < 0) = true := zX c4; clear c4; obtain rfl := yM H; go_enter Try.func38, Try.ntmps38; go_wp2_with (first | ((with_reducible refine gate_dst (N := 2) rfl ?_); refine box_event ?hg (N := 2) ?hd (cs := #[.slice A0_0 l0_0.length c0_0, .slice A0_1 l0_1.length c0_1, .slice A0_2 l0_2.length c0_2, .int .i64 a0_3]) (t := 61) ?hr ?_; (case hd => rfl); (case hg => rfl); (case hr => first | (go_simp; done) | (go_simp; rfl)); intro gb20 hg w5 hbox hb; have n0_ := zA (zAD (by (with_reducible repeat first | exact HB.out | apply zH | apply zF | apply zG) <;> exact HB.out) hb); have n1_ := zA (hbox); have n2_ := zA ((by rw [hg]; exact (zAE (by (with_reducible repeat first | exact HB.out | apply zH | apply zF | apply zG) <;> exact HB.out)) : w.heap.size ≤ gb20)); have n3_ := zA ((by rw [hg]; exact (zAE (by (with_reducible repeat first | exact HB.out | apply zH | apply zF | apply zG) <;> exact HB.out)) : w.heap.size ≤ gb20)); clear HB; have HB := n0_; have BK20 := n1_; have GW20 := n2_; have GE20 := n3_; clear n0_ n1_ n2_ n3_; clear hb hbox hg; have hcz6_0 := yL BK20.out 0 (.slice A0_0 l0_0.length c0_0) rfl; have hcz6_1 := yL BK20.out 1 (.slice A0_1 l0_1.length c0_1) rfl; have hcz6_2 := yL BK20.out 2 (.slice A0_2 l0_2.length c0_2) rfl; have hcz6_3 := yL BK20.out 3 (.int .i64 a0_3) rfl; have hfz6_0 := zO BK20.out 0; have hfz6_1 := zO BK20.out 1; have hfz6_2 := zO BK20.out 2; have hfz6_3 := zO BK20.out 3) | ((with_reducible refine yB (f := 6) rfl ?_); refine goesL_ (some 8) rfl rfl Try.func6 (by kernel_rfl) rfl #[.slice A0_0 l0_0.length c0_0, .int .i64 a1] rfl (by (try simp only [zAA, zAB, zAC]); first | done | rfl | (simp only [zZ, zY]; rfl)) ?_; (with_reducible refine (laws_szStringS.calls k _ _ l0_0 a1 t17 _ ?side1 ?side2 A3.out).mono ?_); (case side1 => repeat (first | exact (yN HR0_0.out HB.out) | (with_reducible first | refine zT ?_ _ | refine zU ?_ _ | refine zV ?_))); (case side2 => exact HC0_0.out); rintro e w' ⟨rfl, ⟨nd, rfl⟩⟩; refine ⟨_, rfl, ?_⟩)); go_ret; exact ⟨by first | rfl | (simp <;> rfl) | (simp [*] <;> rfl), by repeat (first | (with_reducible first | exact HB.out | apply zH | apply zF | apply zG | refine zI ?_ GE20.out) | exact HB.out)⟩
 ·rw [if_neg c4] at H
  have c4b0 : decide (t17 < 0) = false := decide_eq_false c4; clear c4; replace H := zAF H; obtain ⟨t18, A70, H⟩ := H; replace H : (if t18 < 0 then (some (-1)) else ((laws_szStringS.f k l0_2 t18).bind fun t19 => (if t19 < 0 then (some (-1)) else (some t19)))) = some r := H; have A7 := zA A70; clear A70
  by_cases c8 : t18 < 0
  ·rw [if_pos c8] at H
   have c8b0 : decide (t18 < 0) = true := zX c8; clear c8; obtain rfl := yM H; go_enter Try.func38, Try.ntmps38; go_wp2_with (first | ((with_reducible refine gate_dst (N := 2) rfl ?_); refine box_event ?hg (N := 2) ?hd (cs := #[.slice A0_0 l0_0.length c0_0, .slice A0_1 l0_1.length c0_1, .slice A0_2 l0_2.length c0_2, .int .i64 a0_3]) (t := 61) ?hr ?_; (case hd => rfl); (case hg => rfl); (case hr => first | (go_simp; done) | (go_simp; rfl)); intro gb20 hg w9 hbox hb; have n0_ := zA (zAD (by (with_reducible repeat first | exact HB.out | apply zH | apply zF | apply zG) <;> exact HB.out) hb); have n1_ := zA (hbox); have n2_ := zA ((by rw [hg]; exact (zAE (by (with_reducible repeat first | exact HB.out | apply zH | apply zF | apply zG) <;> exact HB.out)) : w.heap.size ≤ gb20)); have n3_ := zA ((by rw [hg]; exact (zAE (by (with_reducible repeat first | exact HB.out | apply zH | apply zF | apply zG) <;> exact HB.out)) : w.heap.size ≤ gb20)); clear HB; have HB := n0_; have BK20 := n1_; have GW20 := n2_; have GE20 := n3_; clear n0_ n1_ n2_ n3_; clear hb hbox hg; have hcz10_0 := yL BK20.out 0 (.slice A0_0 l0_0.length c0_0) rfl; have hcz10_1 := yL BK20.out 1 (.slice A0_1 l0_1.length c0_1) rfl; have hcz10_2 := yL BK20.out 2 (.slice A0_2 l0_2.length c0_2) rfl; have hcz10_3 := yL BK20.out 3 (.int .i64 a0_3) rfl; have hfz10_0 := zO BK20.out 0; have hfz10_1 := zO BK20.out 1; have hfz10_2 := zO BK20.out 2; have hfz10_3 := zO BK20.out 3) | ((with_reducible refine yB (f := 6) rfl ?_); refine goesL_ (some 8) rfl rfl Try.func6 (by kernel_rfl) rfl #[.slice A0_0 l0_0.length c0_0, .int .i64 a1] rfl (by (try simp only [zAA, zAB, zAC]); first | done | rfl | (simp only [zZ, zY]; rfl)) ?_; (with_reducible refine (laws_szStringS.calls k _ _ l0_0 a1 t17 _ ?side1 ?side2 A3.out).mono ?_); (case side1 => repeat (first | exact (yN HR0_0.out HB.out) | (with_reducible first | refine zT ?_ _ | refine zU ?_ _ | refine zV ?_))); (case side2 => exact HC0_0.out); rintro e w' ⟨rfl, ⟨nd, rfl⟩⟩; refine ⟨_, rfl, ?_⟩) | ((with_reducible refine yB (f := 6) rfl ?_); refine goesL_ (some 14) rfl rfl Try.func6 (by kernel_rfl) rfl #[.slice A0_1 l0_1.length c0_1, .int .i64 t17] rfl (by (try simp only [zAA, zAB, zAC]); first | done | rfl | (simp only [zZ, zY]; rfl)) ?_; (with_reducible refine (laws_szStringS.calls k _ _ l0_1 t17 t18 _ ?side1 ?side2 A7.out).mono ?_); (case side1 => repeat (first | exact (yN HR0_1.out (by repeat (first | (with_reducible first | exact HB.out | apply zH | apply zF | apply zG | refine zI ?_ GE20.out) | exact HB.out))) | (with_reducible first | refine zT ?_ _ | refine zU ?_ _ | refine zV ?_))); (case side2 => exact HC0_1.out); rintro e w' ⟨rfl, ⟨nd, rfl⟩⟩; refine ⟨_, rfl, ?_⟩)); go_ret; exact ⟨by first | rfl | (simp <;> rfl) | (simp [*] <;> rfl), by repeat (first | (with_reducible first | exact HB.out | apply zH | apply zF | apply zG | refine zI ?_ GE20.out) | exact HB.out)⟩
  ·rw [if_neg c8] at H
   have c8b0 : decide (t18 < 0) = false := decide_eq_false c8; clear c8; replace H := zAF H; obtain ⟨t19, A21, H⟩ := H; replace H : (if t19 < 0 then (some (-1)) else (some t19)) = some r := H; have A11 := zA A21; clear A21
   by_cases c12 : t19 < 0
   ·rw [if_pos c12] at H
    have c12b0 : decide (t19 < 0) = true := zX c12; clear c12; obtain rfl := yM H; go_enter Try.func38, Try.ntmps38; go_wp2_with (first | ((with_reducible refine gate_dst (N := 2) rfl ?_); refine box_event ?hg (N := 2) ?hd (cs := #[.slice A0_0 l0_0.length c0_0, .slice A0_1 l0_1.length c0_1, .slice A0_2 l0_2.length c0_2, .int .i64 a0_3]) (t := 61) ?hr ?_; (case hd => rfl); (case hg => rfl); (case hr => first | (go_simp; done) | (go_simp; rfl)); intro gb20 hg w13 hbox hb; have n0_ := zA (zAD (by (with_reducible repeat first | exact HB.out | apply zH | apply zF | apply zG) <;> exact HB.out) hb); have n1_ := zA (hbox); have n2_ := zA ((by rw [hg]; exact (zAE (by (with_reducible repeat first | exact HB.out | apply zH | apply zF | apply zG) <;> exact HB.out)) : w.heap.size ≤ gb20)); have n3_ := zA ((by rw [hg]; exact (zAE (by (with_reducible repeat first | exact HB.out | apply zH | apply zF | apply zG) <;> exact HB.out)) : w.heap.size ≤ gb20)); clear HB; have HB := n0_; have BK20 := n1_; have GW20 := n2_; have GE20 := n3_; clear n0_ n1_ n2_ n3_; clear hb hbox hg; have hcz14_0 := yL BK20.out 0 (.slice A0_0 l0_0.length c0_0) rfl; have hcz14_1 := yL BK20.out 1 (.slice A0_1 l0_1.length c0_1) rfl; have hcz14_2 := yL BK20.out 2 (.slice A0_2 l0_2.length c0_2) rfl; have hcz14_3 := yL BK20.out 3 (.int .i64 a0_3) rfl; have hfz14_0 := zO BK20.out 0; have hfz14_1 := zO BK20.out 1; have hfz14_2 := zO BK20.out 2; have hfz14_3 := zO BK20.out 3) | ((with_reducible refine yB (f := 6) rfl ?_); refine goesL_ (some 8) rfl rfl Try.func6 (by kernel_rfl) rfl #[.slice A0_0 l0_0.length c0_0, .int .i64 a1] rfl (by (try simp only [zAA, zAB, zAC]); first | done | rfl | (simp only [zZ, zY]; rfl)) ?_; (with_reducible refine (laws_szStringS.calls k _ _ l0_0 a1 t17 _ ?side1 ?side2 A3.out).mono ?_); (case side1 => repeat (first | exact (yN HR0_0.out HB.out) | (with_reducible first | refine zT ?_ _ | refine zU ?_ _ | refine zV ?_))); (case side2 => exact HC0_0.out); rintro e w' ⟨rfl, ⟨nd, rfl⟩⟩; refine ⟨_, rfl, ?_⟩) | ((with_reducible refine yB (f := 6) rfl ?_); refine goesL_ (some 14) rfl rfl Try.func6 (by kernel_rfl) rfl #[.slice A0_1 l0_1.length c0_1, .int .i64 t17] rfl (by (try simp only [zAA, zAB, zAC]); first | done | rfl | (simp only [zZ, zY]; rfl)) ?_; (with_reducible refine (laws_szStringS.calls k _ _ l0_1 t17 t18 _ ?side1 ?side2 A7.out).mono ?_); (case side1 => repeat (first | exact (yN HR0_1.out (by repeat (first | (with_reducible first | exact HB.out | apply zH | apply zF | apply zG | refine zI ?_ GE20.out) | exact HB.out))) | (with_reducible first | refine zT ?_ _ | refine zU ?_ _ | refine zV ?_))); (case side2 => exact HC0_1.out); rintro e w' ⟨rfl, ⟨nd, rfl⟩⟩; refine ⟨_, rfl, ?_⟩) | ((with_reducible refine yB (f := 6) rfl ?_); refine goesL_ (some 20) rfl rfl Try.func6 (by kernel_rfl) rfl #[.slice A0_2 l0_2.length c0_2, .int .i64 t18] rfl (by (try simp only [zAA, zAB, zAC]); first | done | rfl | (simp only [zZ, zY]; rfl)) ?_; (with_reducible refine (laws_szStringS.calls k _ _ l0_2 t18 t19 _ ?side1 ?side2 A11.out).mono ?_); (case side1 => repeat (first | exact (yN HR0_2.out (by repeat (first | (with_reducible first | exact HB.out | apply zH | apply zF | apply zG | refine zI ?_ GE20.out) | exact HB.out))) | (with_reducible first | refine zT ?_ _ | refine zU ?_ _ | refine zV ?_))); (case side2 => exact HC0_2.out); rintro e w' ⟨rfl, ⟨nd, rfl⟩⟩; refine ⟨_, rfl, ?_⟩)); go_ret; exact ⟨by first | rfl | (simp <;> rfl) | (simp [*] <;> rfl), by repeat (first | (with_reducible first | exact HB.out | apply zH | apply zF | apply zG | refine zI ?_ GE20.out) | exact HB.out)⟩
   ·rw [if_neg c12] at H
    have c12b0 : decide (t19 < 0) = false := decide_eq_false c12; clear c12; obtain rfl := yM H; go_enter Try.func38, Try.ntmps38; go_wp2_with (first | ((with_reducible refine gate_dst (N := 2) rfl ?_); refine box_event ?hg (N := 2) ?hd (cs := #[.slice A0_0 l0_0.length c0_0, .slice A0_1 l0_1.length c0_1, .slice A0_2 l0_2.length c0_2, .int .i64 a0_3]) (t := 61) ?hr ?_; (case hd => rfl); (case hg => rfl); (case hr => first | (go_simp; done) | (go_simp; rfl)); intro gb20 hg w15 hbox hb; have n0_ := zA (zAD (by (with_reducible repeat first | exact HB.out | apply zH | apply zF | apply zG) <;> exact HB.out) hb); have n1_ := zA (hbox); have n2_ := zA ((by rw [hg]; exact (zAE (by (with_reducible repeat first | exact HB.out | apply zH | apply zF | apply zG) <;> exact HB.out)) : w.heap.size ≤ gb20)); have n3_ := zA ((by rw [hg]; exact (zAE (by (with_reducible repeat first | exact HB.out | apply zH | apply zF | apply zG) <;> exact HB.out)) : w.heap.size ≤ gb20)); clear HB; have HB := n0_; have BK20 := n1_; have GW20 := n2_; have GE20 := n3_; clear n0_ n1_ n2_ n3_; clear hb hbox hg; have hcz16_0 := yL BK20.out 0 (.slice A0_0 l0_0.length c0_0) rfl; have hcz16_1 := yL BK20.out 1 (.slice A0_1 l0_1.length c0_1) rfl; have hcz16_2 := yL BK20.out 2 (.slice A0_2 l0_2.length c0_2) rfl; have hcz16_3 := yL BK20.out 3 (.int .i64 a0_3) rfl; have hfz16_0 := zO BK20.out 0; have hfz16_1 := zO BK20.out 1; have hfz16_2 := zO BK20.out 2; have hfz16_3 := zO BK20.out 3) | ((with_reducible refine yB (f := 6) rfl ?_); refine goesL_ (some 8) rfl rfl Try.func6 (by kernel_rfl) rfl #[.slice A0_0 l0_0.length c0_0, .int .i64 a1] rfl (by (try simp only [zAA, zAB, zAC]); first | done | rfl | (simp only [zZ, zY]; rfl)) ?_; (with_reducible refine (laws_szStringS.calls k _ _ l0_0 a1 t17 _ ?side1 ?side2 A3.out).mono ?_); (case side1 => repeat (first | exact (yN HR0_0.out HB.out) | (with_reducible first | refine zT ?_ _ | refine zU ?_ _ | refine zV ?_))); (case side2 => exact HC0_0.out); rintro e w' ⟨rfl, ⟨nd, rfl⟩⟩; refine ⟨_, rfl, ?_⟩) | ((with_reducible refine yB (f := 6) rfl ?_); refine goesL_ (some 14) rfl rfl Try.func6 (by kernel_rfl) rfl #[.slice A0_1 l0_1.length c0_1, .int .i64 t17] rfl (by (try simp only [zAA, zAB, zAC]); first | done | rfl | (simp only [zZ, zY]; rfl)) ?_; (with_reducible refine (laws_szStringS.calls k _ _ l0_1 t17 t18 _ ?side1 ?side2 A7.out).mono ?_); (case side1 => repeat (first | exact (yN HR0_1.out (by repeat (first | (with_reducible first | exact HB.out | apply zH | apply zF | apply zG | refine zI ?_ GE20.out) | exact HB.out))) | (with_reducible first | refine zT ?_ _ | refine zU ?_ _ | refine zV ?_))); (case side2 => exact HC0_1.out); rintro e w' ⟨rfl, ⟨nd, rfl⟩⟩; refine ⟨_, rfl, ?_⟩) | ((with_reducible refine yB (f := 6) rfl ?_); refine goesL_ (some 20) rfl rfl Try.func6 (by kernel_rfl) rfl #[.slice A0_2 l0_2.length c0_2, .int .i64 t18] rfl (by (try simp only [zAA, zAB, zAC]); first | done | rfl | (simp only [zZ, zY]; rfl)) ?_; (with_reducible refine (laws_szStringS.calls k _ _ l0_2 t18 t19 _ ?side1 ?side2 A11.out).mono ?_); (case side1 => repeat (first | exact (yN HR0_2.out (by repeat (first | (with_reducible first | exact HB.out | apply zH | apply zF | apply zG | refine zI ?_ GE20.out) | exact HB.out))) | (with_reducible first | refine zT ?_ _ | refine zU ?_ _ | refine zV ?_))); (case side2 => exact HC0_2.out); rintro e w' ⟨rfl, ⟨nd, rfl⟩⟩; refine ⟨_, rfl, ?_⟩)); go_ret; exact ⟨by first | rfl | (simp <;> rfl) | (simp [*] <;> rfl), by repeat (first | (with_reducible first | exact HB.out | apply zH | apply zF | apply zG | refine zI ?_ GE20.out) | exact HB.out)⟩
def laws_szShownS.l0 : Nat → List (S61) → Int → Int → Option (Int)
 | 0, _, _, _ => none
 | k + 1, x0, x1, x5 => if x5 < (x0.length : Int) then (if 0 ≤ x5 then ((laws_szShown.f k ((rd_T61 x0 x5).f0) ((rd_T61 x0 x5).f1) ((rd_T61 x0 x5).f2) ((rd_T61 x0 x5).f3) x1).bind fun t10 => (if t10 < 0 then (some (-1)) else (laws_szShownS.l0 k x0 t10 (wrap64 (x5 + 1))))) else (none)) else (some x1)
def laws_szShownS.f (k : Nat) (l0 : List (S61)) (a1 : Int) : Option (Int) := if (wrap64 (a1 - (l0.length : Int))) < 0 then (some (-1)) else (laws_szShownS.l0 k l0 (wrap64 (a1 - (l0.length : Int))) 0)
theorem laws_szShownS.calls (k : Nat) (A0 : Option Addr) (c0 : Nat) (l0 : List (S61)) (a1 : Int) (r : Int) (w : World) (hr0 : Kd.C k61 w A0 l0.length l0) (hc0 : l0.length ≤ c0) (h : laws_szShownS.f k l0 a1 = some r) :
  Calls Try.prog 16 #[.slice A0 l0.length c0, .int .i64 a1] w fun e w' => e = .returned (.int .i64 r) ∧ Below w.heap.size w w' := by
 have hu61 := Try.underlying61; have HR0 := zA hr0; have HC0 := zA hc0; clear hr0 hc0; have HB := zA (Below.refl w.heap.size w); have H : (if (wrap64 (a1 - (l0.length : Int))) < 0 then (some (-1)) else (laws_szShownS.l0 k l0 (wrap64 (a1 - (l0.length : Int))) 0)) = some r := h; clear h
 by_cases c3 : (wrap64 (a1 - (l0.length : Int))) < 0
 ·rw [if_pos c3] at H
  have c3b0 : decide ((wrap64 (a1 - (l0.length : Int))) < 0) = true := zX c3; clear c3; obtain rfl := yM H; go_enter Try.func16, Try.ntmps16; go_wp2; go_ret; exact ⟨by first | rfl | (simp <;> rfl) | (simp [*] <;> rfl), by (with_reducible repeat first | exact HB.out | apply zH | apply zF | apply zG) <;> exact HB.out⟩
 ·rw [if_neg c3] at H
  have c3b0 : decide ((wrap64 (a1 - (l0.length : Int))) < 0) = false := decide_eq_false c3; clear c3; have H' := zA H; clear H; go_enter Try.func16, Try.ntmps16; go_wp2; go_loopg [1, 5] k (fun kq v1 v5 w' => ∃ (x1_1 : Int) (x5_1 : Int), v1 = .int .i64 x1_1 ∧ v5 = .int .i64 x5_1 ∧ Aside0 (laws_szShownS.l0 kq l0 x1_1 x5_1 = some r) ∧ Aside0 (kq ≤ k) ∧ Aside0 (Below w.heap.size w w'))
  case atStart => exact ⟨(wrap64 (a1 - (l0.length : Int))), (0), (by first | rfl | (simp; done) | (simp [*]; done) | (simp [bne]; done)), (by first | rfl | (simp; done) | (simp [*]; done) | (simp [bne]; done)), H', ⟨Nat.le_refl _⟩, ⟨by (with_reducible repeat first | exact HB.out | apply zH | apply zF | apply zG) <;> exact HB.out⟩⟩
  case round =>
   clear H'
   try clear c1
   try clear p2
   try clear c3
   try clear c3b0
   obtain ⟨x1_1, x5_1, rfl, rfl, HA, HK1, HB⟩ := hrel
   cases gk with
   | zero => exact absurd HA.out (by simp [laws_szShownS.l0])
   | succ k1 =>
    have H := HA.out; clear HA; simp only [laws_szShownS.l0] at H
    by_cases c4 : x5_1 < (l0.length : Int)
    ·rw [if_pos c4] at H
     have c4b0 : decide (x5_1 < (l0.length : Int)) = true := zX c4; clear c4
     by_cases c5 : 0 ≤ x5_1
     ·rw [if_pos c5] at H
      have c5b0 : decide (0 ≤ x5_1) = true := zX c5; clear c5; replace H := zAF H; obtain ⟨t10, A60, H⟩ := H; replace H : (if t10 < 0 then (some (-1)) else (laws_szShownS.l0 k1 l0 t10 (wrap64 (x5_1 + 1)))) = some r := H; have A6 := zA A60; clear A60
      by_cases c7 : t10 < 0
      ·rw [if_pos c7] at H
       have c7b0 : decide (t10 < 0) = true := zX c7; clear c7; obtain rfl := yM H; have p11 : 0 ≤ (x5_1 : Int) := zW (by first | (with_reducible assumption) | assumption); have q11 : x5_1 < (l0.length : Int) := zW (by first | (with_reducible assumption) | assumption); obtain ⟨ad11, A11_0, c11_0, A11_1, c11_1, A11_2, c11_2, e11, hx11_0, hx11_1, hx11_2, hx11_3, hl11_0, hi11_0, hl11_1, hi11_1, hl11_2, hi11_2⟩ := at_T61 HR0.out x5_1 p11 q11
       cases e11
       replace hx11_0 := (HB.out.cell (zB w _ hx11_0)).trans hx11_0; replace hx11_1 := (HB.out.cell (zB w _ hx11_1)).trans hx11_1; replace hx11_2 := (HB.out.cell (zB w _ hx11_2)).trans hx11_2; replace hx11_3 := (HB.out.cell (zB w _ hx11_3)).trans hx11_3; have HR11_0 := zA hi11_0; have HC11_0 := zA hl11_0; clear hi11_0 hl11_0; have HR11_1 := zA hi11_1; have HC11_1 := zA hl11_1; clear hi11_1 hl11_1; have HR11_2 := zA hi11_2; have HC11_2 := zA hl11_2; clear hi11_2 hl11_2; replace p11 := eq_true p11; replace q11 := eq_true q11; go_wp2_with (first | ((with_reducible refine yB (f := 38) rfl ?_); refine goesL_ (some 23) rfl rfl Try.func38 (by kernel_rfl) rfl #[.agg #[.slice A11_0 ((rd_T61 l0 x5_1).f0).length c11_0, .slice A11_1 ((rd_T61 l0 x5_1).f1).length c11_1, .slice A11_2 ((rd_T61 l0 x5_1).f2).length c11_2, .int .i64 ((rd_T61 l0 x5_1).f3)], .int .i64 x1_1] rfl (by (try simp only [zAA, zAB, zAC]); first | done | rfl | (simp only [zZ, zY]; rfl)) ?_; (with_reducible refine (laws_szShown.calls k1 _ _ ((rd_T61 l0 x5_1).f0) _ _ ((rd_T61 l0 x5_1).f1) _ _ ((rd_T61 l0 x5_1).f2) ((rd_T61 l0 x5_1).f3) x1_1 t10 _ ?side1 ?side2 ?side3 ?side4 ?side5 ?side6 A6.out).mono ?_); (case side1 => repeat (first | exact (yN HR11_0.out HB.out) | (with_reducible first | refine zT ?_ _ | refine zU ?_ _ | refine zV ?_))); (case side2 => exact HC11_0.out); (case side3 => repeat (first | exact (yN HR11_1.out HB.out) | (with_reducible first | refine zT ?_ _ | refine zU ?_ _ | refine zV ?_))); (case side4 => exact HC11_1.out); (case side5 => repeat (first | exact (yN HR11_2.out HB.out) | (with_reducible first | refine zT ?_ _ | refine zU ?_ _ | refine zV ?_))); (case side6 => exact HC11_2.out); rintro e w8 ⟨rfl, hb⟩; refine ⟨_, rfl, ?_⟩; have n0_ := zA (zAD (by (with_reducible repeat first | exact HB.out | apply zH | apply zF | apply zG) <;> exact HB.out) hb); clear HB; have HB := n0_; clear n0_; (try clear hb))); go_ret; exact ⟨by first | rfl | (simp <;> rfl) | (simp [*] <;> rfl), by (with_reducible repeat first | exact HB.out | apply zH | apply zF | apply zG) <;> exact HB.out⟩
      ·rw [if_neg c7] at H
       have c7b0 : decide (t10 < 0) = false := decide_eq_false c7; clear c7; have H' := zA H; clear H; have p11 : 0 ≤ (x5_1 : Int) := zW (by first | (with_reducible assumption) | assumption); have q11 : x5_1 < (l0.length : Int) := zW (by first | (with_reducible assumption) | assumption); obtain ⟨ad11, A11_0, c11_0, A11_1, c11_1, A11_2, c11_2, e11, hx11_0, hx11_1, hx11_2, hx11_3, hl11_0, hi11_0, hl11_1, hi11_1, hl11_2, hi11_2⟩ := at_T61 HR0.out x5_1 p11 q11
       cases e11
       replace hx11_0 := (HB.out.cell (zB w _ hx11_0)).trans hx11_0; replace hx11_1 := (HB.out.cell (zB w _ hx11_1)).trans hx11_1; replace hx11_2 := (HB.out.cell (zB w _ hx11_2)).trans hx11_2; replace hx11_3 := (HB.out.cell (zB w _ hx11_3)).trans hx11_3; have HR11_0 := zA hi11_0; have HC11_0 := zA hl11_0; clear hi11_0 hl11_0; have HR11_1 := zA hi11_1; have HC11_1 := zA hl11_1; clear hi11_1 hl11_1; have HR11_2 := zA hi11_2; have HC11_2 := zA hl11_2; clear hi11_2 hl11_2; replace p11 := eq_true p11; replace q11 := eq_true q11; go_wp2_with (first | ((with_reducible refine yB (f := 38) rfl ?_); refine goesL_ (some 23) rfl rfl Try.func38 (by kernel_rfl) rfl #[.agg #[.slice A11_0 ((rd_T61 l0 x5_1).f0).length c11_0, .slice A11_1 ((rd_T61 l0 x5_1).f1).length c11_1, .slice A11_2 ((rd_T61 l0 x5_1).f2).length c11_2, .int .i64 ((rd_T61 l0 x5_1).f3)], .int .i64 x1_1] rfl (by (try simp only [zAA, zAB, zAC]); first | done | rfl | (simp only [zZ, zY]; rfl)) ?_; (with_reducible refine (laws_szShown.calls k1 _ _ ((rd_T61 l0 x5_1).f0) _ _ ((rd_T61 l0 x5_1).f1) _ _ ((rd_T61 l0 x5_1).f2) ((rd_T61 l0 x5_1).f3) x1_1 t10 _ ?side1 ?side2 ?side3 ?side4 ?side5 ?side6 A6.out).mono ?_); (case side1 => repeat (first | exact (yN HR11_0.out HB.out) | (with_reducible first | refine zT ?_ _ | refine zU ?_ _ | refine zV ?_))); (case side2 => exact HC11_0.out); (case side3 => repeat (first | exact (yN HR11_1.out HB.out) | (with_reducible first | refine zT ?_ _ | refine zU ?_ _ | refine zV ?_))); (case side4 => exact HC11_1.out); (case side5 => repeat (first | exact (yN HR11_2.out HB.out) | (with_reducible first | refine zT ?_ _ | refine zU ?_ _ | refine zV ?_))); (case side6 => exact HC11_2.out); rintro e w9 ⟨rfl, hb⟩; refine ⟨_, rfl, ?_⟩; have n0_ := zA (zAD (by (with_reducible repeat first | exact HB.out | apply zH | apply zF | apply zG) <;> exact HB.out) hb); clear HB; have HB := n0_; clear n0_; (try clear hb))); go_roundg k1
       case measure => have := HK1.out; omega
       case rel => exact ⟨(t10), (wrap64 (x5_1 + 1)), (by first | rfl | (simp; done) | (simp [*]; done) | (simp [bne]; done)), (by first | rfl | (simp; done) | (simp [*]; done) | (simp [bne]; done)), H', ⟨by have := HK1.out; omega⟩, ⟨by (with_reducible repeat first | exact HB.out | apply zH | apply zF | apply zG) <;> exact HB.out⟩⟩
     ·rw [if_neg c5] at H
      exact absurd H (by simp)
    ·rw [if_neg c4] at H
     have c4b0 : decide (x5_1 < (l0.length : Int)) = false := decide_eq_false c4; clear c4; obtain rfl := yM H; go_wp2; go_ret; exact ⟨by first | rfl | (simp <;> rfl) | (simp [*] <;> rfl), by (with_reducible repeat first | exact HB.out | apply zH | apply zF | apply zG) <;> exact HB.out⟩
def spec_l5Text.f (a0 : ByteArray) : Option (Bool) := some (decide ((a0.size : Int) ≤ 12))
theorem spec_l5Text.calls (a0 : ByteArray) (r : Bool) (w : World) (h : spec_l5Text.f a0 = some r) :
  Calls Try.prog 76 #[.string a0] w fun e w' => e = .returned (.bool r) ∧ Drawn0 w w' := by
 have H : (some (decide ((a0.size : Int) ≤ 12))) = some r := h; clear h; obtain rfl := yM H; go_enter Try.func76, Try.ntmps76; go_wp2; go_ret; exact ⟨by first | rfl | (simp; done) | (simp [*]; done) | (simp [bne]; done), by repeat (first | exact Drawn0.refl _ | apply Drawn0.step)⟩
def spec_l5Pair.f (a0 : ByteArray) (a1 : ByteArray) : Option (Bool) := (spec_l5Text.f a0).bind fun t10 => (if t10 = true then ((spec_l5Text.f a1).bind fun t11 => (if t11 = true then (some (a0.toList != ([] : List UInt8))) else (some false))) else (some false))
theorem spec_l5Pair.calls (a0 : ByteArray) (a1 : ByteArray) (r : Bool) (w : World) (h : spec_l5Pair.f a0 a1 = some r) :
  Calls Try.prog 57 #[.string a0, .string a1] w fun e w' => e = .returned (.bool r) ∧ Drawn0 w w' := by
 have H : ((spec_l5Text.f a0).bind fun t10 => (if t10 = true then ((spec_l5Text.f a1).bind fun t11 => (if t11 = true then (some (a0.toList != ([] : List UInt8))) else (some false))) else (some false))) = some r := h; clear h; replace H := zAF H; obtain ⟨t10, A30, H⟩ := H; replace H : (if t10 = true then ((spec_l5Text.f a1).bind fun t11 => (if t11 = true then (some (a0.toList != ([] : List UInt8))) else (some false))) else (some false)) = some r := H; have A3 := zA A30; clear A30
 by_cases c4 : t10 = true
 ·subst c4
  have H1 : ((spec_l5Text.f a1).bind fun t11 => (if t11 = true then (some (a0.toList != ([] : List UInt8))) else (some false))) = some r := by rw [if_pos rfl] at H; exact H
  clear H; have H := H1; clear H1; replace H := zAF H; obtain ⟨t11, A50, H⟩ := H; replace H : (if t11 = true then (some (a0.toList != ([] : List UInt8))) else (some false)) = some r := H; have A5 := zA A50; clear A50
  by_cases c6 : t11 = true
  ·subst c6
   have H1 : (some (a0.toList != ([] : List UInt8))) = some r := by rw [if_pos rfl] at H; exact H
   clear H; have H := H1; clear H1; obtain rfl := yM H; go_enter Try.func57, Try.ntmps57; go_wp2_with (first | ((with_reducible refine yB (f := 76) rfl ?_); refine goesL_ (some 6) rfl rfl Try.func76 (by kernel_rfl) rfl #[.string a0] rfl (by (try simp only [zAA, zAB, zAC]); first | done | rfl) ?_; (with_reducible refine (spec_l5Text.calls a0 true _ A3.out).mono ?_); rintro e w' ⟨rfl, ⟨nd, rfl⟩⟩; refine ⟨_, rfl, ?_⟩) | (go_at_call 76; (with_reducible refine (spec_l5Text.calls a1 true _ A5.out).mono ?_); rintro e w' ⟨rfl, ⟨nd, rfl⟩⟩)); go_ret; exact ⟨by first | rfl | (simp; done) | (simp [*]; done) | (simp [bne]; done), by repeat (first | exact Drawn0.refl _ | apply Drawn0.step)⟩
  ·replace c6 := yO c6
   subst c6; have H1 : (some false) = some r := by rw [if_neg (show ¬ (false = true) by decide)] at H; exact H
   clear H; have H := H1; clear H1; obtain rfl := yM H; go_enter Try.func57, Try.ntmps57; go_wp2_with (first | ((with_reducible refine yB (f := 76) rfl ?_); refine goesL_ (some 6) rfl rfl Try.func76 (by kernel_rfl) rfl #[.string a0] rfl (by (try simp only [zAA, zAB, zAC]); first | done | rfl) ?_; (with_reducible refine (spec_l5Text.calls a0 true _ A3.out).mono ?_); rintro e w' ⟨rfl, ⟨nd, rfl⟩⟩; refine ⟨_, rfl, ?_⟩) | (go_at_call 76; (with_reducible refine (spec_l5Text.calls a1 false _ A5.out).mono ?_); rintro e w' ⟨rfl, ⟨nd, rfl⟩⟩)); go_ret; exact ⟨by first | rfl | (simp; done) | (simp [*]; done) | (simp [bne]; done), by repeat (first | exact Drawn0.refl _ | apply Drawn0.step)⟩
 ·replace c4 := yO c4
  subst c4; have H1 : (some false) = some r := by rw [if_neg (show ¬ (false = true) by decide)] at H; exact H
  clear H; have H := H1; clear H1; obtain rfl := yM H; go_enter Try.func57, Try.ntmps57; go_wp2_with (first | ((with_reducible refine yB (f := 76) rfl ?_); refine goesL_ (some 6) rfl rfl Try.func76 (by kernel_rfl) rfl #[.string a0] rfl (by (try simp only [zAA, zAB, zAC]); first | done | rfl) ?_; (with_reducible refine (spec_l5Text.calls a0 false _ A3.out).mono ?_); rintro e w' ⟨rfl, ⟨nd, rfl⟩⟩; refine ⟨_, rfl, ?_⟩)); go_ret; exact ⟨by first | rfl | (simp; done) | (simp [*]; done) | (simp [bne]; done), by repeat (first | exact Drawn0.refl _ | apply Drawn0.step)⟩
def spec_l1In.f (a0 : Int) (a1 : Int) (a2 : Int) : Option (Bool) := if a0 ≥ a1 then (some (decide (a0 ≤ a2))) else (some false)
theorem spec_l1In.calls (a0 : Int) (a1 : Int) (a2 : Int) (r : Bool) (w : World) (h : spec_l1In.f a0 a1 a2 = some r) :
  Calls Try.prog 58 #[.int .i64 a0, .int .i64 a1, .int .i64 a2] w fun e w' => e = .returned (.bool r) ∧ Drawn0 w w' := by
 have H : (if a0 ≥ a1 then (some (decide (a0 ≤ a2))) else (some false)) = some r := h; clear h
 by_cases c4 : a0 ≥ a1
 ·rw [if_pos c4] at H
  have c4b0 : decide (a1 ≤ a0) = true := zX c4; clear c4; obtain rfl := yM H; go_enter Try.func58, Try.ntmps58; go_wp2; go_ret; exact ⟨by first | rfl | (simp; done) | (simp [*]; done) | (simp [bne]; done), by repeat (first | exact Drawn0.refl _ | apply Drawn0.step)⟩
 ·rw [if_neg c4] at H
  have c4b0 : decide (a1 ≤ a0) = false := decide_eq_false c4; clear c4; obtain rfl := yM H; go_enter Try.func58, Try.ntmps58; go_wp2; go_ret; exact ⟨by first | rfl | (simp; done) | (simp [*]; done) | (simp [bne]; done), by repeat (first | exact Drawn0.refl _ | apply Drawn0.step)⟩
mutual
def spec_GoodShown.l0 : Nat → List ByteArray → Int → Int → List ByteArray → List ByteArray → List ByteArray → Int → Option (Bool)
 | 0, _, _, _, _, _, _, _ => none
 | k + 1, x9, x10, x11, x12, x13, x14, x15 => if x11 < x10 then (if 0 ≤ x11 then (if x11 < (x9.length : Int) then (if x11 ≥ (x13.length : Int) then (some false) else (if x11 < (x13.length : Int) then ((spec_l5Pair.f (rdOf ByteArray.empty x9 x11) (rdOf ByteArray.empty x13 x11)).bind fun t16 => (if t16 = true then (if x11 > 0 then (if 0 ≤ (wrap64 (x11 - 1)) then (if (wrap64 (x11 - 1)) < (x12.length : Int) then (if ((Op.bytesLess ((rdOf ByteArray.empty x12 (wrap64 (x11 - 1))).toList) ((rdOf ByteArray.empty x9 x11).toList)) = true) then (spec_GoodShown.l0 k x9 x10 (wrap64 (x11 + 1)) x12 x13 x14 x15) else (some false)) else (none)) else (none)) else (spec_GoodShown.l0 k x9 x10 (wrap64 (x11 + 1)) x12 x13 x14 x15)) else (some false))) else (none))) else (none)) else (none)) else (spec_GoodShown.l1 k x14 (x14.length : Int) 0 x12 x13 x14 x15)
def spec_GoodShown.l1 : Nat → List ByteArray → Int → Int → List ByteArray → List ByteArray → List ByteArray → Int → Option (Bool)
 | 0, _, _, _, _, _, _, _ => none
 | k + 1, x47, x48, x49, x12, x13, x14, x15 => if x49 < x48 then (if 0 ≤ x49 then (if x49 < (x47.length : Int) then (if ((rdOf ByteArray.empty x47 x49).size : Int) = 4 then (spec_GoodShown.l1 k x47 x48 (wrap64 (x49 + 1)) x12 x13 x14 x15) else (some false)) else (none)) else (none)) else (if (x12.length : Int) ≤ 4 then (if (x13.length : Int) = (x12.length : Int) then (if (x14.length : Int) = 0 then ((spec_l1In.f x15 0 (x12.length : Int)).bind fun t17 => (some t17)) else (if (x14.length : Int) = (wrap64 ((x12.length : Int) + 1)) then ((spec_l1In.f x15 0 (x12.length : Int)).bind fun t18 => (some t18)) else (some false))) else (some false)) else (some false))
end
def spec_GoodShown.f (k : Nat) (l0_0 : List ByteArray) (l0_1 : List ByteArray) (l0_2 : List ByteArray) (a0_3 : Int) : Option (Bool) := spec_GoodShown.l0 k l0_0 (l0_0.length : Int) 0 l0_0 l0_1 l0_2 a0_3
theorem spec_GoodShown.calls (k : Nat) (A0_0 : Option Addr) (c0_0 : Nat) (l0_0 : List ByteArray) (A0_1 : Option Addr) (c0_1 : Nat) (l0_1 : List ByteArray) (A0_2 : Option Addr) (c0_2 : Nat) (l0_2 : List ByteArray) (a0_3 : Int) (r : Bool) (w : World) (hr0_0 : Kd.C Kd.string w A0_0 l0_0.length l0_0) (hc0_0 : l0_0.length ≤ c0_0) (hr0_1 : Kd.C Kd.string w A0_1 l0_1.length l0_1) (hc0_1 : l0_1.length ≤ c0_1) (hr0_2 : Kd.C Kd.string w A0_2 l0_2.length l0_2) (hc0_2 : l0_2.length ≤ c0_2) (h : spec_GoodShown.f k l0_0 l0_1 l0_2 a0_3 = some r) :
  Calls Try.prog 56 #[.agg #[.slice A0_0 l0_0.length c0_0, .slice A0_1 l0_1.length c0_1, .slice A0_2 l0_2.length c0_2, .int .i64 a0_3]] w fun e w' => e = .returned (.bool r) ∧ Below w.heap.size w w' := by
 have hu38 := Try.underlying38; have HR0_0 := zA hr0_0; have HC0_0 := zA hc0_0; clear hr0_0 hc0_0; have HR0_1 := zA hr0_1; have HC0_1 := zA hc0_1; clear hr0_1 hc0_1; have HR0_2 := zA hr0_2; have HC0_2 := zA hc0_2; clear hr0_2 hc0_2; have HB := zA (Below.refl w.heap.size w); have H : (spec_GoodShown.l0 k l0_0 (l0_0.length : Int) 0 l0_0 l0_1 l0_2 a0_3) = some r := h; clear h; have H' := zA H; clear H; go_enter Try.func56, Try.ntmps56; go_wp2_with (first | ((with_reducible refine gate_dst (N := 1) rfl ?_); (try (refine gate_guard (by rfl) ?_; dsimp only)); refine box_event ?hg (N := 1) ?hd (cs := #[.slice A0_0 l0_0.length c0_0, .slice A0_1 l0_1.length c0_1, .slice A0_2 l0_2.length c0_2, .int .i64 a0_3]) (t := 38) ?hr ?_; (case hd => rfl); (case hg => rfl); (case hr => first | (go_simp; done) | (go_simp; rfl)); intro gb37 hg w2 hbox hb; have n0_ := zA (zAD (by (with_reducible repeat first | exact HB.out | apply zH | apply zF | apply zG) <;> exact HB.out) hb); have n1_ := zA (hbox); have n2_ := zA ((by rw [hg]; exact (zAE (by (with_reducible repeat first | exact HB.out | apply zH | apply zF | apply zG) <;> exact HB.out)) : w.heap.size ≤ gb37)); have n3_ := zA ((by rw [hg]; exact (zAE (by (with_reducible repeat first | exact HB.out | apply zH | apply zF | apply zG) <;> exact HB.out)) : w.heap.size ≤ gb37)); clear HB; have HB := n0_; have BK37 := n1_; have GW37 := n2_; have GE37 := n3_; clear n0_ n1_ n2_ n3_; clear hb hbox hg; have hcz3_0 := yL BK37.out 0 (.slice A0_0 l0_0.length c0_0) rfl; have hcz3_1 := yL BK37.out 1 (.slice A0_1 l0_1.length c0_1) rfl; have hcz3_2 := yL BK37.out 2 (.slice A0_2 l0_2.length c0_2) rfl; have hcz3_3 := yL BK37.out 3 (.int .i64 a0_3) rfl; have hfz3_0 := zO BK37.out 0; have hfz3_1 := zO BK37.out 1; have hfz3_2 := zO BK37.out 2; have hfz3_3 := zO BK37.out 3)); go_loopg [11] k (fun kq v11 w' => ∃ (x11_1 : Int), v11 = .int .i64 x11_1 ∧ Aside0 (spec_GoodShown.l0 kq l0_0 (l0_0.length : Int) x11_1 l0_0 l0_1 l0_2 a0_3 = some r) ∧ Aside0 (kq ≤ k) ∧ Aside0 (w'.heap[gb37]? = some (.cells #[(.slice A0_0 l0_0.length c0_0), (.slice A0_1 l0_1.length c0_1), (.slice A0_2 l0_2.length c0_2), .int .i64 a0_3] 38 (0, 0))) ∧ Aside0 (Below w.heap.size w w'))
 case atStart => exact ⟨(0), (by first | rfl | (simp; done) | (simp [*]; done) | (simp [bne]; done)), H', ⟨Nat.le_refl _⟩, ⟨by (with_reducible repeat (first | refine zL ?_ _ | refine zN ?_ | refine zM ?_ _)); exact BK37.out⟩, ⟨by repeat (first | (with_reducible first | exact HB.out | apply zH | apply zF | apply zG | refine zI ?_ GE37.out) | exact HB.out)⟩⟩
 case round =>
  clear H'
  try clear p2
  try clear hcz3_0
  try clear hcz3_1
  try clear hcz3_2
  try clear hcz3_3
  try clear hfz3_0
  try clear hfz3_1
  try clear hfz3_2
  try clear hfz3_3
  obtain ⟨x11_1, rfl, HA, HK1, BK37, HB⟩ := hrel
  cases gk with
  | zero => exact absurd HA.out (by simp [spec_GoodShown.l0])
  | succ k1 =>
   have H := HA.out; clear HA; simp only [spec_GoodShown.l0] at H
   by_cases c4 : x11_1 < (l0_0.length : Int)
   ·rw [if_pos c4] at H
    have c4b0 : decide (x11_1 < (l0_0.length : Int)) = true := zX c4; clear c4
    by_cases c5 : 0 ≤ x11_1
    ·rw [if_pos c5] at H
     have c5b0 : decide (0 ≤ x11_1) = true := zX c5; clear c5
     by_cases c6 : x11_1 < (l0_0.length : Int)
     ·rw [if_pos c6] at H
      have c6b0 : decide (x11_1 < (l0_0.length : Int)) = true := zX c6; clear c6
      by_cases c7 : x11_1 ≥ (l0_1.length : Int)
      ·rw [if_pos c7] at H
       have c7b0 : decide ((l0_1.length : Int) ≤ x11_1) = true := zX c7; clear c7; obtain rfl := yM H; have p39 : 0 ≤ (x11_1 : Int) := zW (by first | (with_reducible assumption) | assumption); have q39 : x11_1 < (l0_0.length : Int) := zW (by first | (with_reducible assumption) | assumption); obtain ⟨ad39, e39, hx39_0⟩ := Kd.at_string HR0_0.out x11_1 p39 q39
       cases e39
       replace hx39_0 := (HB.out.cell (zB w _ hx39_0)).trans hx39_0; replace p39 := eq_true p39; replace q39 := eq_true q39; have hcz8_0 := yL BK37.out 0 (.slice (some ad39) l0_0.length c0_0) rfl; have hcz8_1 := yL BK37.out 1 (.slice A0_1 l0_1.length c0_1) rfl; have hcz8_2 := yL BK37.out 2 (.slice A0_2 l0_2.length c0_2) rfl; have hcz8_3 := yL BK37.out 3 (.int .i64 a0_3) rfl; have hfz8_0 := zO BK37.out 0; have hfz8_1 := zO BK37.out 1; have hfz8_2 := zO BK37.out 2; have hfz8_3 := zO BK37.out 3; go_wp2; go_ret; exact ⟨by first | rfl | (simp <;> rfl) | (simp [*] <;> rfl), by repeat (first | (with_reducible first | exact HB.out | apply zH | apply zF | apply zG | refine zI ?_ GE37.out) | exact HB.out)⟩
      ·rw [if_neg c7] at H
       have c7b0 : decide ((l0_1.length : Int) ≤ x11_1) = false := decide_eq_false c7; clear c7
       by_cases c9 : x11_1 < (l0_1.length : Int)
       ·rw [if_pos c9] at H
        have c9b0 : decide (x11_1 < (l0_1.length : Int)) = true := zX c9; clear c9; replace H := zAF H; obtain ⟨t40, A41, H⟩ := H; replace H : (if t40 = true then (if x11_1 > 0 then (if 0 ≤ (wrap64 (x11_1 - 1)) then (if (wrap64 (x11_1 - 1)) < (l0_0.length : Int) then (if ((Op.bytesLess ((rdOf ByteArray.empty l0_0 (wrap64 (x11_1 - 1))).toList) ((rdOf ByteArray.empty l0_0 x11_1).toList)) = true) then (spec_GoodShown.l0 k1 l0_0 (l0_0.length : Int) (wrap64 (x11_1 + 1)) l0_0 l0_1 l0_2 a0_3) else (some false)) else (none)) else (none)) else (spec_GoodShown.l0 k1 l0_0 (l0_0.length : Int) (wrap64 (x11_1 + 1)) l0_0 l0_1 l0_2 a0_3)) else (some false)) = some r := H; have A10 := zA A41; clear A41
        by_cases c11 : t40 = true
        ·subst c11
         have H1 : (if x11_1 > 0 then (if 0 ≤ (wrap64 (x11_1 - 1)) then (if (wrap64 (x11_1 - 1)) < (l0_0.length : Int) then (if ((Op.bytesLess ((rdOf ByteArray.empty l0_0 (wrap64 (x11_1 - 1))).toList) ((rdOf ByteArray.empty l0_0 x11_1).toList)) = true) then (spec_GoodShown.l0 k1 l0_0 (l0_0.length : Int) (wrap64 (x11_1 + 1)) l0_0 l0_1 l0_2 a0_3) else (some false)) else (none)) else (none)) else (spec_GoodShown.l0 k1 l0_0 (l0_0.length : Int) (wrap64 (x11_1 + 1)) l0_0 l0_1 l0_2 a0_3)) = some r := by rw [if_pos rfl] at H; exact H
         clear H; have H := H1; clear H1
         by_cases c12 : x11_1 > 0
         ·rw [if_pos c12] at H
          have c12b0 : decide (0 < x11_1) = true := zX c12; clear c12; obtain ⟨ji13, hji13⟩ : ∃ j_ : Int, (wrap64 (x11_1 - 1)) = j_ := ⟨_, rfl⟩; replace H : (if 0 ≤ (ji13) then (if (ji13) < (l0_0.length : Int) then (if ((Op.bytesLess ((rdOf ByteArray.empty l0_0 (ji13)).toList) ((rdOf ByteArray.empty l0_0 x11_1).toList)) = true) then (spec_GoodShown.l0 k1 l0_0 (l0_0.length : Int) (wrap64 (x11_1 + 1)) l0_0 l0_1 l0_2 a0_3) else (some false)) else (none)) else (none)) = some r := by first | (rw [hji13] at H; exact H) | (simp only [hji13] at H ⊢; exact H)
          (try rw [hji13] at A10); have hji13w : (IntKind.i64.wrap (x11_1 - 1)) = ji13 := (i64_w _).trans hji13
          by_cases c14 : 0 ≤ (ji13)
          ·rw [if_pos c14] at H
           have c14b0 : decide (0 ≤ (ji13)) = true := zX c14; clear c14
           by_cases c15 : (ji13) < (l0_0.length : Int)
           ·rw [if_pos c15] at H
            have c15b0 : decide ((ji13) < (l0_0.length : Int)) = true := zX c15; clear c15
            by_cases c16 : ((Op.bytesLess ((rdOf ByteArray.empty l0_0 (ji13)).toList) ((rdOf ByteArray.empty l0_0 x11_1).toList)) = true)
            ·rw [if_pos c16] at H
             have c16b0 : (Op.bytesLess ((rdOf ByteArray.empty l0_0 (ji13)).toList) ((rdOf ByteArray.empty l0_0 x11_1).toList)) = true := c16; clear c16; have H' := zA H; clear H; have p39 : 0 ≤ (x11_1 : Int) := zW (by first | (with_reducible assumption) | assumption); have q39 : x11_1 < (l0_0.length : Int) := zW (by first | (with_reducible assumption) | assumption); obtain ⟨ad39, e39, hx39_0⟩ := Kd.at_string HR0_0.out x11_1 p39 q39
             cases e39
             replace hx39_0 := (HB.out.cell (zB w _ hx39_0)).trans hx39_0; replace p39 := eq_true p39; replace q39 := eq_true q39; have hcz17_0 := yL BK37.out 0 (.slice (some ad39) l0_0.length c0_0) rfl; have hcz17_1 := yL BK37.out 1 (.slice A0_1 l0_1.length c0_1) rfl; have hcz17_2 := yL BK37.out 2 (.slice A0_2 l0_2.length c0_2) rfl; have hcz17_3 := yL BK37.out 3 (.int .i64 a0_3) rfl; have hfz17_0 := zO BK37.out 0; have hfz17_1 := zO BK37.out 1; have hfz17_2 := zO BK37.out 2; have hfz17_3 := zO BK37.out 3; have p42 : 0 ≤ (x11_1 : Int) := zW (by first | (with_reducible assumption) | assumption); have q42 : x11_1 < (l0_1.length : Int) := zW (by first | (with_reducible assumption) | assumption); obtain ⟨ad42, e42, hx42_0⟩ := Kd.at_string HR0_1.out x11_1 p42 q42
             cases e42
             replace hx42_0 := (HB.out.cell (zB w _ hx42_0)).trans hx42_0; replace p42 := eq_true p42; replace q42 := eq_true q42; go_wp2_with (first | (go_at_call 57; (with_reducible refine (spec_l5Pair.calls (rdOf ByteArray.empty l0_0 x11_1) (rdOf ByteArray.empty l0_1 x11_1) true _ A10.out).mono ?_); rintro e w' ⟨rfl, ⟨nd, rfl⟩⟩; have p43 : 0 ≤ ((ji13) : Int) := zW (by first | (with_reducible assumption) | assumption); have q43 : (ji13) < (l0_0.length : Int) := zW (by first | (with_reducible assumption) | assumption); obtain ⟨ad43, e43, hx43_0⟩ := Kd.at_string HR0_0.out (ji13) p43 q43; obtain rfl : ad39 = ad43 := (by injection e43); replace hx43_0 := (HB.out.cell (zB w _ hx43_0)).trans hx43_0; replace p43 := eq_true p43; replace q43 := eq_true q43)); go_roundg k1
             case measure => have := HK1.out; omega
             case rel => exact ⟨(wrap64 (x11_1 + 1)), (by first | rfl | (simp; done) | (simp [*]; done) | (simp [bne]; done)), H', ⟨by have := HK1.out; omega⟩, ⟨by (with_reducible repeat (first | refine zL ?_ _ | refine zN ?_ | refine zM ?_ _)); exact BK37.out⟩, ⟨by repeat (first | (with_reducible first | exact HB.out | apply zH | apply zF | apply zG | refine zI ?_ GE37.out) | exact HB.out)⟩⟩
            ·rw [if_neg c16] at H
             have c16b0 : (Op.bytesLess ((rdOf ByteArray.empty l0_0 (ji13)).toList) ((rdOf ByteArray.empty l0_0 x11_1).toList)) = false := by simpa using c16
             clear c16; obtain rfl := yM H; have p39 : 0 ≤ (x11_1 : Int) := zW (by first | (with_reducible assumption) | assumption); have q39 : x11_1 < (l0_0.length : Int) := zW (by first | (with_reducible assumption) | assumption); obtain ⟨ad39, e39, hx39_0⟩ := Kd.at_string HR0_0.out x11_1 p39 q39
             cases e39
             replace hx39_0 := (HB.out.cell (zB w _ hx39_0)).trans hx39_0; replace p39 := eq_true p39; replace q39 := eq_true q39; have hcz18_0 := yL BK37.out 0 (.slice (some ad39) l0_0.length c0_0) rfl; have hcz18_1 := yL BK37.out 1 (.slice A0_1 l0_1.length c0_1) rfl; have hcz18_2 := yL BK37.out 2 (.slice A0_2 l0_2.length c0_2) rfl; have hcz18_3 := yL BK37.out 3 (.int .i64 a0_3) rfl; have hfz18_0 := zO BK37.out 0; have hfz18_1 := zO BK37.out 1; have hfz18_2 := zO BK37.out 2; have hfz18_3 := zO BK37.out 3; have p42 : 0 ≤ (x11_1 : Int) := zW (by first | (with_reducible assumption) | assumption); have q42 : x11_1 < (l0_1.length : Int) := zW (by first | (with_reducible assumption) | assumption); obtain ⟨ad42, e42, hx42_0⟩ := Kd.at_string HR0_1.out x11_1 p42 q42
             cases e42
             replace hx42_0 := (HB.out.cell (zB w _ hx42_0)).trans hx42_0; replace p42 := eq_true p42; replace q42 := eq_true q42; go_wp2_with (first | (go_at_call 57; (with_reducible refine (spec_l5Pair.calls (rdOf ByteArray.empty l0_0 x11_1) (rdOf ByteArray.empty l0_1 x11_1) true _ A10.out).mono ?_); rintro e w' ⟨rfl, ⟨nd, rfl⟩⟩; have p43 : 0 ≤ ((ji13) : Int) := zW (by first | (with_reducible assumption) | assumption); have q43 : (ji13) < (l0_0.length : Int) := zW (by first | (with_reducible assumption) | assumption); obtain ⟨ad43, e43, hx43_0⟩ := Kd.at_string HR0_0.out (ji13) p43 q43; obtain rfl : ad39 = ad43 := (by injection e43); replace hx43_0 := (HB.out.cell (zB w _ hx43_0)).trans hx43_0; replace p43 := eq_true p43; replace q43 := eq_true q43)); go_ret; exact ⟨by first | rfl | (simp [errW_none, errW_some] <;> rfl) | (simp only [← hji13]; first | rfl | (simp [errW_none, errW_some] <;> rfl)) | (simp [*, errW_none, errW_some] <;> rfl), by repeat (first | (with_reducible first | exact HB.out | apply zH | apply zF | apply zG | refine zI ?_ GE37.out) | exact HB.out)⟩
           ·rw [if_neg c15] at H
            exact absurd H (by simp)
          ·rw [if_neg c14] at H
           exact absurd H (by simp)
         ·rw [if_neg c12] at H
          have c12b0 : decide (0 < x11_1) = false := decide_eq_false c12; clear c12; have H' := zA H; clear H; have p39 : 0 ≤ (x11_1 : Int) := zW (by first | (with_reducible assumption) | assumption); have q39 : x11_1 < (l0_0.length : Int) := zW (by first | (with_reducible assumption) | assumption); obtain ⟨ad39, e39, hx39_0⟩ := Kd.at_string HR0_0.out x11_1 p39 q39
          cases e39
          replace hx39_0 := (HB.out.cell (zB w _ hx39_0)).trans hx39_0; replace p39 := eq_true p39; replace q39 := eq_true q39; have hcz19_0 := yL BK37.out 0 (.slice (some ad39) l0_0.length c0_0) rfl; have hcz19_1 := yL BK37.out 1 (.slice A0_1 l0_1.length c0_1) rfl; have hcz19_2 := yL BK37.out 2 (.slice A0_2 l0_2.length c0_2) rfl; have hcz19_3 := yL BK37.out 3 (.int .i64 a0_3) rfl; have hfz19_0 := zO BK37.out 0; have hfz19_1 := zO BK37.out 1; have hfz19_2 := zO BK37.out 2; have hfz19_3 := zO BK37.out 3; have p42 : 0 ≤ (x11_1 : Int) := zW (by first | (with_reducible assumption) | assumption); have q42 : x11_1 < (l0_1.length : Int) := zW (by first | (with_reducible assumption) | assumption); obtain ⟨ad42, e42, hx42_0⟩ := Kd.at_string HR0_1.out x11_1 p42 q42
          cases e42
          replace hx42_0 := (HB.out.cell (zB w _ hx42_0)).trans hx42_0; replace p42 := eq_true p42; replace q42 := eq_true q42; go_wp2_with (first | (go_at_call 57; (with_reducible refine (spec_l5Pair.calls (rdOf ByteArray.empty l0_0 x11_1) (rdOf ByteArray.empty l0_1 x11_1) true _ A10.out).mono ?_); rintro e w' ⟨rfl, ⟨nd, rfl⟩⟩)); go_roundg k1
          case measure => have := HK1.out; omega
          case rel => exact ⟨(wrap64 (x11_1 + 1)), (by first | rfl | (simp; done) | (simp [*]; done) | (simp [bne]; done)), H', ⟨by have := HK1.out; omega⟩, ⟨by (with_reducible repeat (first | refine zL ?_ _ | refine zN ?_ | refine zM ?_ _)); exact BK37.out⟩, ⟨by repeat (first | (with_reducible first | exact HB.out | apply zH | apply zF | apply zG | refine zI ?_ GE37.out) | exact HB.out)⟩⟩
        ·replace c11 := yO c11
         subst c11; have H1 : (some false) = some r := by rw [if_neg (show ¬ (false = true) by decide)] at H; exact H
         clear H; have H := H1; clear H1; obtain rfl := yM H; have p39 : 0 ≤ (x11_1 : Int) := zW (by first | (with_reducible assumption) | assumption); have q39 : x11_1 < (l0_0.length : Int) := zW (by first | (with_reducible assumption) | assumption); obtain ⟨ad39, e39, hx39_0⟩ := Kd.at_string HR0_0.out x11_1 p39 q39
         cases e39
         replace hx39_0 := (HB.out.cell (zB w _ hx39_0)).trans hx39_0; replace p39 := eq_true p39; replace q39 := eq_true q39; have hcz20_0 := yL BK37.out 0 (.slice (some ad39) l0_0.length c0_0) rfl; have hcz20_1 := yL BK37.out 1 (.slice A0_1 l0_1.length c0_1) rfl; have hcz20_2 := yL BK37.out 2 (.slice A0_2 l0_2.length c0_2) rfl; have hcz20_3 := yL BK37.out 3 (.int .i64 a0_3) rfl; have hfz20_0 := zO BK37.out 0; have hfz20_1 := zO BK37.out 1; have hfz20_2 := zO BK37.out 2; have hfz20_3 := zO BK37.out 3; have p42 : 0 ≤ (x11_1 : Int) := zW (by first | (with_reducible assumption) | assumption); have q42 : x11_1 < (l0_1.length : Int) := zW (by first | (with_reducible assumption) | assumption); obtain ⟨ad42, e42, hx42_0⟩ := Kd.at_string HR0_1.out x11_1 p42 q42
         cases e42
         replace hx42_0 := (HB.out.cell (zB w _ hx42_0)).trans hx42_0; replace p42 := eq_true p42; replace q42 := eq_true q42; go_wp2_with (first | (go_at_call 57; (with_reducible refine (spec_l5Pair.calls (rdOf ByteArray.empty l0_0 x11_1) (rdOf ByteArray.empty l0_1 x11_1) false _ A10.out).mono ?_); rintro e w' ⟨rfl, ⟨nd, rfl⟩⟩)); go_ret; exact ⟨by first | rfl | (simp <;> rfl) | (simp [*] <;> rfl), by repeat (first | (with_reducible first | exact HB.out | apply zH | apply zF | apply zG | refine zI ?_ GE37.out) | exact HB.out)⟩
       ·rw [if_neg c9] at H
        exact absurd H (by simp)
     ·rw [if_neg c6] at H
      exact absurd H (by simp)
    ·rw [if_neg c5] at H
     exact absurd H (by simp)
   ·rw [if_neg c4] at H
    have c4b0 : decide (x11_1 < (l0_0.length : Int)) = false := decide_eq_false c4; clear c4; have H' := zA H; clear H; have hcz21_0 := yL BK37.out 0 (.slice A0_0 l0_0.length c0_0) rfl; have hcz21_1 := yL BK37.out 1 (.slice A0_1 l0_1.length c0_1) rfl; have hcz21_2 := yL BK37.out 2 (.slice A0_2 l0_2.length c0_2) rfl; have hcz21_3 := yL BK37.out 3 (.int .i64 a0_3) rfl; have hfz21_0 := zO BK37.out 0; have hfz21_1 := zO BK37.out 1; have hfz21_2 := zO BK37.out 2; have hfz21_3 := zO BK37.out 3; go_wp2; go_loopg [49] k1 (fun kq v49 w' => ∃ (x49_2 : Int), v49 = .int .i64 x49_2 ∧ Aside0 (spec_GoodShown.l1 kq l0_2 (l0_2.length : Int) x49_2 l0_0 l0_1 l0_2 a0_3 = some r) ∧ Aside0 (kq ≤ k1) ∧ Aside0 (w'.heap[gb37]? = some (.cells #[(.slice A0_0 l0_0.length c0_0), (.slice A0_1 l0_1.length c0_1), (.slice A0_2 l0_2.length c0_2), .int .i64 a0_3] 38 (0, 0))) ∧ Aside0 (Below w.heap.size w w'))
    case atStart => exact ⟨(0), (by first | rfl | (simp; done) | (simp [*]; done) | (simp [bne]; done)), H', ⟨Nat.le_refl _⟩, ⟨by (with_reducible repeat (first | refine zL ?_ _ | refine zN ?_ | refine zM ?_ _)); exact BK37.out⟩, ⟨by repeat (first | (with_reducible first | exact HB.out | apply zH | apply zF | apply zG | refine zI ?_ GE37.out) | exact HB.out)⟩⟩
    case round =>
     clear H'
     try clear c1
     try clear p1
     try clear q1
     try clear hx1
     try clear p2
     try clear c4
     try clear c4b0
     try clear c5
     try clear c5b0
     try clear c6
     try clear c6b0
     try clear p6
     try clear c7
     try clear c7b0
     try clear c9
     try clear c9b0
     try clear c11
     try clear p11
     try clear q11
     try clear hx11
     try clear c12
     try clear c12b0
     try clear c14
     try clear c14b0
     try clear c15
     try clear c15b0
     try clear c16
     try clear c16b0
     try clear hcz17_0
     try clear hcz17_1
     try clear hcz17_2
     try clear hcz17_3
     try clear hcz18_0
     try clear hcz18_1
     try clear hcz18_2
     try clear hcz18_3
     try clear hcz19_0
     try clear hcz19_1
     try clear hcz19_2
     try clear hcz19_3
     try clear hcz20_0
     try clear hcz20_1
     try clear hcz20_2
     try clear hcz20_3
     try clear hcz21_0
     try clear hcz21_1
     try clear hcz21_2
     try clear hcz21_3
     try clear hcz3_0
     try clear hcz3_1
     try clear hcz3_2
     try clear hcz3_3
     try clear hcz8_0
     try clear hcz8_1
     try clear hcz8_2
     try clear hcz8_3
     try clear hfz17_0
     try clear hfz17_1
     try clear hfz17_2
     try clear hfz17_3
     try clear hfz18_0
     try clear hfz18_1
     try clear hfz18_2
     try clear hfz18_3
     try clear hfz19_0
     try clear hfz19_1
     try clear hfz19_2
     try clear hfz19_3
     try clear hfz20_0
     try clear hfz20_1
     try clear hfz20_2
     try clear hfz20_3
     try clear hfz21_0
     try clear hfz21_1
     try clear hfz21_2
     try clear hfz21_3
     try clear hfz3_0
     try clear hfz3_1
     try clear hfz3_2
     try clear hfz3_3
     try clear hfz8_0
     try clear hfz8_1
     try clear hfz8_2
     try clear hfz8_3
     try clear hx39_0
     try clear hx42_0
     try clear hx43_0
     try clear p39
     try clear p42
     try clear p43
     try clear p2
     try clear q39
     try clear q42
     try clear q43
     obtain ⟨x49_2, rfl, HA, HK2, BK37, HB⟩ := hrel
     cases gk with
     | zero => exact absurd HA.out (by simp [spec_GoodShown.l1])
     | succ k2 =>
      have H := HA.out; clear HA; simp only [spec_GoodShown.l1] at H
      by_cases c22 : x49_2 < (l0_2.length : Int)
      ·rw [if_pos c22] at H
       have c22b0 : decide (x49_2 < (l0_2.length : Int)) = true := zX c22; clear c22
       by_cases c23 : 0 ≤ x49_2
       ·rw [if_pos c23] at H
        have c23b0 : decide (0 ≤ x49_2) = true := zX c23; clear c23
        by_cases c24 : x49_2 < (l0_2.length : Int)
        ·rw [if_pos c24] at H
         have c24b0 : decide (x49_2 < (l0_2.length : Int)) = true := zX c24; clear c24
         by_cases c25 : ((rdOf ByteArray.empty l0_2 x49_2).size : Int) = 4
         ·rw [if_pos c25] at H
          have c25b0 : (((rdOf ByteArray.empty l0_2 x49_2).size : Int) == 4) = true := beq_iff_eq.mpr c25; have c25b1 : (((rdOf ByteArray.empty l0_2 x49_2).size : Int) != 4) = false := bne_eq_false_iff_eq.mpr c25; clear c25; have H' := zA H; clear H; have p44 : 0 ≤ (x49_2 : Int) := zW (by first | (with_reducible assumption) | assumption); have q44 : x49_2 < (l0_2.length : Int) := zW (by first | (with_reducible assumption) | assumption); obtain ⟨ad44, e44, hx44_0⟩ := Kd.at_string HR0_2.out x49_2 p44 q44
          cases e44
          replace hx44_0 := (HB.out.cell (zB w _ hx44_0)).trans hx44_0; replace p44 := eq_true p44; replace q44 := eq_true q44; go_wp2; go_roundg k2
          case measure => have := HK1.out; have := HK2.out; omega
          case rel => exact ⟨(wrap64 (x49_2 + 1)), (by first | rfl | (simp; done) | (simp [*]; done) | (simp [bne]; done)), H', ⟨by have := HK1.out; have := HK2.out; omega⟩, ⟨by (with_reducible repeat (first | refine zL ?_ _ | refine zN ?_ | refine zM ?_ _)); exact BK37.out⟩, ⟨by repeat (first | (with_reducible first | exact HB.out | apply zH | apply zF | apply zG | refine zI ?_ GE37.out) | exact HB.out)⟩⟩
         ·rw [if_neg c25] at H
          have c25b0 : (((rdOf ByteArray.empty l0_2 x49_2).size : Int) == 4) = false := beq_eq_false_iff_ne.mpr c25; have c25b1 : (((rdOf ByteArray.empty l0_2 x49_2).size : Int) != 4) = true := bne_iff_ne.mpr c25; obtain rfl := yM H; have p44 : 0 ≤ (x49_2 : Int) := zW (by first | (with_reducible assumption) | assumption); have q44 : x49_2 < (l0_2.length : Int) := zW (by first | (with_reducible assumption) | assumption); obtain ⟨ad44, e44, hx44_0⟩ := Kd.at_string HR0_2.out x49_2 p44 q44
          cases e44
          replace hx44_0 := (HB.out.cell (zB w _ hx44_0)).trans hx44_0; replace p44 := eq_true p44; replace q44 := eq_true q44; go_wp2; go_ret; exact ⟨by first | rfl | (simp <;> rfl) | (simp [*] <;> rfl), by repeat (first | (with_reducible first | exact HB.out | apply zH | apply zF | apply zG | refine zI ?_ GE37.out) | exact HB.out)⟩
        ·rw [if_neg c24] at H
         exact absurd H (by simp)
       ·rw [if_neg c23] at H
        exact absurd H (by simp)
      ·rw [if_neg c22] at H
       have c22b0 : decide (x49_2 < (l0_2.length : Int)) = false := decide_eq_false c22; clear c22
       by_cases c26 : (l0_0.length : Int) ≤ 4
       ·rw [if_pos c26] at H
        have c26b0 : decide ((l0_0.length : Int) ≤ 4) = true := zX c26; have c26b1 : decide (l0_0.length ≤ 4) = true := zX (by omega); clear c26
        by_cases c27 : (l0_1.length : Int) = (l0_0.length : Int)
        ·rw [if_pos c27] at H
         have c27b0 : ((l0_1.length : Int) == (l0_0.length : Int)) = true := beq_iff_eq.mpr c27; have c27b1 : ((l0_1.length : Int) != (l0_0.length : Int)) = false := bne_eq_false_iff_eq.mpr c27; have c27b2 : (l0_1.length == l0_0.length) = true := by first | simpa using c27 | (simp at c27 ⊢; omega)
         clear c27
         by_cases c28 : (l0_2.length : Int) = 0
         ·rw [if_pos c28] at H
          have c28b0 : ((l0_2.length : Int) == 0) = true := beq_iff_eq.mpr c28; have c28b1 : ((l0_2.length : Int) != 0) = false := bne_eq_false_iff_eq.mpr c28; clear c28; replace H := zAF H; obtain ⟨t45, A46, H⟩ := H; replace H : (some t45) = some r := H; have A29 := zA A46; clear A46; obtain rfl := yM H; have hcz30_0 := yL BK37.out 0 (.slice A0_0 l0_0.length c0_0) rfl; have hcz30_1 := yL BK37.out 1 (.slice A0_1 l0_1.length c0_1) rfl; have hcz30_2 := yL BK37.out 2 (.slice A0_2 l0_2.length c0_2) rfl; have hcz30_3 := yL BK37.out 3 (.int .i64 a0_3) rfl; have hfz30_0 := zO BK37.out 0; have hfz30_1 := zO BK37.out 1; have hfz30_2 := zO BK37.out 2; have hfz30_3 := zO BK37.out 3; go_wp2_with (first | (go_at_call 58; (with_reducible refine (spec_l1In.calls a0_3 0 (l0_0.length : Int) t45 _ A29.out).mono ?_); rintro e w' ⟨rfl, ⟨nd, rfl⟩⟩)); go_ret; exact ⟨by first | rfl | (simp <;> rfl) | (simp [*] <;> rfl), by repeat (first | (with_reducible first | exact HB.out | apply zH | apply zF | apply zG | refine zI ?_ GE37.out) | exact HB.out)⟩
         ·rw [if_neg c28] at H
          have c28b0 : ((l0_2.length : Int) == 0) = false := beq_eq_false_iff_ne.mpr c28; have c28b1 : ((l0_2.length : Int) != 0) = true := bne_iff_ne.mpr c28; have c28b2 : ¬ (l0_2 = []) := fun h_ => c28 (by rw [h_]; rfl)
          by_cases c31 : (l0_2.length : Int) = (wrap64 ((l0_0.length : Int) + 1))
          ·rw [if_pos c31] at H
           have c31b0 : ((l0_2.length : Int) == (wrap64 ((l0_0.length : Int) + 1))) = true := beq_iff_eq.mpr c31; have c31b1 : ((l0_2.length : Int) != (wrap64 ((l0_0.length : Int) + 1))) = false := bne_eq_false_iff_eq.mpr c31; clear c31; replace H := zAF H; obtain ⟨t47, A48, H⟩ := H; replace H : (some t47) = some r := H; have A32 := zA A48; clear A48; obtain rfl := yM H; have hcz33_0 := yL BK37.out 0 (.slice A0_0 l0_0.length c0_0) rfl; have hcz33_1 := yL BK37.out 1 (.slice A0_1 l0_1.length c0_1) rfl; have hcz33_2 := yL BK37.out 2 (.slice A0_2 l0_2.length c0_2) rfl; have hcz33_3 := yL BK37.out 3 (.int .i64 a0_3) rfl; have hfz33_0 := zO BK37.out 0; have hfz33_1 := zO BK37.out 1; have hfz33_2 := zO BK37.out 2; have hfz33_3 := zO BK37.out 3; go_wp2_with (first | (go_at_call 58; (with_reducible refine (spec_l1In.calls a0_3 0 (l0_0.length : Int) t47 _ A32.out).mono ?_); rintro e w' ⟨rfl, ⟨nd, rfl⟩⟩)); go_ret; exact ⟨by first | rfl | (simp <;> rfl) | (simp [*] <;> rfl), by repeat (first | (with_reducible first | exact HB.out | apply zH | apply zF | apply zG | refine zI ?_ GE37.out) | exact HB.out)⟩
          ·rw [if_neg c31] at H
           have c31b0 : ((l0_2.length : Int) == (wrap64 ((l0_0.length : Int) + 1))) = false := beq_eq_false_iff_ne.mpr c31; have c31b1 : ((l0_2.length : Int) != (wrap64 ((l0_0.length : Int) + 1))) = true := bne_iff_ne.mpr c31; obtain rfl := yM H; have hcz34_0 := yL BK37.out 0 (.slice A0_0 l0_0.length c0_0) rfl; have hcz34_1 := yL BK37.out 1 (.slice A0_1 l0_1.length c0_1) rfl; have hcz34_2 := yL BK37.out 2 (.slice A0_2 l0_2.length c0_2) rfl; have hcz34_3 := yL BK37.out 3 (.int .i64 a0_3) rfl; have hfz34_0 := zO BK37.out 0; have hfz34_1 := zO BK37.out 1; have hfz34_2 := zO BK37.out 2; have hfz34_3 := zO BK37.out 3; go_wp2; go_ret; exact ⟨by first | rfl | (simp <;> rfl) | (simp [*] <;> rfl), by repeat (first | (with_reducible first | exact HB.out | apply zH | apply zF | apply zG | refine zI ?_ GE37.out) | exact HB.out)⟩
        ·rw [if_neg c27] at H
         have c27b0 : ((l0_1.length : Int) == (l0_0.length : Int)) = false := beq_eq_false_iff_ne.mpr c27; have c27b1 : ((l0_1.length : Int) != (l0_0.length : Int)) = true := bne_iff_ne.mpr c27; have c27b2 : (l0_1.length == l0_0.length) = false := by first | simpa using c27 | (simp at c27 ⊢; omega)
         obtain rfl := yM H; have hcz35_0 := yL BK37.out 0 (.slice A0_0 l0_0.length c0_0) rfl; have hcz35_1 := yL BK37.out 1 (.slice A0_1 l0_1.length c0_1) rfl; have hcz35_2 := yL BK37.out 2 (.slice A0_2 l0_2.length c0_2) rfl; have hcz35_3 := yL BK37.out 3 (.int .i64 a0_3) rfl; have hfz35_0 := zO BK37.out 0; have hfz35_1 := zO BK37.out 1; have hfz35_2 := zO BK37.out 2; have hfz35_3 := zO BK37.out 3; go_wp2; go_ret; exact ⟨by first | rfl | (simp <;> rfl) | (simp [*] <;> rfl), by repeat (first | (with_reducible first | exact HB.out | apply zH | apply zF | apply zG | refine zI ?_ GE37.out) | exact HB.out)⟩
       ·rw [if_neg c26] at H
        have c26b0 : decide ((l0_0.length : Int) ≤ 4) = false := decide_eq_false c26; have c26b1 : decide (l0_0.length ≤ 4) = false := decide_eq_false (by omega); clear c26; obtain rfl := yM H; have hcz36_0 := yL BK37.out 0 (.slice A0_0 l0_0.length c0_0) rfl; have hcz36_1 := yL BK37.out 1 (.slice A0_1 l0_1.length c0_1) rfl; have hcz36_2 := yL BK37.out 2 (.slice A0_2 l0_2.length c0_2) rfl; have hcz36_3 := yL BK37.out 3 (.int .i64 a0_3) rfl; have hfz36_0 := zO BK37.out 0; have hfz36_1 := zO BK37.out 1; have hfz36_2 := zO BK37.out 2; have hfz36_3 := zO BK37.out 3; go_wp2; go_ret; exact ⟨by first | rfl | (simp <;> rfl) | (simp [*] <;> rfl), by repeat (first | (with_reducible first | exact HB.out | apply zH | apply zF | apply zG | refine zI ?_ GE37.out) | exact HB.out)⟩
mutual
def spec_l6Check.l0 : Nat → ByteArray → List (S38) → ByteArray → List (S38) → Int → Int → Option (ByteArray × Bool × Bool)
 | 0, _, _, _, _, _, _ => none
 | k + 1, x1, x2, x9, x16, x17, x18 => if x18 < x17 then (if 0 ≤ x18 then (if x18 < (x16.length : Int) then ((spec_l6Less.f k ((rd_T38 x16 x18).f0) ((rd_T38 x16 x18).f1) ((rd_T38 x16 x18).f2) ((rd_T38 x16 x18).f3) x1).bind fun t11 => (if t11 < (((rd_T38 x16 x18).f0).length : Int) then (if 0 ≤ t11 then (spec_l6Check.j1 k x1 x2 x9 x18 t11 ((rdOf ByteArray.empty ((rd_T38 x16 x18).f0) t11).toList == x1.toList) x16 x17 x18 ((rd_T38 x16 x18).f0) ((rd_T38 x16 x18).f1) ((rd_T38 x16 x18).f2) ((rd_T38 x16 x18).f3)) else (none)) else (spec_l6Check.j1 k x1 x2 x9 x18 t11 false x16 x17 x18 ((rd_T38 x16 x18).f0) ((rd_T38 x16 x18).f1) ((rd_T38 x16 x18).f2) ((rd_T38 x16 x18).f3)))) else (none)) else (none)) else (some ((⟨#[]⟩ : ByteArray), false, true))
def spec_l6Check.j1 : Nat → ByteArray → List (S38) → ByteArray → Int → Int → Bool → List (S38) → Int → Int → List ByteArray → List ByteArray → List ByteArray → Int → Option (ByteArray × Bool × Bool)
 | 0, _, _, _, _, _, _, _, _, _, _, _, _, _ => none
 | k + 1, x1, x2, x9, x10, x12, x13, x16, x17, x18, x15, x19, x20, x21 => (spec_l6Digest.f k x15 x19 x20 x21).bind fun t22 => (if t22.toList = x9.toList then (if x21 = x12 then (if (x10 == (wrap64 ((x2.length : Int) - 1))) = true then (if x13 = true then (spec_l6Check.j2 k x1 x2 x9 x12 x13 (x10 == (wrap64 ((x2.length : Int) - 1))) x16 x17 x18 false x15 x19 x20 x21) else (spec_l6Check.j2 k x1 x2 x9 x12 x13 (x10 == (wrap64 ((x2.length : Int) - 1))) x16 x17 x18 (decide ((x20.length : Int) > 0)) x15 x19 x20 x21)) else (if x13 = true then (spec_l6Check.j2 k x1 x2 x9 x12 x13 (x10 == (wrap64 ((x2.length : Int) - 1))) x16 x17 x18 true x15 x19 x20 x21) else (if (x20.length : Int) = 0 then (spec_l6Check.j2 k x1 x2 x9 x12 x13 (x10 == (wrap64 ((x2.length : Int) - 1))) x16 x17 x18 true x15 x19 x20 x21) else (spec_l6Check.j2 k x1 x2 x9 x12 x13 (x10 == (wrap64 ((x2.length : Int) - 1))) x16 x17 x18 false x15 x19 x20 x21)))) else (spec_l6Check.j2 k x1 x2 x9 x12 x13 (x10 == (wrap64 ((x2.length : Int) - 1))) x16 x17 x18 true x15 x19 x20 x21)) else (spec_l6Check.j2 k x1 x2 x9 x12 x13 (x10 == (wrap64 ((x2.length : Int) - 1))) x16 x17 x18 true x15 x19 x20 x21))
def spec_l6Check.j2 : Nat → ByteArray → List (S38) → ByteArray → Int → Bool → Bool → List (S38) → Int → Int → Bool → List ByteArray → List ByteArray → List ByteArray → Int → Option (ByteArray × Bool × Bool)
 | 0, _, _, _, _, _, _, _, _, _, _, _, _, _, _ => none
 | k + 1, x1, x2, x9, x12, x13, x14, x16, x17, x18, x80, x15, x19, x20, x21 => if x80 = true then (some ((⟨#[]⟩ : ByteArray), false, false)) else (if x14 = true then (spec_l6Check.j3 k x1 x2 x9 x12 x14 x16 x17 x18 x13 x15 x19 x20 x21) else (spec_l6Check.j3 k x1 x2 x9 x12 x14 x16 x17 x18 false x15 x19 x20 x21))
def spec_l6Check.j3 : Nat → ByteArray → List (S38) → ByteArray → Int → Bool → List (S38) → Int → Int → Bool → List ByteArray → List ByteArray → List ByteArray → Int → Option (ByteArray × Bool × Bool)
 | 0, _, _, _, _, _, _, _, _, _, _, _, _, _ => none
 | k + 1, x1, x2, x9, x12, x14, x16, x17, x18, x84, x15, x19, x20, x21 => if x84 = true then (if 0 ≤ x12 then (if x12 < (x19.length : Int) then (some (rdOf ByteArray.empty x19 x12, true, true)) else (none)) else (none)) else (if x14 = true then (spec_l6Check.l0 k x1 x2 x9 x16 x17 (wrap64 (x18 + 1))) else (if 0 ≤ x12 then (if x12 < (x20.length : Int) then (spec_l6Check.l0 k x1 x2 (rdOf ByteArray.empty x20 x12) x16 x17 (wrap64 (x18 + 1))) else (none)) else (none)))
end
def spec_l6Check.f (k : Nat) (a0 : ByteArray) (a1 : ByteArray) (l2 : List (S38)) : Option (ByteArray × Bool × Bool) := spec_l6Check.l0 k a1 l2 a0 l2 (l2.length : Int) 0
theorem spec_l6Check.calls (k : Nat) (a0 : ByteArray) (a1 : ByteArray) (A2 : Option Addr) (c2 : Nat) (l2 : List (S38)) (r1 : ByteArray) (r2 : Bool) (r3 : Bool) (w : World) (hr2 : Kd.C k38 w A2 l2.length l2) (hc2 : l2.length ≤ c2) (h : spec_l6Check.f k a0 a1 l2 = some (r1, r2, r3)) :
  Calls Try.prog 59 #[.string a0, .string a1, .slice A2 l2.length c2] w fun e w' => e = .returned (.tuple #[.string r1, .bool r2, .bool r3]) ∧ Below w.heap.size w w' := by
 have hu38 := Try.underlying38; have HR2 := zA hr2; have HC2 := zA hc2; clear hr2 hc2; have HB := zA (Below.refl w.heap.size w); have H : (spec_l6Check.l0 k a1 l2 a0 l2 (l2.length : Int) 0) = some (r1, r2, r3) := h; clear h; have H' := zA H; clear H; go_enter Try.func59, Try.ntmps59; go_wp2; go_loopg [9, 18] k (fun kq v9 v18 w' => ∃ (x9_1 : ByteArray) (x18_1 : Int), v9 = .string x9_1 ∧ v18 = .int .i64 x18_1 ∧ Aside0 (spec_l6Check.l0 kq a1 l2 x9_1 l2 (l2.length : Int) x18_1 = some (r1, r2, r3)) ∧ Aside0 (kq ≤ k) ∧ Aside0 (Below w.heap.size w w'))
 case atStart => exact ⟨(a0), (0), (by first | rfl | (simp; done) | (simp [*]; done) | (simp [bne]; done)), (by first | rfl | (simp; done) | (simp [*]; done) | (simp [bne]; done)), H', ⟨Nat.le_refl _⟩, ⟨by (with_reducible repeat first | exact HB.out | apply zH | apply zF | apply zG) <;> exact HB.out⟩⟩
 case round =>
  clear H'
  try clear c2
  try clear p2
  obtain ⟨x9_1, x18_1, rfl, rfl, HA, HK1, HB⟩ := hrel
  cases gk with
  | zero => exact absurd HA.out (by simp [spec_l6Check.l0])
  | succ k1 =>
   have H := HA.out; clear HA; simp only [spec_l6Check.l0] at H
   by_cases c4 : x18_1 < (l2.length : Int)
   ·rw [if_pos c4] at H
    have c4b0 : decide (x18_1 < (l2.length : Int)) = true := zX c4; clear c4
    by_cases c5 : 0 ≤ x18_1
    ·rw [if_pos c5] at H
     have c5b0 : decide (0 ≤ x18_1) = true := zX c5; clear c5
     by_cases c6 : x18_1 < (l2.length : Int)
     ·rw [if_pos c6] at H
      have c6b0 : decide (x18_1 < (l2.length : Int)) = true := zX c6; clear c6; replace H := zAF H; obtain ⟨t53, A70, H⟩ := H; replace H : (if t53 < (((rd_T38 l2 x18_1).f0).length : Int) then (if 0 ≤ t53 then (spec_l6Check.j1 k1 a1 l2 x9_1 x18_1 t53 ((rdOf ByteArray.empty ((rd_T38 l2 x18_1).f0) t53).toList == a1.toList) l2 (l2.length : Int) x18_1 ((rd_T38 l2 x18_1).f0) ((rd_T38 l2 x18_1).f1) ((rd_T38 l2 x18_1).f2) ((rd_T38 l2 x18_1).f3)) else (none)) else (spec_l6Check.j1 k1 a1 l2 x9_1 x18_1 t53 false l2 (l2.length : Int) x18_1 ((rd_T38 l2 x18_1).f0) ((rd_T38 l2 x18_1).f1) ((rd_T38 l2 x18_1).f2) ((rd_T38 l2 x18_1).f3))) = some (r1, r2, r3) := H; have A7 := zA A70; clear A70; have HC8 := zA H; clear H; have p58 : 0 ≤ (x18_1 : Int) := zW (by first | (with_reducible assumption) | assumption); have q58 : x18_1 < (l2.length : Int) := zW (by first | (with_reducible assumption) | assumption); obtain ⟨ad58, A58_0, c58_0, A58_1, c58_1, A58_2, c58_2, e58, hx58_0, hx58_1, hx58_2, hx58_3, hl58_0, hi58_0, hl58_1, hi58_1, hl58_2, hi58_2⟩ := at_T38 HR2.out x18_1 p58 q58
      cases e58
      replace hx58_0 := (HB.out.cell (zB w _ hx58_0)).trans hx58_0; replace hx58_1 := (HB.out.cell (zB w _ hx58_1)).trans hx58_1; replace hx58_2 := (HB.out.cell (zB w _ hx58_2)).trans hx58_2; replace hx58_3 := (HB.out.cell (zB w _ hx58_3)).trans hx58_3; have HR58_0 := zA hi58_0; have HC58_0 := zA hl58_0; clear hi58_0 hl58_0; have HR58_1 := zA hi58_1; have HC58_1 := zA hl58_1; clear hi58_1 hl58_1; have HR58_2 := zA hi58_2; have HC58_2 := zA hl58_2; clear hi58_2 hl58_2; replace p58 := eq_true p58; replace q58 := eq_true q58; go_upto_region 6 with (first | ((with_reducible refine gate_dst (N := 11) rfl ?_); (try (refine gate_guard (by rfl) ?_; dsimp only)); refine box_event ?hg (N := 11) ?hd (cs := #[.slice none 0 0, .slice none 0 0, .slice none 0 0, .int .i64 0]) (t := 38) ?hr ?_; (case hd => rfl); (case hg => rfl); (case hr => first | (go_simp; done) | (go_simp; rfl)); intro gb59 hg w9 hbox hb; have n0_ := zA (zAD (by (with_reducible repeat first | exact HB.out | apply zH | apply zF | apply zG) <;> exact HB.out) hb); have n1_ := zA (hbox); have n2_ := zA ((by rw [hg]; exact (zAE (by (with_reducible repeat first | exact HB.out | apply zH | apply zF | apply zG) <;> exact HB.out)) : w.heap.size ≤ gb59)); have n3_ := zA ((by rw [hg]; exact (zAE (by (with_reducible repeat first | exact HB.out | apply zH | apply zF | apply zG) <;> exact HB.out)) : w.heap.size ≤ gb59)); clear HB; have HB := n0_; have BK59 := n1_; have GW59 := n2_; have GE59 := n3_; clear n0_ n1_ n2_ n3_; clear hb hbox hg; have hcz10_0 := yL BK59.out 0 (.slice none 0 0) rfl; have hcz10_1 := yL BK59.out 1 (.slice none 0 0) rfl; have hcz10_2 := yL BK59.out 2 (.slice none 0 0) rfl; have hcz10_3 := yL BK59.out 3 (.int .i64 0) rfl; have hfz10_0 := zO BK59.out 0; have hfz10_1 := zO BK59.out 1; have hfz10_2 := zO BK59.out 2; have hfz10_3 := zO BK59.out 3) | ((with_reducible refine yB (f := 77) rfl ?_); refine goesL_ (some 25) rfl rfl Try.func77 (by kernel_rfl) rfl #[.agg #[.slice A58_0 ((rd_T38 l2 x18_1).f0).length c58_0, .slice A58_1 ((rd_T38 l2 x18_1).f1).length c58_1, .slice A58_2 ((rd_T38 l2 x18_1).f2).length c58_2, .int .i64 ((rd_T38 l2 x18_1).f3)], .string a1] rfl (by (try simp only [zAA, zAB, zAC]); first | done | rfl | (simp only [zZ, zY]; rfl)) ?_; (with_reducible refine (spec_l6Less.calls k1 _ _ ((rd_T38 l2 x18_1).f0) _ _ ((rd_T38 l2 x18_1).f1) _ _ ((rd_T38 l2 x18_1).f2) ((rd_T38 l2 x18_1).f3) a1 t53 _ ?side1 ?side2 ?side3 ?side4 ?side5 ?side6 A7.out).mono ?_); (case side1 => exact yN HR58_0.out (by repeat (first | (with_reducible first | exact HB.out | apply zH | apply zF | apply zG | refine zI ?_ GE59.out) | exact HB.out))); (case side2 => exact HC58_0.out); (case side3 => exact yN HR58_1.out (by repeat (first | (with_reducible first | exact HB.out | apply zH | apply zF | apply zG | refine zI ?_ GE59.out) | exact HB.out))); (case side4 => exact HC58_1.out); (case side5 => exact yN HR58_2.out (by repeat (first | (with_reducible first | exact HB.out | apply zH | apply zF | apply zG | refine zI ?_ GE59.out) | exact HB.out))); (case side6 => exact HC58_2.out); rintro e w11 ⟨rfl, hb⟩; refine ⟨_, rfl, ?_⟩; have n0_ := zA (yE (g := gb59) (o := .cells #[.slice A58_0 ((rd_T38 l2 x18_1).f0).length c58_0, .slice A58_1 ((rd_T38 l2 x18_1).f1).length c58_1, .slice A58_2 ((rd_T38 l2 x18_1).f2).length c58_2, .int .i64 ((rd_T38 l2 x18_1).f3)] 38 (0, 0)) (by (with_reducible repeat (first | refine zL ?_ _ | refine zN ?_ | refine zM ?_ _)); refine blk_put (cs := #[.slice A58_0 ((rd_T38 l2 x18_1).f0).length c58_0, .slice A58_1 ((rd_T38 l2 x18_1).f1).length c58_1, .slice A58_2 ((rd_T38 l2 x18_1).f2).length c58_2, .int .i64 0]) ?_ 3 _ rfl; (with_reducible repeat (first | refine zL ?_ _ | refine zN ?_ | refine zM ?_ _)); refine blk_put (cs := #[.slice A58_0 ((rd_T38 l2 x18_1).f0).length c58_0, .slice A58_1 ((rd_T38 l2 x18_1).f1).length c58_1, .slice none 0 0, .int .i64 0]) ?_ 2 _ rfl; (with_reducible repeat (first | refine zL ?_ _ | refine zN ?_ | refine zM ?_ _)); refine blk_put (cs := #[.slice A58_0 ((rd_T38 l2 x18_1).f0).length c58_0, .slice none 0 0, .slice none 0 0, .int .i64 0]) ?_ 1 _ rfl; (with_reducible repeat (first | refine zL ?_ _ | refine zN ?_ | refine zM ?_ _)); refine blk_put (cs := #[.slice none 0 0, .slice none 0 0, .slice none 0 0, .int .i64 0]) ?_ 0 _ rfl; (with_reducible repeat (first | refine zL ?_ _ | refine zN ?_ | refine zM ?_ _)); exact BK59.out) hb); have n1_ := zA (zAD (by repeat (first | (with_reducible first | exact HB.out | apply zH | apply zF | apply zG | refine zI ?_ GE59.out) | exact HB.out)) hb); clear BK59; clear HB; have BK59 := n0_; have HB := n1_; clear n0_ n1_; (try clear hb)))
      (try simp only [Act.put, zC, zD, zE]); go_cut [13] (fun v13 wc => ∃ (kq : Nat) (x13_7 : Bool), v13 = .bool x13_7 ∧ Aside0 (spec_l6Check.j1 kq a1 l2 x9_1 x18_1 t53 x13_7 l2 (l2.length : Int) x18_1 ((rd_T38 l2 x18_1).f0) ((rd_T38 l2 x18_1).f1) ((rd_T38 l2 x18_1).f2) ((rd_T38 l2 x18_1).f3) = some (r1, r2, r3)) ∧ Aside0 (kq ≤ k1) ∧ Aside0 (wc.heap[gb59]? = some (.cells #[(.slice A58_0 ((rd_T38 l2 x18_1).f0).length c58_0), (.slice A58_1 ((rd_T38 l2 x18_1).f1).length c58_1), (.slice A58_2 ((rd_T38 l2 x18_1).f2).length c58_2), .int .i64 ((rd_T38 l2 x18_1).f3)] 38 (0, 0))) ∧ Aside0 (Below w.heap.size w wc))
      case first =>
       have H := HC8.out; clear HC8
       by_cases c12 : t53 < (((rd_T38 l2 x18_1).f0).length : Int)
       ·rw [if_pos c12] at H
        have c12b0 : decide (t53 < (((rd_T38 l2 x18_1).f0).length : Int)) = true := zX c12; clear c12; (first | rw [c12b0] | (simp only [i64_w, i32_w]; rw [c12b0]) | skip)
        by_cases c13 : 0 ≤ t53
        ·rw [if_pos c13] at H
         have c13b0 : decide (0 ≤ t53) = true := zX c13; clear c13; have H' := zA H; clear H; have hcz14_0 := yL BK59.out 0 (.slice A58_0 ((rd_T38 l2 x18_1).f0).length c58_0) rfl; have hcz14_1 := yL BK59.out 1 (.slice A58_1 ((rd_T38 l2 x18_1).f1).length c58_1) rfl; have hcz14_2 := yL BK59.out 2 (.slice A58_2 ((rd_T38 l2 x18_1).f2).length c58_2) rfl; have hcz14_3 := yL BK59.out 3 (.int .i64 ((rd_T38 l2 x18_1).f3)) rfl; have hfz14_0 := zO BK59.out 0; have hfz14_1 := zO BK59.out 1; have hfz14_2 := zO BK59.out 2; have hfz14_3 := zO BK59.out 3; have p60 : 0 ≤ (t53 : Int) := zW (by first | (with_reducible assumption) | assumption); have q60 : t53 < (((rd_T38 l2 x18_1).f0).length : Int) := zW (by first | (with_reducible assumption) | assumption); obtain ⟨ad60, e60, hx60_0⟩ := Kd.at_string HR58_0.out t53 p60 q60
         cases e60
         replace hx60_0 := (HB.out.cell (zB w _ hx60_0)).trans hx60_0; replace p60 := eq_true p60; replace q60 := eq_true q60; go_wp2; go_meet
         case rel => exact ⟨_, (((rdOf ByteArray.empty ((rd_T38 l2 x18_1).f0) t53).toList == a1.toList)), (by first | rfl | (simp; done) | (simp [*]; done) | (simp [bne]; done)), H', ⟨by have := HK1.out; first | omega | exact Nat.le_refl _⟩, ⟨by (with_reducible repeat (first | refine zL ?_ _ | refine zN ?_ | refine zM ?_ _)); exact BK59.out⟩, ⟨by repeat (first | (with_reducible first | exact HB.out | apply zH | apply zF | apply zG | refine zI ?_ GE59.out) | exact HB.out)⟩⟩
        ·rw [if_neg c13] at H
         exact absurd H (by simp)
       ·rw [if_neg c12] at H
        have c12b0 : decide (t53 < (((rd_T38 l2 x18_1).f0).length : Int)) = false := decide_eq_false c12; clear c12; (first | rw [c12b0] | (simp only [i64_w, i32_w]; rw [c12b0]) | skip); have H' := zA H; clear H; have hcz15_0 := yL BK59.out 0 (.slice A58_0 ((rd_T38 l2 x18_1).f0).length c58_0) rfl; have hcz15_1 := yL BK59.out 1 (.slice A58_1 ((rd_T38 l2 x18_1).f1).length c58_1) rfl; have hcz15_2 := yL BK59.out 2 (.slice A58_2 ((rd_T38 l2 x18_1).f2).length c58_2) rfl; have hcz15_3 := yL BK59.out 3 (.int .i64 ((rd_T38 l2 x18_1).f3)) rfl; have hfz15_0 := zO BK59.out 0; have hfz15_1 := zO BK59.out 1; have hfz15_2 := zO BK59.out 2; have hfz15_3 := zO BK59.out 3; go_wp2; go_meet
        case rel => exact ⟨_, (false), (by first | rfl | (simp; done) | (simp [*]; done) | (simp [bne]; done)), H', ⟨by have := HK1.out; first | omega | exact Nat.le_refl _⟩, ⟨by (with_reducible repeat (first | refine zL ?_ _ | refine zN ?_ | refine zM ?_ _)); exact BK59.out⟩, ⟨by repeat (first | (with_reducible first | exact HB.out | apply zH | apply zF | apply zG | refine zI ?_ GE59.out) | exact HB.out)⟩⟩
      case rest =>
       clear HC8
       try clear c1
       try clear p1
       try clear q1
       try clear hx1
       try clear c2
       try clear p2
       try clear c4
       try clear c4b0
       try clear c5
       try clear c5b0
       try clear c6
       try clear c6b0
       try clear c7
       try clear c12
       try clear c12b0
       try clear c13
       try clear c13b0
       try clear c15
       try clear p15
       try clear q15
       try clear hx15
       try clear hcz10_0
       try clear hcz10_1
       try clear hcz10_2
       try clear hcz10_3
       try clear hcz14_0
       try clear hcz14_1
       try clear hcz14_2
       try clear hcz14_3
       try clear hcz15_0
       try clear hcz15_1
       try clear hcz15_2
       try clear hcz15_3
       try clear hfz10_0
       try clear hfz10_1
       try clear hfz10_2
       try clear hfz10_3
       try clear hfz14_0
       try clear hfz14_1
       try clear hfz14_2
       try clear hfz14_3
       try clear hfz15_0
       try clear hfz15_1
       try clear hfz15_2
       try clear hfz15_3
       try clear hx58_0
       try clear hx58_1
       try clear hx58_2
       try clear hx58_3
       try clear hx60_0
       try clear p58
       try clear p60
       try clear p2
       try clear q58
       try clear q60
       obtain ⟨kq, x13_7, rfl, HA, HJ7, BK59, HB⟩ := hcut
       cases kq with
       | zero => exact absurd HA.out (by simp [spec_l6Check.j1])
       | succ kj7 =>
        have H := HA.out; clear HA; simp only [spec_l6Check.j1] at H; obtain ⟨bz_, hbz_⟩ : ∃ b_ : Bool, b_ = (x18_1 == (wrap64 ((l2.length : Int) - 1))) := ⟨_, rfl⟩; rw [← hbz_] at H; have HC16 := zA H; clear H; go_upto_region 8 with (fail)
        (try rw [← hbz_]); have Nbz_ := zA hbz_; clear hbz_; go_cut [80] (fun v80 wc => ∃ (kq : Nat) (x80_15 : Bool), v80 = .bool x80_15 ∧ Aside0 (spec_l6Check.j2 kq a1 l2 x9_1 t53 x13_7 bz_ l2 (l2.length : Int) x18_1 x80_15 ((rd_T38 l2 x18_1).f0) ((rd_T38 l2 x18_1).f1) ((rd_T38 l2 x18_1).f2) ((rd_T38 l2 x18_1).f3) = some (r1, r2, r3)) ∧ Aside0 (kq ≤ kj7) ∧ Aside0 (wc.heap[gb59]? = some (.cells #[(.slice A58_0 ((rd_T38 l2 x18_1).f0).length c58_0), (.slice A58_1 ((rd_T38 l2 x18_1).f1).length c58_1), (.slice A58_2 ((rd_T38 l2 x18_1).f2).length c58_2), .int .i64 ((rd_T38 l2 x18_1).f3)] 38 (0, 0))) ∧ Aside0 (Below w.heap.size w wc))
        case first =>
         have H := HC16.out; clear HC16; replace H := zAF H; obtain ⟨t61, A62, H⟩ := H; replace H : (if t61.toList = x9_1.toList then (if ((rd_T38 l2 x18_1).f3) = t53 then (if bz_ = true then (if x13_7 = true then (spec_l6Check.j2 kj7 a1 l2 x9_1 t53 x13_7 bz_ l2 (l2.length : Int) x18_1 false ((rd_T38 l2 x18_1).f0) ((rd_T38 l2 x18_1).f1) ((rd_T38 l2 x18_1).f2) ((rd_T38 l2 x18_1).f3)) else (spec_l6Check.j2 kj7 a1 l2 x9_1 t53 x13_7 bz_ l2 (l2.length : Int) x18_1 (decide ((((rd_T38 l2 x18_1).f2).length : Int) > 0)) ((rd_T38 l2 x18_1).f0) ((rd_T38 l2 x18_1).f1) ((rd_T38 l2 x18_1).f2) ((rd_T38 l2 x18_1).f3))) else (if x13_7 = true then (spec_l6Check.j2 kj7 a1 l2 x9_1 t53 x13_7 bz_ l2 (l2.length : Int) x18_1 true ((rd_T38 l2 x18_1).f0) ((rd_T38 l2 x18_1).f1) ((rd_T38 l2 x18_1).f2) ((rd_T38 l2 x18_1).f3)) else (if (((rd_T38 l2 x18_1).f2).length : Int) = 0 then (spec_l6Check.j2 kj7 a1 l2 x9_1 t53 x13_7 bz_ l2 (l2.length : Int) x18_1 true ((rd_T38 l2 x18_1).f0) ((rd_T38 l2 x18_1).f1) ((rd_T38 l2 x18_1).f2) ((rd_T38 l2 x18_1).f3)) else (spec_l6Check.j2 kj7 a1 l2 x9_1 t53 x13_7 bz_ l2 (l2.length : Int) x18_1 false ((rd_T38 l2 x18_1).f0) ((rd_T38 l2 x18_1).f1) ((rd_T38 l2 x18_1).f2) ((rd_T38 l2 x18_1).f3))))) else (spec_l6Check.j2 kj7 a1 l2 x9_1 t53 x13_7 bz_ l2 (l2.length : Int) x18_1 true ((rd_T38 l2 x18_1).f0) ((rd_T38 l2 x18_1).f1) ((rd_T38 l2 x18_1).f2) ((rd_T38 l2 x18_1).f3))) else (spec_l6Check.j2 kj7 a1 l2 x9_1 t53 x13_7 bz_ l2 (l2.length : Int) x18_1 true ((rd_T38 l2 x18_1).f0) ((rd_T38 l2 x18_1).f1) ((rd_T38 l2 x18_1).f2) ((rd_T38 l2 x18_1).f3))) = some (r1, r2, r3) := H; have A17 := zA A62; clear A62
         by_cases c18 : t61.toList = x9_1.toList
         ·rw [if_pos c18] at H
          have c18b0 : (t61.toList == x9_1.toList) = true := beq_iff_eq.mpr c18; have c18b1 : (t61.toList != x9_1.toList) = false := bne_eq_false_iff_eq.mpr c18; clear c18; (first | rw [c18b0] | (simp only [i64_w, i32_w]; rw [c18b0]) | skip)
          by_cases c19 : ((rd_T38 l2 x18_1).f3) = t53
          ·rw [if_pos c19] at H
           have c19b0 : (((rd_T38 l2 x18_1).f3) == t53) = true := beq_iff_eq.mpr c19; have c19b1 : (((rd_T38 l2 x18_1).f3) != t53) = false := bne_eq_false_iff_eq.mpr c19; clear c19
           by_cases c21 : bz_ = true
           ·subst c21
            have H1 : (if x13_7 = true then (spec_l6Check.j2 kj7 a1 l2 x9_1 t53 x13_7 true l2 (l2.length : Int) x18_1 false ((rd_T38 l2 x18_1).f0) ((rd_T38 l2 x18_1).f1) ((rd_T38 l2 x18_1).f2) ((rd_T38 l2 x18_1).f3)) else (spec_l6Check.j2 kj7 a1 l2 x9_1 t53 x13_7 true l2 (l2.length : Int) x18_1 (decide ((((rd_T38 l2 x18_1).f2).length : Int) > 0)) ((rd_T38 l2 x18_1).f0) ((rd_T38 l2 x18_1).f1) ((rd_T38 l2 x18_1).f2) ((rd_T38 l2 x18_1).f3))) = some (r1, r2, r3) := by rw [if_pos rfl] at H; exact H
            clear H; have H := H1; clear H1
            by_cases c22 : x13_7 = true
            ·subst c22
             have H1 : (spec_l6Check.j2 kj7 a1 l2 x9_1 t53 true true l2 (l2.length : Int) x18_1 false ((rd_T38 l2 x18_1).f0) ((rd_T38 l2 x18_1).f1) ((rd_T38 l2 x18_1).f2) ((rd_T38 l2 x18_1).f3)) = some (r1, r2, r3) := by rw [if_pos rfl] at H; exact H
             clear H; have H := H1; clear H1; have H' := zA H; clear H; have hcz23_0 := yL BK59.out 0 (.slice A58_0 ((rd_T38 l2 x18_1).f0).length c58_0) rfl; have hcz23_1 := yL BK59.out 1 (.slice A58_1 ((rd_T38 l2 x18_1).f1).length c58_1) rfl; have hcz23_2 := yL BK59.out 2 (.slice A58_2 ((rd_T38 l2 x18_1).f2).length c58_2) rfl; have hcz23_3 := yL BK59.out 3 (.int .i64 ((rd_T38 l2 x18_1).f3)) rfl; have hfz23_0 := zO BK59.out 0; have hfz23_1 := zO BK59.out 1; have hfz23_2 := zO BK59.out 2; have hfz23_3 := zO BK59.out 3; go_wp2_with (first | ((with_reducible refine yB (f := 41) rfl ?_); refine goesL_ (some 46) rfl rfl Try.func41 (by kernel_rfl) rfl #[.agg #[.slice A58_0 ((rd_T38 l2 x18_1).f0).length c58_0, .slice A58_1 ((rd_T38 l2 x18_1).f1).length c58_1, .slice A58_2 ((rd_T38 l2 x18_1).f2).length c58_2, .int .i64 ((rd_T38 l2 x18_1).f3)]] rfl (by (try simp only [zAA, zAB, zAC]); first | done | rfl | (simp only [zZ, zY]; rfl)) ?_; (with_reducible refine (spec_l6Digest.calls kj7 _ _ ((rd_T38 l2 x18_1).f0) _ _ ((rd_T38 l2 x18_1).f1) _ _ ((rd_T38 l2 x18_1).f2) ((rd_T38 l2 x18_1).f3) t61 _ ?side1 ?side2 ?side3 ?side4 ?side5 ?side6 A17.out).mono ?_); (case side1 => repeat (first | exact (yN HR58_0.out HB.out) | (with_reducible first | refine zT ?_ _ | refine zU ?_ _ | refine zV ?_))); (case side2 => exact HC58_0.out); (case side3 => repeat (first | exact (yN HR58_1.out HB.out) | (with_reducible first | refine zT ?_ _ | refine zU ?_ _ | refine zV ?_))); (case side4 => exact HC58_1.out); (case side5 => repeat (first | exact (yN HR58_2.out HB.out) | (with_reducible first | refine zT ?_ _ | refine zU ?_ _ | refine zV ?_))); (case side6 => exact HC58_2.out); rintro e w24 ⟨rfl, hb⟩; refine ⟨_, rfl, ?_⟩; have n0_ := zA (yE (g := gb59) (o := .cells #[.slice A58_0 ((rd_T38 l2 x18_1).f0).length c58_0, .slice A58_1 ((rd_T38 l2 x18_1).f1).length c58_1, .slice A58_2 ((rd_T38 l2 x18_1).f2).length c58_2, .int .i64 ((rd_T38 l2 x18_1).f3)] 38 (0, 0)) (by (with_reducible repeat (first | refine zL ?_ _ | refine zN ?_ | refine zM ?_ _)); exact BK59.out) hb); have n1_ := zA (zAD (by repeat (first | (with_reducible first | exact HB.out | apply zH | apply zF | apply zG | refine zI ?_ GE59.out) | exact HB.out)) hb); clear BK59; clear HB; have BK59 := n0_; have HB := n1_; clear n0_ n1_; (try clear hb); have hcz25_0 := yL BK59.out 0 (.slice A58_0 ((rd_T38 l2 x18_1).f0).length c58_0) rfl; have hcz25_1 := yL BK59.out 1 (.slice A58_1 ((rd_T38 l2 x18_1).f1).length c58_1) rfl; have hcz25_2 := yL BK59.out 2 (.slice A58_2 ((rd_T38 l2 x18_1).f2).length c58_2) rfl; have hcz25_3 := yL BK59.out 3 (.int .i64 ((rd_T38 l2 x18_1).f3)) rfl; have hfz25_0 := zO BK59.out 0; have hfz25_1 := zO BK59.out 1; have hfz25_2 := zO BK59.out 2; have hfz25_3 := zO BK59.out 3)); go_meet
             case rel => exact ⟨_, (false), (by first | rfl | (simp; done) | (simp [*]; done) | (simp [bne]; done)), H', ⟨by have := HK1.out; have := HJ7.out; first | omega | exact Nat.le_refl _⟩, ⟨by (with_reducible repeat (first | refine zL ?_ _ | refine zN ?_ | refine zM ?_ _)); exact BK59.out⟩, ⟨by repeat (first | (with_reducible first | exact HB.out | apply zH | apply zF | apply zG | refine zI ?_ GE59.out) | exact HB.out)⟩⟩
            ·replace c22 := yO c22
             subst c22; have H1 : (spec_l6Check.j2 kj7 a1 l2 x9_1 t53 false true l2 (l2.length : Int) x18_1 (decide ((((rd_T38 l2 x18_1).f2).length : Int) > 0)) ((rd_T38 l2 x18_1).f0) ((rd_T38 l2 x18_1).f1) ((rd_T38 l2 x18_1).f2) ((rd_T38 l2 x18_1).f3)) = some (r1, r2, r3) := by rw [if_neg (show ¬ (false = true) by decide)] at H; exact H
             clear H; have H := H1; clear H1; have H' := zA H; clear H; have hcz26_0 := yL BK59.out 0 (.slice A58_0 ((rd_T38 l2 x18_1).f0).length c58_0) rfl; have hcz26_1 := yL BK59.out 1 (.slice A58_1 ((rd_T38 l2 x18_1).f1).length c58_1) rfl; have hcz26_2 := yL BK59.out 2 (.slice A58_2 ((rd_T38 l2 x18_1).f2).length c58_2) rfl; have hcz26_3 := yL BK59.out 3 (.int .i64 ((rd_T38 l2 x18_1).f3)) rfl; have hfz26_0 := zO BK59.out 0; have hfz26_1 := zO BK59.out 1; have hfz26_2 := zO BK59.out 2; have hfz26_3 := zO BK59.out 3; go_wp2_with (first | ((with_reducible refine yB (f := 41) rfl ?_); refine goesL_ (some 46) rfl rfl Try.func41 (by kernel_rfl) rfl #[.agg #[.slice A58_0 ((rd_T38 l2 x18_1).f0).length c58_0, .slice A58_1 ((rd_T38 l2 x18_1).f1).length c58_1, .slice A58_2 ((rd_T38 l2 x18_1).f2).length c58_2, .int .i64 ((rd_T38 l2 x18_1).f3)]] rfl (by (try simp only [zAA, zAB, zAC]); first | done | rfl | (simp only [zZ, zY]; rfl)) ?_; (with_reducible refine (spec_l6Digest.calls kj7 _ _ ((rd_T38 l2 x18_1).f0) _ _ ((rd_T38 l2 x18_1).f1) _ _ ((rd_T38 l2 x18_1).f2) ((rd_T38 l2 x18_1).f3) t61 _ ?side1 ?side2 ?side3 ?side4 ?side5 ?side6 A17.out).mono ?_); (case side1 => repeat (first | exact (yN HR58_0.out HB.out) | (with_reducible first | refine zT ?_ _ | refine zU ?_ _ | refine zV ?_))); (case side2 => exact HC58_0.out); (case side3 => repeat (first | exact (yN HR58_1.out HB.out) | (with_reducible first | refine zT ?_ _ | refine zU ?_ _ | refine zV ?_))); (case side4 => exact HC58_1.out); (case side5 => repeat (first | exact (yN HR58_2.out HB.out) | (with_reducible first | refine zT ?_ _ | refine zU ?_ _ | refine zV ?_))); (case side6 => exact HC58_2.out); rintro e w27 ⟨rfl, hb⟩; refine ⟨_, rfl, ?_⟩; have n0_ := zA (yE (g := gb59) (o := .cells #[.slice A58_0 ((rd_T38 l2 x18_1).f0).length c58_0, .slice A58_1 ((rd_T38 l2 x18_1).f1).length c58_1, .slice A58_2 ((rd_T38 l2 x18_1).f2).length c58_2, .int .i64 ((rd_T38 l2 x18_1).f3)] 38 (0, 0)) (by (with_reducible repeat (first | refine zL ?_ _ | refine zN ?_ | refine zM ?_ _)); exact BK59.out) hb); have n1_ := zA (zAD (by repeat (first | (with_reducible first | exact HB.out | apply zH | apply zF | apply zG | refine zI ?_ GE59.out) | exact HB.out)) hb); clear BK59; clear HB; have BK59 := n0_; have HB := n1_; clear n0_ n1_; (try clear hb); have hcz28_0 := yL BK59.out 0 (.slice A58_0 ((rd_T38 l2 x18_1).f0).length c58_0) rfl; have hcz28_1 := yL BK59.out 1 (.slice A58_1 ((rd_T38 l2 x18_1).f1).length c58_1) rfl; have hcz28_2 := yL BK59.out 2 (.slice A58_2 ((rd_T38 l2 x18_1).f2).length c58_2) rfl; have hcz28_3 := yL BK59.out 3 (.int .i64 ((rd_T38 l2 x18_1).f3)) rfl; have hfz28_0 := zO BK59.out 0; have hfz28_1 := zO BK59.out 1; have hfz28_2 := zO BK59.out 2; have hfz28_3 := zO BK59.out 3)); go_meet
             case rel => exact ⟨_, (decide ((((rd_T38 l2 x18_1).f2).length : Int) > 0)), (by first | rfl | (simp; done) | (simp [*]; done) | (simp [bne]; done)), H', ⟨by have := HK1.out; have := HJ7.out; first | omega | exact Nat.le_refl _⟩, ⟨by (with_reducible repeat (first | refine zL ?_ _ | refine zN ?_ | refine zM ?_ _)); exact BK59.out⟩, ⟨by repeat (first | (with_reducible first | exact HB.out | apply zH | apply zF | apply zG | refine zI ?_ GE59.out) | exact HB.out)⟩⟩
           ·replace c21 := yO c21
            subst c21; have H1 : (if x13_7 = true then (spec_l6Check.j2 kj7 a1 l2 x9_1 t53 x13_7 false l2 (l2.length : Int) x18_1 true ((rd_T38 l2 x18_1).f0) ((rd_T38 l2 x18_1).f1) ((rd_T38 l2 x18_1).f2) ((rd_T38 l2 x18_1).f3)) else (if (((rd_T38 l2 x18_1).f2).length : Int) = 0 then (spec_l6Check.j2 kj7 a1 l2 x9_1 t53 x13_7 false l2 (l2.length : Int) x18_1 true ((rd_T38 l2 x18_1).f0) ((rd_T38 l2 x18_1).f1) ((rd_T38 l2 x18_1).f2) ((rd_T38 l2 x18_1).f3)) else (spec_l6Check.j2 kj7 a1 l2 x9_1 t53 x13_7 false l2 (l2.length : Int) x18_1 false ((rd_T38 l2 x18_1).f0) ((rd_T38 l2 x18_1).f1) ((rd_T38 l2 x18_1).f2) ((rd_T38 l2 x18_1).f3)))) = some (r1, r2, r3) := by rw [if_neg (show ¬ (false = true) by decide)] at H; exact H
            clear H; have H := H1; clear H1
            by_cases c29 : x13_7 = true
            ·subst c29
             have H1 : (spec_l6Check.j2 kj7 a1 l2 x9_1 t53 true false l2 (l2.length : Int) x18_1 true ((rd_T38 l2 x18_1).f0) ((rd_T38 l2 x18_1).f1) ((rd_T38 l2 x18_1).f2) ((rd_T38 l2 x18_1).f3)) = some (r1, r2, r3) := by rw [if_pos rfl] at H; exact H
             clear H; have H := H1; clear H1; have H' := zA H; clear H; have hcz30_0 := yL BK59.out 0 (.slice A58_0 ((rd_T38 l2 x18_1).f0).length c58_0) rfl; have hcz30_1 := yL BK59.out 1 (.slice A58_1 ((rd_T38 l2 x18_1).f1).length c58_1) rfl; have hcz30_2 := yL BK59.out 2 (.slice A58_2 ((rd_T38 l2 x18_1).f2).length c58_2) rfl; have hcz30_3 := yL BK59.out 3 (.int .i64 ((rd_T38 l2 x18_1).f3)) rfl; have hfz30_0 := zO BK59.out 0; have hfz30_1 := zO BK59.out 1; have hfz30_2 := zO BK59.out 2; have hfz30_3 := zO BK59.out 3; go_wp2_with (first | ((with_reducible refine yB (f := 41) rfl ?_); refine goesL_ (some 46) rfl rfl Try.func41 (by kernel_rfl) rfl #[.agg #[.slice A58_0 ((rd_T38 l2 x18_1).f0).length c58_0, .slice A58_1 ((rd_T38 l2 x18_1).f1).length c58_1, .slice A58_2 ((rd_T38 l2 x18_1).f2).length c58_2, .int .i64 ((rd_T38 l2 x18_1).f3)]] rfl (by (try simp only [zAA, zAB, zAC]); first | done | rfl | (simp only [zZ, zY]; rfl)) ?_; (with_reducible refine (spec_l6Digest.calls kj7 _ _ ((rd_T38 l2 x18_1).f0) _ _ ((rd_T38 l2 x18_1).f1) _ _ ((rd_T38 l2 x18_1).f2) ((rd_T38 l2 x18_1).f3) t61 _ ?side1 ?side2 ?side3 ?side4 ?side5 ?side6 A17.out).mono ?_); (case side1 => repeat (first | exact (yN HR58_0.out HB.out) | (with_reducible first | refine zT ?_ _ | refine zU ?_ _ | refine zV ?_))); (case side2 => exact HC58_0.out); (case side3 => repeat (first | exact (yN HR58_1.out HB.out) | (with_reducible first | refine zT ?_ _ | refine zU ?_ _ | refine zV ?_))); (case side4 => exact HC58_1.out); (case side5 => repeat (first | exact (yN HR58_2.out HB.out) | (with_reducible first | refine zT ?_ _ | refine zU ?_ _ | refine zV ?_))); (case side6 => exact HC58_2.out); rintro e w31 ⟨rfl, hb⟩; refine ⟨_, rfl, ?_⟩; have n0_ := zA (yE (g := gb59) (o := .cells #[.slice A58_0 ((rd_T38 l2 x18_1).f0).length c58_0, .slice A58_1 ((rd_T38 l2 x18_1).f1).length c58_1, .slice A58_2 ((rd_T38 l2 x18_1).f2).length c58_2, .int .i64 ((rd_T38 l2 x18_1).f3)] 38 (0, 0)) (by (with_reducible repeat (first | refine zL ?_ _ | refine zN ?_ | refine zM ?_ _)); exact BK59.out) hb); have n1_ := zA (zAD (by repeat (first | (with_reducible first | exact HB.out | apply zH | apply zF | apply zG | refine zI ?_ GE59.out) | exact HB.out)) hb); clear BK59; clear HB; have BK59 := n0_; have HB := n1_; clear n0_ n1_; (try clear hb); have hcz32_0 := yL BK59.out 0 (.slice A58_0 ((rd_T38 l2 x18_1).f0).length c58_0) rfl; have hcz32_1 := yL BK59.out 1 (.slice A58_1 ((rd_T38 l2 x18_1).f1).length c58_1) rfl; have hcz32_2 := yL BK59.out 2 (.slice A58_2 ((rd_T38 l2 x18_1).f2).length c58_2) rfl; have hcz32_3 := yL BK59.out 3 (.int .i64 ((rd_T38 l2 x18_1).f3)) rfl; have hfz32_0 := zO BK59.out 0; have hfz32_1 := zO BK59.out 1; have hfz32_2 := zO BK59.out 2; have hfz32_3 := zO BK59.out 3)); go_meet
             case rel => exact ⟨_, (true), (by first | rfl | (simp; done) | (simp [*]; done) | (simp [bne]; done)), H', ⟨by have := HK1.out; have := HJ7.out; first | omega | exact Nat.le_refl _⟩, ⟨by (with_reducible repeat (first | refine zL ?_ _ | refine zN ?_ | refine zM ?_ _)); exact BK59.out⟩, ⟨by repeat (first | (with_reducible first | exact HB.out | apply zH | apply zF | apply zG | refine zI ?_ GE59.out) | exact HB.out)⟩⟩
            ·replace c29 := yO c29
             subst c29; have H1 : (if (((rd_T38 l2 x18_1).f2).length : Int) = 0 then (spec_l6Check.j2 kj7 a1 l2 x9_1 t53 false false l2 (l2.length : Int) x18_1 true ((rd_T38 l2 x18_1).f0) ((rd_T38 l2 x18_1).f1) ((rd_T38 l2 x18_1).f2) ((rd_T38 l2 x18_1).f3)) else (spec_l6Check.j2 kj7 a1 l2 x9_1 t53 false false l2 (l2.length : Int) x18_1 false ((rd_T38 l2 x18_1).f0) ((rd_T38 l2 x18_1).f1) ((rd_T38 l2 x18_1).f2) ((rd_T38 l2 x18_1).f3))) = some (r1, r2, r3) := by rw [if_neg (show ¬ (false = true) by decide)] at H; exact H
             clear H; have H := H1; clear H1
             by_cases c33 : (((rd_T38 l2 x18_1).f2).length : Int) = 0
             ·rw [if_pos c33] at H
              have c33b0 : ((((rd_T38 l2 x18_1).f2).length : Int) == 0) = true := beq_iff_eq.mpr c33; have c33b1 : ((((rd_T38 l2 x18_1).f2).length : Int) != 0) = false := bne_eq_false_iff_eq.mpr c33; clear c33; have H' := zA H; clear H; have hcz34_0 := yL BK59.out 0 (.slice A58_0 ((rd_T38 l2 x18_1).f0).length c58_0) rfl; have hcz34_1 := yL BK59.out 1 (.slice A58_1 ((rd_T38 l2 x18_1).f1).length c58_1) rfl; have hcz34_2 := yL BK59.out 2 (.slice A58_2 ((rd_T38 l2 x18_1).f2).length c58_2) rfl; have hcz34_3 := yL BK59.out 3 (.int .i64 ((rd_T38 l2 x18_1).f3)) rfl; have hfz34_0 := zO BK59.out 0; have hfz34_1 := zO BK59.out 1; have hfz34_2 := zO BK59.out 2; have hfz34_3 := zO BK59.out 3; go_wp2_with (first | ((with_reducible refine yB (f := 41) rfl ?_); refine goesL_ (some 46) rfl rfl Try.func41 (by kernel_rfl) rfl #[.agg #[.slice A58_0 ((rd_T38 l2 x18_1).f0).length c58_0, .slice A58_1 ((rd_T38 l2 x18_1).f1).length c58_1, .slice A58_2 ((rd_T38 l2 x18_1).f2).length c58_2, .int .i64 ((rd_T38 l2 x18_1).f3)]] rfl (by (try simp only [zAA, zAB, zAC]); first | done | rfl | (simp only [zZ, zY]; rfl)) ?_; (with_reducible refine (spec_l6Digest.calls kj7 _ _ ((rd_T38 l2 x18_1).f0) _ _ ((rd_T38 l2 x18_1).f1) _ _ ((rd_T38 l2 x18_1).f2) ((rd_T38 l2 x18_1).f3) t61 _ ?side1 ?side2 ?side3 ?side4 ?side5 ?side6 A17.out).mono ?_); (case side1 => repeat (first | exact (yN HR58_0.out HB.out) | (with_reducible first | refine zT ?_ _ | refine zU ?_ _ | refine zV ?_))); (case side2 => exact HC58_0.out); (case side3 => repeat (first | exact (yN HR58_1.out HB.out) | (with_reducible first | refine zT ?_ _ | refine zU ?_ _ | refine zV ?_))); (case side4 => exact HC58_1.out); (case side5 => repeat (first | exact (yN HR58_2.out HB.out) | (with_reducible first | refine zT ?_ _ | refine zU ?_ _ | refine zV ?_))); (case side6 => exact HC58_2.out); rintro e w35 ⟨rfl, hb⟩; refine ⟨_, rfl, ?_⟩; have n0_ := zA (yE (g := gb59) (o := .cells #[.slice A58_0 ((rd_T38 l2 x18_1).f0).length c58_0, .slice A58_1 ((rd_T38 l2 x18_1).f1).length c58_1, .slice A58_2 ((rd_T38 l2 x18_1).f2).length c58_2, .int .i64 ((rd_T38 l2 x18_1).f3)] 38 (0, 0)) (by (with_reducible repeat (first | refine zL ?_ _ | refine zN ?_ | refine zM ?_ _)); exact BK59.out) hb); have n1_ := zA (zAD (by repeat (first | (with_reducible first | exact HB.out | apply zH | apply zF | apply zG | refine zI ?_ GE59.out) | exact HB.out)) hb); clear BK59; clear HB; have BK59 := n0_; have HB := n1_; clear n0_ n1_; (try clear hb); have hcz36_0 := yL BK59.out 0 (.slice A58_0 ((rd_T38 l2 x18_1).f0).length c58_0) rfl; have hcz36_1 := yL BK59.out 1 (.slice A58_1 ((rd_T38 l2 x18_1).f1).length c58_1) rfl; have hcz36_2 := yL BK59.out 2 (.slice A58_2 ((rd_T38 l2 x18_1).f2).length c58_2) rfl; have hcz36_3 := yL BK59.out 3 (.int .i64 ((rd_T38 l2 x18_1).f3)) rfl; have hfz36_0 := zO BK59.out 0; have hfz36_1 := zO BK59.out 1; have hfz36_2 := zO BK59.out 2; have hfz36_3 := zO BK59.out 3)); go_meet
              case rel => exact ⟨_, (true), (by first | rfl | (simp; done) | (simp [*]; done) | (simp [bne]; done)), H', ⟨by have := HK1.out; have := HJ7.out; first | omega | exact Nat.le_refl _⟩, ⟨by (with_reducible repeat (first | refine zL ?_ _ | refine zN ?_ | refine zM ?_ _)); exact BK59.out⟩, ⟨by repeat (first | (with_reducible first | exact HB.out | apply zH | apply zF | apply zG | refine zI ?_ GE59.out) | exact HB.out)⟩⟩
             ·rw [if_neg c33] at H
              have c33b0 : ((((rd_T38 l2 x18_1).f2).length : Int) == 0) = false := beq_eq_false_iff_ne.mpr c33; have c33b1 : ((((rd_T38 l2 x18_1).f2).length : Int) != 0) = true := bne_iff_ne.mpr c33; have c33b2 : ¬ (((rd_T38 l2 x18_1).f2) = []) := fun h_ => c33 (by rw [h_]; rfl)
              have H' := zA H; clear H; have hcz37_0 := yL BK59.out 0 (.slice A58_0 ((rd_T38 l2 x18_1).f0).length c58_0) rfl; have hcz37_1 := yL BK59.out 1 (.slice A58_1 ((rd_T38 l2 x18_1).f1).length c58_1) rfl; have hcz37_2 := yL BK59.out 2 (.slice A58_2 ((rd_T38 l2 x18_1).f2).length c58_2) rfl; have hcz37_3 := yL BK59.out 3 (.int .i64 ((rd_T38 l2 x18_1).f3)) rfl; have hfz37_0 := zO BK59.out 0; have hfz37_1 := zO BK59.out 1; have hfz37_2 := zO BK59.out 2; have hfz37_3 := zO BK59.out 3; go_wp2_with (first | ((with_reducible refine yB (f := 41) rfl ?_); refine goesL_ (some 46) rfl rfl Try.func41 (by kernel_rfl) rfl #[.agg #[.slice A58_0 ((rd_T38 l2 x18_1).f0).length c58_0, .slice A58_1 ((rd_T38 l2 x18_1).f1).length c58_1, .slice A58_2 ((rd_T38 l2 x18_1).f2).length c58_2, .int .i64 ((rd_T38 l2 x18_1).f3)]] rfl (by (try simp only [zAA, zAB, zAC]); first | done | rfl | (simp only [zZ, zY]; rfl)) ?_; (with_reducible refine (spec_l6Digest.calls kj7 _ _ ((rd_T38 l2 x18_1).f0) _ _ ((rd_T38 l2 x18_1).f1) _ _ ((rd_T38 l2 x18_1).f2) ((rd_T38 l2 x18_1).f3) t61 _ ?side1 ?side2 ?side3 ?side4 ?side5 ?side6 A17.out).mono ?_); (case side1 => repeat (first | exact (yN HR58_0.out HB.out) | (with_reducible first | refine zT ?_ _ | refine zU ?_ _ | refine zV ?_))); (case side2 => exact HC58_0.out); (case side3 => repeat (first | exact (yN HR58_1.out HB.out) | (with_reducible first | refine zT ?_ _ | refine zU ?_ _ | refine zV ?_))); (case side4 => exact HC58_1.out); (case side5 => repeat (first | exact (yN HR58_2.out HB.out) | (with_reducible first | refine zT ?_ _ | refine zU ?_ _ | refine zV ?_))); (case side6 => exact HC58_2.out); rintro e w38 ⟨rfl, hb⟩; refine ⟨_, rfl, ?_⟩; have n0_ := zA (yE (g := gb59) (o := .cells #[.slice A58_0 ((rd_T38 l2 x18_1).f0).length c58_0, .slice A58_1 ((rd_T38 l2 x18_1).f1).length c58_1, .slice A58_2 ((rd_T38 l2 x18_1).f2).length c58_2, .int .i64 ((rd_T38 l2 x18_1).f3)] 38 (0, 0)) (by (with_reducible repeat (first | refine zL ?_ _ | refine zN ?_ | refine zM ?_ _)); exact BK59.out) hb); have n1_ := zA (zAD (by repeat (first | (with_reducible first | exact HB.out | apply zH | apply zF | apply zG | refine zI ?_ GE59.out) | exact HB.out)) hb); clear BK59; clear HB; have BK59 := n0_; have HB := n1_; clear n0_ n1_; (try clear hb); have hcz39_0 := yL BK59.out 0 (.slice A58_0 ((rd_T38 l2 x18_1).f0).length c58_0) rfl; have hcz39_1 := yL BK59.out 1 (.slice A58_1 ((rd_T38 l2 x18_1).f1).length c58_1) rfl; have hcz39_2 := yL BK59.out 2 (.slice A58_2 ((rd_T38 l2 x18_1).f2).length c58_2) rfl; have hcz39_3 := yL BK59.out 3 (.int .i64 ((rd_T38 l2 x18_1).f3)) rfl; have hfz39_0 := zO BK59.out 0; have hfz39_1 := zO BK59.out 1; have hfz39_2 := zO BK59.out 2; have hfz39_3 := zO BK59.out 3)); go_meet
              case rel => exact ⟨_, (false), (by first | rfl | (simp; done) | (simp [*]; done) | (simp [bne]; done)), H', ⟨by have := HK1.out; have := HJ7.out; first | omega | exact Nat.le_refl _⟩, ⟨by (with_reducible repeat (first | refine zL ?_ _ | refine zN ?_ | refine zM ?_ _)); exact BK59.out⟩, ⟨by repeat (first | (with_reducible first | exact HB.out | apply zH | apply zF | apply zG | refine zI ?_ GE59.out) | exact HB.out)⟩⟩
          ·rw [if_neg c19] at H
           have c19b0 : (((rd_T38 l2 x18_1).f3) == t53) = false := beq_eq_false_iff_ne.mpr c19; have c19b1 : (((rd_T38 l2 x18_1).f3) != t53) = true := bne_iff_ne.mpr c19; have H' := zA H; clear H; have hcz40_0 := yL BK59.out 0 (.slice A58_0 ((rd_T38 l2 x18_1).f0).length c58_0) rfl; have hcz40_1 := yL BK59.out 1 (.slice A58_1 ((rd_T38 l2 x18_1).f1).length c58_1) rfl; have hcz40_2 := yL BK59.out 2 (.slice A58_2 ((rd_T38 l2 x18_1).f2).length c58_2) rfl; have hcz40_3 := yL BK59.out 3 (.int .i64 ((rd_T38 l2 x18_1).f3)) rfl; have hfz40_0 := zO BK59.out 0; have hfz40_1 := zO BK59.out 1; have hfz40_2 := zO BK59.out 2; have hfz40_3 := zO BK59.out 3; go_wp2_with (first | ((with_reducible refine yB (f := 41) rfl ?_); refine goesL_ (some 46) rfl rfl Try.func41 (by kernel_rfl) rfl #[.agg #[.slice A58_0 ((rd_T38 l2 x18_1).f0).length c58_0, .slice A58_1 ((rd_T38 l2 x18_1).f1).length c58_1, .slice A58_2 ((rd_T38 l2 x18_1).f2).length c58_2, .int .i64 ((rd_T38 l2 x18_1).f3)]] rfl (by (try simp only [zAA, zAB, zAC]); first | done | rfl | (simp only [zZ, zY]; rfl)) ?_; (with_reducible refine (spec_l6Digest.calls kj7 _ _ ((rd_T38 l2 x18_1).f0) _ _ ((rd_T38 l2 x18_1).f1) _ _ ((rd_T38 l2 x18_1).f2) ((rd_T38 l2 x18_1).f3) t61 _ ?side1 ?side2 ?side3 ?side4 ?side5 ?side6 A17.out).mono ?_); (case side1 => repeat (first | exact (yN HR58_0.out HB.out) | (with_reducible first | refine zT ?_ _ | refine zU ?_ _ | refine zV ?_))); (case side2 => exact HC58_0.out); (case side3 => repeat (first | exact (yN HR58_1.out HB.out) | (with_reducible first | refine zT ?_ _ | refine zU ?_ _ | refine zV ?_))); (case side4 => exact HC58_1.out); (case side5 => repeat (first | exact (yN HR58_2.out HB.out) | (with_reducible first | refine zT ?_ _ | refine zU ?_ _ | refine zV ?_))); (case side6 => exact HC58_2.out); rintro e w41 ⟨rfl, hb⟩; refine ⟨_, rfl, ?_⟩; have n0_ := zA (yE (g := gb59) (o := .cells #[.slice A58_0 ((rd_T38 l2 x18_1).f0).length c58_0, .slice A58_1 ((rd_T38 l2 x18_1).f1).length c58_1, .slice A58_2 ((rd_T38 l2 x18_1).f2).length c58_2, .int .i64 ((rd_T38 l2 x18_1).f3)] 38 (0, 0)) (by (with_reducible repeat (first | refine zL ?_ _ | refine zN ?_ | refine zM ?_ _)); exact BK59.out) hb); have n1_ := zA (zAD (by repeat (first | (with_reducible first | exact HB.out | apply zH | apply zF | apply zG | refine zI ?_ GE59.out) | exact HB.out)) hb); clear BK59; clear HB; have BK59 := n0_; have HB := n1_; clear n0_ n1_; (try clear hb); have hcz42_0 := yL BK59.out 0 (.slice A58_0 ((rd_T38 l2 x18_1).f0).length c58_0) rfl; have hcz42_1 := yL BK59.out 1 (.slice A58_1 ((rd_T38 l2 x18_1).f1).length c58_1) rfl; have hcz42_2 := yL BK59.out 2 (.slice A58_2 ((rd_T38 l2 x18_1).f2).length c58_2) rfl; have hcz42_3 := yL BK59.out 3 (.int .i64 ((rd_T38 l2 x18_1).f3)) rfl; have hfz42_0 := zO BK59.out 0; have hfz42_1 := zO BK59.out 1; have hfz42_2 := zO BK59.out 2; have hfz42_3 := zO BK59.out 3)); go_meet
           case rel => exact ⟨_, (true), (by first | rfl | (simp; done) | (simp [*]; done) | (simp [bne]; done)), H', ⟨by have := HK1.out; have := HJ7.out; first | omega | exact Nat.le_refl _⟩, ⟨by (with_reducible repeat (first | refine zL ?_ _ | refine zN ?_ | refine zM ?_ _)); exact BK59.out⟩, ⟨by repeat (first | (with_reducible first | exact HB.out | apply zH | apply zF | apply zG | refine zI ?_ GE59.out) | exact HB.out)⟩⟩
         ·rw [if_neg c18] at H
          have c18b0 : (t61.toList == x9_1.toList) = false := beq_eq_false_iff_ne.mpr c18; have c18b1 : (t61.toList != x9_1.toList) = true := bne_iff_ne.mpr c18; (first | rw [c18b0] | (simp only [i64_w, i32_w]; rw [c18b0]) | skip); have H' := zA H; clear H; have hcz43_0 := yL BK59.out 0 (.slice A58_0 ((rd_T38 l2 x18_1).f0).length c58_0) rfl; have hcz43_1 := yL BK59.out 1 (.slice A58_1 ((rd_T38 l2 x18_1).f1).length c58_1) rfl; have hcz43_2 := yL BK59.out 2 (.slice A58_2 ((rd_T38 l2 x18_1).f2).length c58_2) rfl; have hcz43_3 := yL BK59.out 3 (.int .i64 ((rd_T38 l2 x18_1).f3)) rfl; have hfz43_0 := zO BK59.out 0; have hfz43_1 := zO BK59.out 1; have hfz43_2 := zO BK59.out 2; have hfz43_3 := zO BK59.out 3; go_wp2_with (first | ((with_reducible refine yB (f := 41) rfl ?_); refine goesL_ (some 46) rfl rfl Try.func41 (by kernel_rfl) rfl #[.agg #[.slice A58_0 ((rd_T38 l2 x18_1).f0).length c58_0, .slice A58_1 ((rd_T38 l2 x18_1).f1).length c58_1, .slice A58_2 ((rd_T38 l2 x18_1).f2).length c58_2, .int .i64 ((rd_T38 l2 x18_1).f3)]] rfl (by (try simp only [zAA, zAB, zAC]); first | done | rfl | (simp only [zZ, zY]; rfl)) ?_; (with_reducible refine (spec_l6Digest.calls kj7 _ _ ((rd_T38 l2 x18_1).f0) _ _ ((rd_T38 l2 x18_1).f1) _ _ ((rd_T38 l2 x18_1).f2) ((rd_T38 l2 x18_1).f3) t61 _ ?side1 ?side2 ?side3 ?side4 ?side5 ?side6 A17.out).mono ?_); (case side1 => repeat (first | exact (yN HR58_0.out HB.out) | (with_reducible first | refine zT ?_ _ | refine zU ?_ _ | refine zV ?_))); (case side2 => exact HC58_0.out); (case side3 => repeat (first | exact (yN HR58_1.out HB.out) | (with_reducible first | refine zT ?_ _ | refine zU ?_ _ | refine zV ?_))); (case side4 => exact HC58_1.out); (case side5 => repeat (first | exact (yN HR58_2.out HB.out) | (with_reducible first | refine zT ?_ _ | refine zU ?_ _ | refine zV ?_))); (case side6 => exact HC58_2.out); rintro e w44 ⟨rfl, hb⟩; refine ⟨_, rfl, ?_⟩; have n0_ := zA (yE (g := gb59) (o := .cells #[.slice A58_0 ((rd_T38 l2 x18_1).f0).length c58_0, .slice A58_1 ((rd_T38 l2 x18_1).f1).length c58_1, .slice A58_2 ((rd_T38 l2 x18_1).f2).length c58_2, .int .i64 ((rd_T38 l2 x18_1).f3)] 38 (0, 0)) (by (with_reducible repeat (first | refine zL ?_ _ | refine zN ?_ | refine zM ?_ _)); exact BK59.out) hb); have n1_ := zA (zAD (by repeat (first | (with_reducible first | exact HB.out | apply zH | apply zF | apply zG | refine zI ?_ GE59.out) | exact HB.out)) hb); clear BK59; clear HB; have BK59 := n0_; have HB := n1_; clear n0_ n1_; (try clear hb))); go_meet
          case rel => exact ⟨_, (true), (by first | rfl | (simp; done) | (simp [*]; done) | (simp [bne]; done)), H', ⟨by have := HK1.out; have := HJ7.out; first | omega | exact Nat.le_refl _⟩, ⟨by (with_reducible repeat (first | refine zL ?_ _ | refine zN ?_ | refine zM ?_ _)); exact BK59.out⟩, ⟨by repeat (first | (with_reducible first | exact HB.out | apply zH | apply zF | apply zG | refine zI ?_ GE59.out) | exact HB.out)⟩⟩
        case rest =>
         clear HC16
         try clear c1
         try clear p1
         try clear q1
         try clear hx1
         try clear c2
         try clear p2
         try clear q2
         try clear c3
         try clear c4
         try clear c4b0
         try clear c5
         try clear c5b0
         try clear c6
         try clear c6b0
         try clear p6
         try clear c7
         try clear c12
         try clear c12b0
         try clear c13
         try clear c13b0
         try clear c15
         try clear p15
         try clear q15
         try clear hx15
         try clear p16
         try clear q16
         try clear hx16
         try clear c18
         try clear c18b0
         try clear c18b1
         try clear c19
         try clear c19b0
         try clear c19b1
         try clear q20
         try clear c21
         try clear c22
         try clear c29
         try clear c33
         try clear c33b0
         try clear c33b1
         try clear c33b2
         try clear c41
         try clear hcz10_0
         try clear hcz10_1
         try clear hcz10_2
         try clear hcz10_3
         try clear hcz14_0
         try clear hcz14_1
         try clear hcz14_2
         try clear hcz14_3
         try clear hcz15_0
         try clear hcz15_1
         try clear hcz15_2
         try clear hcz15_3
         try clear hcz23_0
         try clear hcz23_1
         try clear hcz23_2
         try clear hcz23_3
         try clear hcz25_0
         try clear hcz25_1
         try clear hcz25_2
         try clear hcz25_3
         try clear hcz26_0
         try clear hcz26_1
         try clear hcz26_2
         try clear hcz26_3
         try clear hcz28_0
         try clear hcz28_1
         try clear hcz28_2
         try clear hcz28_3
         try clear hcz30_0
         try clear hcz30_1
         try clear hcz30_2
         try clear hcz30_3
         try clear hcz32_0
         try clear hcz32_1
         try clear hcz32_2
         try clear hcz32_3
         try clear hcz34_0
         try clear hcz34_1
         try clear hcz34_2
         try clear hcz34_3
         try clear hcz36_0
         try clear hcz36_1
         try clear hcz36_2
         try clear hcz36_3
         try clear hcz37_0
         try clear hcz37_1
         try clear hcz37_2
         try clear hcz37_3
         try clear hcz39_0
         try clear hcz39_1
         try clear hcz39_2
         try clear hcz39_3
         try clear hcz40_0
         try clear hcz40_1
         try clear hcz40_2
         try clear hcz40_3
         try clear hcz42_0
         try clear hcz42_1
         try clear hcz42_2
         try clear hcz42_3
         try clear hcz43_0
         try clear hcz43_1
         try clear hcz43_2
         try clear hcz43_3
         try clear hfz10_0
         try clear hfz10_1
         try clear hfz10_2
         try clear hfz10_3
         try clear hfz14_0
         try clear hfz14_1
         try clear hfz14_2
         try clear hfz14_3
         try clear hfz15_0
         try clear hfz15_1
         try clear hfz15_2
         try clear hfz15_3
         try clear hfz23_0
         try clear hfz23_1
         try clear hfz23_2
         try clear hfz23_3
         try clear hfz25_0
         try clear hfz25_1
         try clear hfz25_2
         try clear hfz25_3
         try clear hfz26_0
         try clear hfz26_1
         try clear hfz26_2
         try clear hfz26_3
         try clear hfz28_0
         try clear hfz28_1
         try clear hfz28_2
         try clear hfz28_3
         try clear hfz30_0
         try clear hfz30_1
         try clear hfz30_2
         try clear hfz30_3
         try clear hfz32_0
         try clear hfz32_1
         try clear hfz32_2
         try clear hfz32_3
         try clear hfz34_0
         try clear hfz34_1
         try clear hfz34_2
         try clear hfz34_3
         try clear hfz36_0
         try clear hfz36_1
         try clear hfz36_2
         try clear hfz36_3
         try clear hfz37_0
         try clear hfz37_1
         try clear hfz37_2
         try clear hfz37_3
         try clear hfz39_0
         try clear hfz39_1
         try clear hfz39_2
         try clear hfz39_3
         try clear hfz40_0
         try clear hfz40_1
         try clear hfz40_2
         try clear hfz40_3
         try clear hfz42_0
         try clear hfz42_1
         try clear hfz42_2
         try clear hfz42_3
         try clear hfz43_0
         try clear hfz43_1
         try clear hfz43_2
         try clear hfz43_3
         try clear hx58_0
         try clear hx58_1
         try clear hx58_2
         try clear hx58_3
         try clear hx60_0
         try clear p1
         try clear p15
         try clear p58
         try clear p60
         try clear p2
         try clear q1
         try clear q15
         try clear q58
         try clear q60
         obtain ⟨kq, x80_15, rfl, HA, HJ15, BK59, HB⟩ := hcut
         cases kq with
         | zero => exact absurd HA.out (by simp [spec_l6Check.j2])
         | succ kj15 =>
          have H := HA.out; clear HA; simp only [spec_l6Check.j2] at H
          by_cases c45 : x80_15 = true
          ·subst c45
           have H1 : (some ((⟨#[]⟩ : ByteArray), false, false)) = some (r1, r2, r3) := by rw [if_pos rfl] at H; exact H
           clear H; have H := H1; clear H1; simp only [Option.some.injEq, Prod.mk.injEq] at H; obtain ⟨rfl, rfl, rfl⟩ := H; go_wp2; go_ret3; exact ⟨by first | rfl | (simp <;> rfl) | (simp [*] <;> rfl), by repeat (first | (with_reducible first | exact HB.out | apply zH | apply zF | apply zG | refine zI ?_ GE59.out) | exact HB.out)⟩
          ·replace c45 := yO c45
           subst c45; have H1 : (if bz_ = true then (spec_l6Check.j3 kj15 a1 l2 x9_1 t53 bz_ l2 (l2.length : Int) x18_1 x13_7 ((rd_T38 l2 x18_1).f0) ((rd_T38 l2 x18_1).f1) ((rd_T38 l2 x18_1).f2) ((rd_T38 l2 x18_1).f3)) else (spec_l6Check.j3 kj15 a1 l2 x9_1 t53 bz_ l2 (l2.length : Int) x18_1 false ((rd_T38 l2 x18_1).f0) ((rd_T38 l2 x18_1).f1) ((rd_T38 l2 x18_1).f2) ((rd_T38 l2 x18_1).f3))) = some (r1, r2, r3) := by rw [if_neg (show ¬ (false = true) by decide)] at H; exact H
           clear H; have H := H1; clear H1; have HC46 := zA H; clear H; go_upto_region 10 with (fail)
           go_cut [84] (fun v84 wc => ∃ (kq : Nat) (x84_45 : Bool), v84 = .bool x84_45 ∧ Aside0 (spec_l6Check.j3 kq a1 l2 x9_1 t53 bz_ l2 (l2.length : Int) x18_1 x84_45 ((rd_T38 l2 x18_1).f0) ((rd_T38 l2 x18_1).f1) ((rd_T38 l2 x18_1).f2) ((rd_T38 l2 x18_1).f3) = some (r1, r2, r3)) ∧ Aside0 (kq ≤ kj15) ∧ Aside0 (wc.heap[gb59]? = some (.cells #[(.slice A58_0 ((rd_T38 l2 x18_1).f0).length c58_0), (.slice A58_1 ((rd_T38 l2 x18_1).f1).length c58_1), (.slice A58_2 ((rd_T38 l2 x18_1).f2).length c58_2), .int .i64 ((rd_T38 l2 x18_1).f3)] 38 (0, 0))) ∧ Aside0 (Below w.heap.size w wc))
           case first =>
            have H := HC46.out; clear HC46
            by_cases c48 : bz_ = true
            ·subst c48
             have H1 : (spec_l6Check.j3 kj15 a1 l2 x9_1 t53 true l2 (l2.length : Int) x18_1 x13_7 ((rd_T38 l2 x18_1).f0) ((rd_T38 l2 x18_1).f1) ((rd_T38 l2 x18_1).f2) ((rd_T38 l2 x18_1).f3)) = some (r1, r2, r3) := by rw [if_pos rfl] at H; exact H
             clear H; have H := H1; clear H1; have H' := zA H; clear H; go_wp2; go_meet
             case rel => exact ⟨_, (x13_7), (by first | rfl | (simp; done) | (simp [*]; done) | (simp [bne]; done)), H', ⟨by have := HK1.out; have := HJ7.out; have := HJ15.out; first | omega | exact Nat.le_refl _⟩, ⟨by (with_reducible repeat (first | refine zL ?_ _ | refine zN ?_ | refine zM ?_ _)); exact BK59.out⟩, ⟨by repeat (first | (with_reducible first | exact HB.out | apply zH | apply zF | apply zG | refine zI ?_ GE59.out) | exact HB.out)⟩⟩
            ·replace c48 := yO c48
             subst c48; have H1 : (spec_l6Check.j3 kj15 a1 l2 x9_1 t53 false l2 (l2.length : Int) x18_1 false ((rd_T38 l2 x18_1).f0) ((rd_T38 l2 x18_1).f1) ((rd_T38 l2 x18_1).f2) ((rd_T38 l2 x18_1).f3)) = some (r1, r2, r3) := by rw [if_neg (show ¬ (false = true) by decide)] at H; exact H
             clear H; have H := H1; clear H1; have H' := zA H; clear H; go_wp2; go_meet
             case rel => exact ⟨_, (false), (by first | rfl | (simp; done) | (simp [*]; done) | (simp [bne]; done)), H', ⟨by have := HK1.out; have := HJ7.out; have := HJ15.out; first | omega | exact Nat.le_refl _⟩, ⟨by (with_reducible repeat (first | refine zL ?_ _ | refine zN ?_ | refine zM ?_ _)); exact BK59.out⟩, ⟨by repeat (first | (with_reducible first | exact HB.out | apply zH | apply zF | apply zG | refine zI ?_ GE59.out) | exact HB.out)⟩⟩
           case rest =>
            clear HC46
            try clear c1
            try clear p1
            try clear q1
            try clear hx1
            try clear c2
            try clear p2
            try clear q2
            try clear c3
            try clear c4
            try clear c4b0
            try clear q4
            try clear c5
            try clear c5b0
            try clear c6
            try clear c6b0
            try clear p6
            try clear c7
            try clear c12
            try clear c12b0
            try clear c13
            try clear c13b0
            try clear c15
            try clear p15
            try clear q15
            try clear hx15
            try clear p16
            try clear q16
            try clear hx16
            try clear c18
            try clear c18b0
            try clear c18b1
            try clear c19
            try clear c19b0
            try clear c19b1
            try clear q20
            try clear c21
            try clear c22
            try clear c29
            try clear c33
            try clear c33b0
            try clear c33b1
            try clear c33b2
            try clear c41
            try clear c45
            try clear q47
            try clear c48
            try clear hcz10_0
            try clear hcz10_1
            try clear hcz10_2
            try clear hcz10_3
            try clear hcz14_0
            try clear hcz14_1
            try clear hcz14_2
            try clear hcz14_3
            try clear hcz15_0
            try clear hcz15_1
            try clear hcz15_2
            try clear hcz15_3
            try clear hcz23_0
            try clear hcz23_1
            try clear hcz23_2
            try clear hcz23_3
            try clear hcz25_0
            try clear hcz25_1
            try clear hcz25_2
            try clear hcz25_3
            try clear hcz26_0
            try clear hcz26_1
            try clear hcz26_2
            try clear hcz26_3
            try clear hcz28_0
            try clear hcz28_1
            try clear hcz28_2
            try clear hcz28_3
            try clear hcz30_0
            try clear hcz30_1
            try clear hcz30_2
            try clear hcz30_3
            try clear hcz32_0
            try clear hcz32_1
            try clear hcz32_2
            try clear hcz32_3
            try clear hcz34_0
            try clear hcz34_1
            try clear hcz34_2
            try clear hcz34_3
            try clear hcz36_0
            try clear hcz36_1
            try clear hcz36_2
            try clear hcz36_3
            try clear hcz37_0
            try clear hcz37_1
            try clear hcz37_2
            try clear hcz37_3
            try clear hcz39_0
            try clear hcz39_1
            try clear hcz39_2
            try clear hcz39_3
            try clear hcz40_0
            try clear hcz40_1
            try clear hcz40_2
            try clear hcz40_3
            try clear hcz42_0
            try clear hcz42_1
            try clear hcz42_2
            try clear hcz42_3
            try clear hcz43_0
            try clear hcz43_1
            try clear hcz43_2
            try clear hcz43_3
            try clear hfz10_0
            try clear hfz10_1
            try clear hfz10_2
            try clear hfz10_3
            try clear hfz14_0
            try clear hfz14_1
            try clear hfz14_2
            try clear hfz14_3
            try clear hfz15_0
            try clear hfz15_1
            try clear hfz15_2
            try clear hfz15_3
            try clear hfz23_0
            try clear hfz23_1
            try clear hfz23_2
            try clear hfz23_3
            try clear hfz25_0
            try clear hfz25_1
            try clear hfz25_2
            try clear hfz25_3
            try clear hfz26_0
            try clear hfz26_1
            try clear hfz26_2
            try clear hfz26_3
            try clear hfz28_0
            try clear hfz28_1
            try clear hfz28_2
            try clear hfz28_3
            try clear hfz30_0
            try clear hfz30_1
            try clear hfz30_2
            try clear hfz30_3
            try clear hfz32_0
            try clear hfz32_1
            try clear hfz32_2
            try clear hfz32_3
            try clear hfz34_0
            try clear hfz34_1
            try clear hfz34_2
            try clear hfz34_3
            try clear hfz36_0
            try clear hfz36_1
            try clear hfz36_2
            try clear hfz36_3
            try clear hfz37_0
            try clear hfz37_1
            try clear hfz37_2
            try clear hfz37_3
            try clear hfz39_0
            try clear hfz39_1
            try clear hfz39_2
            try clear hfz39_3
            try clear hfz40_0
            try clear hfz40_1
            try clear hfz40_2
            try clear hfz40_3
            try clear hfz42_0
            try clear hfz42_1
            try clear hfz42_2
            try clear hfz42_3
            try clear hfz43_0
            try clear hfz43_1
            try clear hfz43_2
            try clear hfz43_3
            try clear hx58_0
            try clear hx58_1
            try clear hx58_2
            try clear hx58_3
            try clear hx60_0
            try clear p1
            try clear p15
            try clear p58
            try clear p16
            try clear p60
            try clear p2
            try clear p6
            try clear q1
            try clear q15
            try clear q58
            try clear q16
            try clear q60
            try clear q2
            try clear q20
            obtain ⟨kq, x84_45, rfl, HA, HJ45, BK59, HB⟩ := hcut
            cases kq with
            | zero => exact absurd HA.out (by simp [spec_l6Check.j3])
            | succ kj45 =>
             have H := HA.out; clear HA; simp only [spec_l6Check.j3] at H
             by_cases c49 : x84_45 = true
             ·subst c49
              have H1 : (if 0 ≤ t53 then (if t53 < (((rd_T38 l2 x18_1).f1).length : Int) then (some (rdOf ByteArray.empty ((rd_T38 l2 x18_1).f1) t53, true, true)) else (none)) else (none)) = some (r1, r2, r3) := by rw [if_pos rfl] at H; exact H
              clear H; have H := H1; clear H1
              by_cases c50 : 0 ≤ t53
              ·rw [if_pos c50] at H
               have c50b0 : decide (0 ≤ t53) = true := zX c50; clear c50
               by_cases c51 : t53 < (((rd_T38 l2 x18_1).f1).length : Int)
               ·rw [if_pos c51] at H
                have c51b0 : decide (t53 < (((rd_T38 l2 x18_1).f1).length : Int)) = true := zX c51; clear c51; simp only [Option.some.injEq, Prod.mk.injEq] at H; obtain ⟨rfl, rfl, rfl⟩ := H; have hcz52_0 := yL BK59.out 0 (.slice A58_0 ((rd_T38 l2 x18_1).f0).length c58_0) rfl; have hcz52_1 := yL BK59.out 1 (.slice A58_1 ((rd_T38 l2 x18_1).f1).length c58_1) rfl; have hcz52_2 := yL BK59.out 2 (.slice A58_2 ((rd_T38 l2 x18_1).f2).length c58_2) rfl; have hcz52_3 := yL BK59.out 3 (.int .i64 ((rd_T38 l2 x18_1).f3)) rfl; have hfz52_0 := zO BK59.out 0; have hfz52_1 := zO BK59.out 1; have hfz52_2 := zO BK59.out 2; have hfz52_3 := zO BK59.out 3; have p63 : 0 ≤ (t53 : Int) := zW (by first | (with_reducible assumption) | assumption); have q63 : t53 < (((rd_T38 l2 x18_1).f1).length : Int) := zW (by first | (with_reducible assumption) | assumption); obtain ⟨ad63, e63, hx63_0⟩ := Kd.at_string HR58_1.out t53 p63 q63
                cases e63
                replace hx63_0 := (HB.out.cell (zB w _ hx63_0)).trans hx63_0; replace p63 := eq_true p63; replace q63 := eq_true q63; go_wp2; go_ret3; exact ⟨by first | rfl | (simp <;> rfl) | (simp [*] <;> rfl), by repeat (first | (with_reducible first | exact HB.out | apply zH | apply zF | apply zG | refine zI ?_ GE59.out) | exact HB.out)⟩
               ·rw [if_neg c51] at H
                exact absurd H (by simp)
              ·rw [if_neg c50] at H
               exact absurd H (by simp)
             ·replace c49 := yO c49
              subst c49; have H1 : (if bz_ = true then (spec_l6Check.l0 kj45 a1 l2 x9_1 l2 (l2.length : Int) (wrap64 (x18_1 + 1))) else (if 0 ≤ t53 then (if t53 < (((rd_T38 l2 x18_1).f2).length : Int) then (spec_l6Check.l0 kj45 a1 l2 (rdOf ByteArray.empty ((rd_T38 l2 x18_1).f2) t53) l2 (l2.length : Int) (wrap64 (x18_1 + 1))) else (none)) else (none))) = some (r1, r2, r3) := by rw [if_neg (show ¬ (false = true) by decide)] at H; exact H
              clear H; have H := H1; clear H1
              by_cases c54 : bz_ = true
              ·subst c54
               have H1 : (spec_l6Check.l0 kj45 a1 l2 x9_1 l2 (l2.length : Int) (wrap64 (x18_1 + 1))) = some (r1, r2, r3) := by rw [if_pos rfl] at H; exact H
               clear H; have H := H1; clear H1; have H' := zA H; clear H; go_wp2; go_roundg kj45
               case measure => have := HK1.out; have := HJ7.out; have := HJ15.out; have := HJ45.out; omega
               case rel => exact ⟨(x9_1), (wrap64 (x18_1 + 1)), (by first | rfl | (simp; done) | (simp [*]; done) | (simp [bne]; done)), (by first | rfl | (simp; done) | (simp [*]; done) | (simp [bne]; done)), H', ⟨by have := HK1.out; have := HJ7.out; have := HJ15.out; have := HJ45.out; omega⟩, ⟨by repeat (first | (with_reducible first | exact HB.out | apply zH | apply zF | apply zG | refine zI ?_ GE59.out) | exact HB.out)⟩⟩
              ·replace c54 := yO c54
               subst c54; have H1 : (if 0 ≤ t53 then (if t53 < (((rd_T38 l2 x18_1).f2).length : Int) then (spec_l6Check.l0 kj45 a1 l2 (rdOf ByteArray.empty ((rd_T38 l2 x18_1).f2) t53) l2 (l2.length : Int) (wrap64 (x18_1 + 1))) else (none)) else (none)) = some (r1, r2, r3) := by rw [if_neg (show ¬ (false = true) by decide)] at H; exact H
               clear H; have H := H1; clear H1
               by_cases c55 : 0 ≤ t53
               ·rw [if_pos c55] at H
                have c55b0 : decide (0 ≤ t53) = true := zX c55; clear c55
                by_cases c56 : t53 < (((rd_T38 l2 x18_1).f2).length : Int)
                ·rw [if_pos c56] at H
                 have c56b0 : decide (t53 < (((rd_T38 l2 x18_1).f2).length : Int)) = true := zX c56; clear c56; have H' := zA H; clear H; have hcz57_0 := yL BK59.out 0 (.slice A58_0 ((rd_T38 l2 x18_1).f0).length c58_0) rfl; have hcz57_1 := yL BK59.out 1 (.slice A58_1 ((rd_T38 l2 x18_1).f1).length c58_1) rfl; have hcz57_2 := yL BK59.out 2 (.slice A58_2 ((rd_T38 l2 x18_1).f2).length c58_2) rfl; have hcz57_3 := yL BK59.out 3 (.int .i64 ((rd_T38 l2 x18_1).f3)) rfl; have hfz57_0 := zO BK59.out 0; have hfz57_1 := zO BK59.out 1; have hfz57_2 := zO BK59.out 2; have hfz57_3 := zO BK59.out 3; have p65 : 0 ≤ (t53 : Int) := zW (by first | (with_reducible assumption) | assumption); have q65 : t53 < (((rd_T38 l2 x18_1).f2).length : Int) := zW (by first | (with_reducible assumption) | assumption); obtain ⟨ad65, e65, hx65_0⟩ := Kd.at_string HR58_2.out t53 p65 q65
                 cases e65
                 replace hx65_0 := (HB.out.cell (zB w _ hx65_0)).trans hx65_0; replace p65 := eq_true p65; replace q65 := eq_true q65; go_wp2; go_roundg kj45
                 case measure => have := HK1.out; have := HJ7.out; have := HJ15.out; have := HJ45.out; omega
                 case rel => exact ⟨(rdOf ByteArray.empty ((rd_T38 l2 x18_1).f2) t53), (wrap64 (x18_1 + 1)), (by first | rfl | (simp; done) | (simp [*]; done) | (simp [bne]; done)), (by first | rfl | (simp; done) | (simp [*]; done) | (simp [bne]; done)), H', ⟨by have := HK1.out; have := HJ7.out; have := HJ15.out; have := HJ45.out; omega⟩, ⟨by repeat (first | (with_reducible first | exact HB.out | apply zH | apply zF | apply zG | refine zI ?_ GE59.out) | exact HB.out)⟩⟩
                ·rw [if_neg c56] at H
                 exact absurd H (by simp)
               ·rw [if_neg c55] at H
                exact absurd H (by simp)
     ·rw [if_neg c6] at H
      exact absurd H (by simp)
    ·rw [if_neg c5] at H
     exact absurd H (by simp)
   ·rw [if_neg c4] at H
    have c4b0 : decide (x18_1 < (l2.length : Int)) = false := decide_eq_false c4; clear c4; simp only [Option.some.injEq, Prod.mk.injEq] at H; obtain ⟨rfl, rfl, rfl⟩ := H; go_wp2; go_ret3; exact ⟨by first | rfl | (simp <;> rfl) | (simp [*] <;> rfl), by (with_reducible repeat first | exact HB.out | apply zH | apply zF | apply zG) <;> exact HB.out⟩
end Go.Proofs.Ytpbepgffbcfaoaa.PA
end
