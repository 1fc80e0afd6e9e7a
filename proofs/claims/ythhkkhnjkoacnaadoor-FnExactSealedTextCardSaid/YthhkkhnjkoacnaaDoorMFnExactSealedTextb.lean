/- For the law FnExactSealedText: what it needs of the words, of the printed functions and of the plain laws, in few texts (laid by merge.py of this workplace). -/
import Derived.Test.YthhkkhnjkoacnaaDoorMFnExactSealedTexta
import Derived.Shelf.Strings.Replace
import Derived.Shelf.Small.Strs
import Derived.Shelf.Strconv.Itoa3
import Derived.Test.YthhkkhnjkoacnaaDoorProg
import Derived.Below
import Derived.Deep.Draws
import Derived.Deep.AppendLies
import Derived.Maps.AppendAt
import Derived.OwnWalk
import Derived.Laws.BytesArg
import Derived.Laws.MakeOwn
import Derived.Laws.OwnMore
import Derived.Deep.OwnRows
import Derived.Tactics
import Derived.Lib.ConvBytes
import Derived.Laws.Slices
import Derived.WalkKit
import Derived.KernelRfl
import Derived.RowKit3
import Derived.Deep.LoopGhost
import Derived.Deep.QuietTactic
import Derived.BigQuiet
import Derived.WideLaws
import Derived.Deep.DeepCutAuto
import Derived.Deep.CutBlock
import Derived.Deep.RegionHeld3
import Derived.Laws.Rows
import Derived.Lib.AppendStr
import Derived.ArgAppend
import Derived.Laws.IdiomCopy
import Derived.OrdersHeld
import Derived.Laws.BitsLemmas
import Derived.RowKit
import Derived.WalkLawsBesides
section
namespace Go.Proofs.YthhkkhnjkoacnaaDoor.QR
open Go Go.Shelf Go.RowKit Go.Lib Go.Proofs
set_option linter.unusedVariables false
def rep (c : UInt8) (new l : List UInt8) : List UInt8 := l.flatMap fun b => if b = c then new else [b]
theorem rep_cons (c : UInt8) (new : List UInt8) (b : UInt8) (l : List UInt8) : rep c new (b :: l) = (if b = c then new else [b]) ++ rep c new l := by simp [rep]
theorem rep_hit (c : UInt8) (new : List UInt8) : ∀ (l : List UInt8) (j : Nat), Lib.indexByte l c = (j : Int) → j < l.length ∧ rep c new l = l.take j ++ new ++ rep c new (l.drop (j + 1)) ∧ l.count c = (l.drop (j + 1)).count c + 1 := by
 intro l
 induction l with
 | nil => intro j h; simp only [Lib.indexByte] at h; omega
 | cons b l ih =>
  intro j h
  by_cases hb : b = c
  ·subst hb
   have : j = 0 := by simp only [Lib.indexByte, beq_self_eq_true, if_true] at h; omega
   subst this
   refine ⟨by simp, ?_, by simp⟩
   rw [rep_cons, if_pos rfl]
   rfl
  ·have hb' : (b == c) = false := beq_eq_false_iff_ne.2 hb
   simp only [Lib.indexByte, hb'] at h
   by_cases hm : Lib.indexByte l c = -1
   ·rw [hm] at h; simp at h
   ·have hm' : (Lib.indexByte l c == -1) = false := beq_eq_false_iff_ne.2 hm
    rw [hm'] at h
    simp at h
    have hge := Lib.indexByte_ge l c
    obtain ⟨i, hi⟩ : ∃ i : Nat, Lib.indexByte l c = (i : Int) := ⟨(Lib.indexByte l c).toNat, by omega⟩
    have hj : j = i + 1 := by omega
    subst hj
    obtain ⟨h1, h2, h3⟩ := ih i hi
    refine ⟨by simp; omega, ?_, ?_⟩
    ·rw [rep_cons, if_neg hb, h2]
     simp
    ·rw [List.count_cons_of_ne hb, h3]
     simp
theorem rep_miss (c : UInt8) (new : List UInt8) : ∀ l : List UInt8, l.count c = 0 → rep c new l = l := by
 intro l
 induction l with
 | nil => intro _; rfl
 | cons b l ih =>
  intro h
  by_cases hb : b = c
  ·subst hb; simp at h
  ·rw [List.count_cons_of_ne hb] at h
   rw [rep_cons, if_neg hb, ih h]
   rfl
theorem hit_of_count (c : UInt8) : ∀ l : List UInt8, 0 < l.count c → ∃ j : Nat, Lib.indexByte l c = (j : Int) := by
 intro l
 induction l with
 | nil => intro h; simp at h
 | cons b l ih =>
  intro h
  by_cases hb : b = c
  ·subst hb; exact ⟨0, by simp [Lib.indexByte]⟩
  ·rw [List.count_cons_of_ne hb] at h
   obtain ⟨j, hj⟩ := ih h
   refine ⟨j + 1, ?_⟩
   have hb' : (b == c) = false := beq_eq_false_iff_ne.2 hb
   have hm' : (Lib.indexByte l c == -1) = false := beq_eq_false_iff_ne.2 (by omega)
   simp only [Lib.indexByte, hb', hm', hj]
   simp
theorem hid {p : Prop} (h : p) : Hid p := h
variable {P : Program} {ρ : Ren}
set_option maxHeartbeats 16000000 in
set_option maxRecDepth 1000000 in
theorem some_hit (L : Lays.n154 P ρ) (X : Builder.Extra P ρ) (s old new : ByteArray) (c : UInt8) (w : World) (ho : old = ⟨#[c]⟩) (hne : old ≠ new) (hc0 : s.data.toList.count c ≠ 0) (hs : s.size ≤ 1000000) (hn : new.size ≤ 1000000) :
  Calls P (ρ.f 154) #[.string s, .string old, .string new, .int .i64 (-1)] w fun e w' => e = .returned (.string ⟨(rep c new.data.toList s.data.toList).toArray⟩) ∧ Below w.heap.size w w' := by
 have hC : Calls P (ρ.f 138) #[.string s, .string old] w fun e w' => e = .returned (.int .i64 (Lib.countByte s.data.toList c)) ∧ w' = w := by rw [ho]; exact Any.strings_Count_one { L with } s c w
 have hI : ∀ (t : ByteArray) (W : World), Calls P (ρ.f 143) #[.string t, .string old] W fun e w' => e = .returned (.int .i64 (Lib.indexByte t.data.toList c)) ∧ w' = W := by intro t W; rw [ho]; exact Any.strings_Index_one { L with } t c W
 have h1 : old.size = 1 := by rw [ho]; rfl
 clear ho
 obtain ⟨K, hK⟩ : ∃ K : Nat, Lib.countByte s.data.toList c = K := ⟨_, rfl⟩
 have hKc : s.data.toList.count c = K := hK
 rw [hK] at hC
 rw [hKc] at hc0
 have hlenL : s.data.toList.length = s.size := (Lib.size_eq s).symm
 have hKs : K ≤ s.size := by rw [← hKc, ← hlenL]; exact List.count_le_length
 have hbeq : (old.toList == new.toList) = false := (Lib.bytes_beq_false_iff old new).2 hne
 have hcz : ((K : Int) == 0) = false := beq_eq_false_iff_ne.2 (by omega)
 have hmul : K * new.size ≤ 1000000000000 := Nat.le_trans (Nat.mul_le_mul hKs (Nat.le_refl _)) (Nat.le_trans (Nat.mul_le_mul hs hn) (by omega))
 have hga := Lib.grow_arg s.size K new.size old.size (by omega) (by rw [h1]; omega) (by omega)
 have hod : decide (0 < old.size) = true := decide_eq_true (by omega)
 have ho0 : (0 : Int) < (old.size : Int) := by omega
 have hone := hid h1
 have hroom : s.size + K * new.size - K * old.size ≤ 1000001000000 := by omega
 clear h1
 have mixed := L.mixed
 have t72 := L.t72; have a72 := L.a72; have z72 := L.z72; have v72 := L.v72; have u72 := run_underlying L.t72
 have t70 := L.t70; have a70 := L.a70; have z70 := L.z70; have v70 := L.v70; have u70 := run_underlying L.t70
 have t37 := L.t37; have a37 := L.a37; have z37 := L.z37; have v37 := L.v37; have u37 := run_underlying L.t37
 have t3 := L.t3; have a3 := L.a3; have z3 := L.z3; have v3 := L.v3; have u3 := run_underlying L.t3
 have t9 := L.t9; have a9 := L.a9; have z9 := L.z9; have v9 := L.v9; have u9 := run_underlying L.t9
 have t4 := L.t4; have a4 := L.a4; have z4 := L.z4; have v4 := L.v4; have u4 := run_underlying L.t4
 have e138 : ∀ args w, (callFunc (ρ.f 138) args).run P w = .ok (.enter (ρ.f 138) args) w := enters_of L.f138 (by kernel_rfl) rfl
 have e143 : ∀ args w, (callFunc (ρ.f 143) args).run P w = .ok (.enter (ρ.f 143) args) w := enters_of L.f143 (by kernel_rfl) rfl
 have e165 : ∀ args w, (callFunc (ρ.f 165) args).run P w = .ok (.enter (ρ.f 165) args) w := enters_of L.f165 (by kernel_rfl) rfl
 have e166 : ∀ args w, (callFunc (ρ.f 166) args).run P w = .ok (.enter (ρ.f 166) args) w := enters_of L.f166 (by kernel_rfl) rfl
 have e169 : ∀ args w, (callFunc (ρ.f 169) args).run P w = .ok (.enter (ρ.f 169) args) w := enters_of L.f169 (by kernel_rfl) rfl
 go_enter L.f154, Body.n154_ntmps ρ
 go_wp2_with (first | (go_at_fn (ρ.f 138); refine hC.mono ?_; rintro e w' ⟨rfl, hw⟩; rw [hw]))
 clear hC
 try rw [hga]
 refine (Any.Builder_Grow_fresh { L with } X w.heap.size w.heap.size _ _ (Nat.le_refl _) (heap_alloc_new w _) (by simp) (by omega)).mono ?_
 rintro e w1 ⟨rfl, hb0, hb1⟩
 have H1 := hid (Or.inr hb0 : Lib.IsBuilder (ρ.t 72) (ρ.t 5) w.heap.size w.heap.size (Lib.byteCells []) w1)
 have Hb1 := hid (((Below.refl w.heap.size w).alloc (Nat.le_refl _) _).trans hb1)
 clear hb0 hb1 hga
 go_wp2_with fail
 go_loopg [11, 53] K (fun g s11 s53 wx => ∃ (i start : Nat) (acc : List UInt8), s53 = .int .i64 i ∧ s11 = .int .i64 start ∧ i + g = K ∧ start ≤ s.size ∧ Hid (Lib.IsBuilder (ρ.t 72) (ρ.t 5) w.heap.size w.heap.size (Lib.byteCells acc) wx) ∧ Hid (Below w.heap.size w wx) ∧
  Hid (acc ++ rep c new.data.toList (s.data.toList.drop start) = rep c new.data.toList s.data.toList) ∧ (s.data.toList.drop start).count c = g ∧ acc.length ≤ start + i * new.size)
 case atStart => exact ⟨0, 0, [], rfl, rfl, by omega, Nat.zero_le _, H1, Hb1, hid (by simp), by simpa using hKc, by simp⟩
 case round =>
  obtain ⟨i, start, acc, rfl, rfl, hig, hst, HB, HW, HR, hgc, hbd⟩ := hrel
  have hBw : w.heap.size ≤ wr.heap.size := HW.out.size
  have c1 : (0 : Int) ≤ (start : Int) := by omega
  have c2 : (start : Int) ≤ (s.size : Int) := by omega
  have hin : i * new.size ≤ 1000000000000 := Nat.le_trans (Nat.mul_le_mul (show i ≤ K by omega) (Nat.le_refl _)) hmul
  cases gk with
  | zero =>
   have hiK : ¬ ((i : Int) < (K : Int)) := by omega
   go_wp2_with fail
   refine (Any.Builder_WriteString { L with } X w.heap.size w.heap.size _ _ wr HB.out (by rw [Lib.byteCells_length, ByteArray.size_extract]; omega) hBw).mono ?_
   rintro e w3 ⟨rfl, h3, hb3⟩
   rw [Lib.strCells_eq, Lib.extract_to_end, ← Lib.byteCells_append] at h3
   have hfin : acc ++ s.data.toList.drop start = rep c new.data.toList s.data.toList := by
    rw [← HR.out, rep_miss c _ _ hgc]
   rw [hfin] at h3
   have H3 := hid (Or.inr h3 : Lib.IsBuilder (ρ.t 72) (ρ.t 5) w.heap.size w.heap.size _ w3)
   have Hb3 := hid (HW.out.trans hb3)
   have hBw3 : w.heap.size ≤ w3.heap.size := Hb3.out.size
   clear h3 hb3 hfin
   go_wp2_with fail
   refine (Any.Builder_String_any { L with } X w.heap.size w.heap.size _ w3 H3.out hBw3).mono ?_
   rintro e w5 ⟨rfl, hb5⟩
   have Hb5 := hid (Hb3.out.trans hb5)
   clear hb5
   go_wp2
   go_ret
   exact ⟨rfl, Hb5.out⟩
  | succ g =>
   have hiK : (i : Int) < (K : Int) := by omega
   obtain ⟨j, hj⟩ := hit_of_count c (s.data.toList.drop start) (by omega)
   obtain ⟨hr1, hr2, hr3⟩ := rep_hit c new.data.toList _ j hj
   rw [List.length_drop, hlenL] at hr1
   have hsucc : (i + 1) * new.size = i * new.size + new.size := Nat.succ_mul _ _
   have c3 : (start : Int) ≤ (start : Int) + (j : Int) := by omega
   have c4 : (start : Int) + (j : Int) ≤ (s.size : Int) := by omega
   have hnext : Lib.byteCells acc ++ Lib.strCells (s.extract start (start + j)) ++ Lib.strCells new = Lib.byteCells (acc ++ (s.data.toList.drop start).take j ++ new.data.toList) := by
    rw [Lib.strCells_eq, Lib.strCells_eq, Lib.extract_data, Nat.add_sub_cancel_left, ← Lib.byteCells_append, ← Lib.byteCells_append]
   have hdd : (s.data.toList.drop start).drop (j + 1) = s.data.toList.drop (start + j + old.size) := by rw [List.drop_drop, hone.out, Nat.add_assoc]
   rw [hdd] at hr2 hr3
   have hrep : (acc ++ (s.data.toList.drop start).take j ++ new.data.toList) ++ rep c new.data.toList (s.data.toList.drop (start + j + old.size)) = rep c new.data.toList s.data.toList := by
    rw [← HR.out, hr2]
    simp only [List.append_assoc]
   have h1 := hone.out
   have hcnt : (s.data.toList.drop (start + j + old.size)).count c = g := by omega
   have htl : ((s.data.toList.drop start).take j).length = j := by rw [List.length_take, List.length_drop, hlenL]; omega
   have Hn := hid hnext
   have Hrep := hid hrep
   have hI2 := hid (hI (s.extract start s.size) wr)
   have hst2 : start + j + old.size ≤ s.size := by omega
   clear hnext hrep HR hr2 hr3 hdd h1
   go_wp2_with (first | (go_at_fn (ρ.f 143); refine (hI _ _).mono ?_; rintro e w' ⟨rfl, hw⟩; rw [hw, Lib.extract_to_end, hj]))
   refine (Any.Builder_WriteString { L with } X w.heap.size w.heap.size _ (s.extract start (start + j)) wr HB.out (by rw [Lib.byteCells_length, ByteArray.size_extract]; omega) hBw).mono ?_
   rintro e w3 ⟨rfl, h3, hb3⟩
   have hBw3 : w.heap.size ≤ w3.heap.size := Nat.le_trans hBw hb3.size
   have H3 := hid h3
   have Hb3 := hid hb3
   clear h3 hb3
   go_wp2_with fail
   refine (Any.Builder_WriteString { L with } X w.heap.size w.heap.size _ new w3 (Or.inr H3.out) (by rw [List.length_append, Lib.byteCells_length, Lib.strCells_length, ByteArray.size_extract]; omega) hBw3).mono ?_
   rintro e w4 ⟨rfl, h4, hb4⟩
   rw [Hn.out] at h4
   have H4 := hid (Or.inr h4 : Lib.IsBuilder (ρ.t 72) (ρ.t 5) w.heap.size w.heap.size _ w4)
   have Hb4 := hid ((HW.out.trans Hb3.out).trans hb4)
   clear h4 hb4
   go_wp2
   go_roundg g
   case measure => omega
   case rel => exact ⟨i + 1, start + j + old.size, _, by first | rfl | (simp; unfold wrap64; omega), by first | rfl | simp | (simp; unfold wrap64; omega), by omega, by omega, H4, Hb4, Hrep, hcnt, by simp only [List.length_append, htl, ← Lib.size_eq]; omega⟩
set_option maxHeartbeats 4000000 in
set_option maxRecDepth 1000000 in
theorem no_hit (L : Lays.n154 P ρ) (s old new : ByteArray) (c : UInt8) (w : World) (ho : old = ⟨#[c]⟩) (hne : old ≠ new) (hc0 : s.data.toList.count c = 0) :
  Calls P (ρ.f 154) #[.string s, .string old, .string new, .int .i64 (-1)] w fun e w' => e = .returned (.string s) ∧ w' = w := by
 have hC : Calls P (ρ.f 138) #[.string s, .string old] w fun e w' => e = .returned (.int .i64 ((0 : Nat) : Int)) ∧ w' = w := by
  have := Any.strings_Count_one { L with } s c w
  rw [show Lib.countByte s.data.toList c = 0 from hc0] at this
  rw [ho]; exact this
 have hbeq : (old.toList == new.toList) = false := (Lib.bytes_beq_false_iff old new).2 hne
 have t3 := L.t3; have a3 := L.a3; have z3 := L.z3; have v3 := L.v3
 have t9 := L.t9; have a9 := L.a9; have z9 := L.z9; have v9 := L.v9
 have t4 := L.t4; have a4 := L.a4; have z4 := L.z4; have v4 := L.v4
 have e138 : ∀ args w, (callFunc (ρ.f 138) args).run P w = .ok (.enter (ρ.f 138) args) w := enters_of L.f138 (by kernel_rfl) rfl
 clear ho
 go_enter L.f154, Body.n154_ntmps ρ
 go_wp2_with (first | (go_at_fn (ρ.f 138); refine hC.mono ?_; rintro e w' ⟨rfl, hw⟩; rw [hw]))
 go_ret
 exact ⟨rfl, rfl⟩
set_option maxHeartbeats 4000000 in
set_option maxRecDepth 1000000 in
theorem all (L : Lays.n155 P ρ) (X : Builder.Extra P ρ) (s old new : ByteArray) (c : UInt8) (w : World) (ho : old = ⟨#[c]⟩) (hne : old ≠ new) (hs : s.size ≤ 1000000) (hn : new.size ≤ 1000000) :
  Calls P (ρ.f 155) #[.string s, .string old, .string new] w fun e w' => e = .returned (.string ⟨(rep c new.data.toList s.data.toList).toArray⟩) ∧ Below w.heap.size w w' := by
 have hR : Calls P (ρ.f 154) #[.string s, .string old, .string new, .int .i64 (-1)] w fun e w' => e = .returned (.string ⟨(rep c new.data.toList s.data.toList).toArray⟩) ∧ Below w.heap.size w w' := by
  by_cases h0 : s.data.toList.count c = 0
  ·refine (no_hit { L with } s old new c w ho hne h0).mono fun e w' ⟨h1, h2⟩ => ⟨?_, h2 ▸ Below.refl _ _⟩
   rw [h1, rep_miss c _ _ h0, Lib.mk_data]
  ·exact some_hit { L with } X s old new c w ho hne h0 hs hn
 have t3 := L.t3; have a3 := L.a3; have z3 := L.z3; have v3 := L.v3
 have t9 := L.t9; have a9 := L.a9; have z9 := L.z9; have v9 := L.v9
 have e154 : ∀ args w, (callFunc (ρ.f 154) args).run P w = .ok (.enter (ρ.f 154) args) w := enters_of L.f154 (by kernel_rfl) rfl
 clear ho
 go_enter L.f155, Body.n155_ntmps ρ
 go_wp2_with (go_at_fn (ρ.f 154); refine hR.mono ?_; rintro e w' ⟨rfl, hw⟩)
 go_ret
 exact ⟨rfl, hw⟩
end Go.Proofs.YthhkkhnjkoacnaaDoor.QR
end
section
namespace Go.Proofs.YthhkkhnjkoacnaaDoor.QS
open Go.Shelf
def lays171_ren : Go.Shelf.Ren := ⟨fun | 171 => 66 | 243 => 86 | 246 => 99 | 283 => 110 | 284 => 111 | 285 => 112 | 286 => 113 | 129 => 121 | 317 => 120 | 318 => 122 | 319 => 123 | 320 => 124 | 337 => 127 | 338 => 128 | n => n, fun | 3 => 3 | 9 => 9 | 2 => 2 | 4 => 4 | 171 => 128 | 0 => 0 | 53 => 75 | 37 => 48 | 5 => 5 | 173 => 131 | 212 => 141 | 51 => 142 | 20 => 20 | 213 => 143 | 46 => 86 | 232 => 148 | 233 => 149 | n => n, fun | 17 => 3 | 18 => 4 | 19 => 5 | n => n⟩
theorem lays171 : Go.Proofs.Lays.n171 Tryd.prog lays171_ren := {
 mixed := by kernel_rfl
 f129 := Tryd.func121.trans (congrArg some (by kernel_rfl))
 f171 := Tryd.func66.trans (congrArg some (by kernel_rfl))
 f243 := Tryd.func86.trans (congrArg some (by kernel_rfl))
 f246 := Tryd.func99.trans (congrArg some (by kernel_rfl))
 f283 := Tryd.func110.trans (congrArg some (by kernel_rfl))
 f284 := Tryd.func111.trans (congrArg some (by kernel_rfl))
 f285 := Tryd.func112.trans (congrArg some (by kernel_rfl))
 f286 := Tryd.func113.trans (congrArg some (by kernel_rfl))
 f317 := Tryd.func120.trans (congrArg some (by kernel_rfl))
 f318 := Tryd.func122.trans (congrArg some (by kernel_rfl))
 f319 := Tryd.func123.trans (congrArg some (by kernel_rfl))
 f320 := Tryd.func124.trans (congrArg some (by kernel_rfl))
 f337 := Tryd.func127.trans (congrArg some (by kernel_rfl))
 f338 := Tryd.func128.trans (congrArg some (by kernel_rfl))
 t0 := Tryd.underlying0
 a0 := Tryd.isAgg0
 z0 := Tryd.sizeOf0
 v0 := Tryd.zeroValue0
 t2 := Tryd.underlying2
 a2 := Tryd.isAgg2
 z2 := Tryd.sizeOf2
 v2 := Tryd.zeroValue2
 t3 := Tryd.underlying3
 a3 := Tryd.isAgg3
 z3 := Tryd.sizeOf3
 v3 := Tryd.zeroValue3
 t4 := Tryd.underlying4
 a4 := Tryd.isAgg4
 z4 := Tryd.sizeOf4
 v4 := Tryd.zeroValue4
 t5 := Tryd.underlying5
 a5 := Tryd.isAgg5
 z5 := Tryd.sizeOf5
 v5 := Tryd.zeroValue5
 t9 := Tryd.underlying9
 a9 := Tryd.isAgg9
 z9 := Tryd.sizeOf9
 v9 := Tryd.zeroValue9
 t20 := Tryd.underlying20
 a20 := Tryd.isAgg20
 z20 := Tryd.sizeOf20
 v20 := Tryd.zeroValue20
 t37 := Tryd.underlying48
 a37 := Tryd.isAgg48
 z37 := Tryd.sizeOf48
 v37 := Tryd.zeroValue48
 t46 := Tryd.underlying86
 a46 := Tryd.isAgg86
 z46 := Tryd.sizeOf86
 v46 := Tryd.zeroValue86
 t51 := Tryd.underlying142
 a51 := Tryd.isAgg142
 z51 := Tryd.sizeOf142
 v51 := Tryd.zeroValue142
 t53 := Tryd.underlying75
 a53 := Tryd.isAgg75
 z53 := Tryd.sizeOf75
 v53 := Tryd.zeroValue75
 t171 := Tryd.underlying128
 a171 := Tryd.isAgg128
 z171 := Tryd.sizeOf128
 v171 := Tryd.zeroValue128
 t173 := Tryd.underlying131
 a173 := Tryd.isAgg131
 z173 := Tryd.sizeOf131
 v173 := Tryd.zeroValue131
 t212 := Tryd.underlying141
 a212 := Tryd.isAgg141
 z212 := Tryd.sizeOf141
 v212 := Tryd.zeroValue141
 t213 := Tryd.underlying143
 a213 := Tryd.isAgg143
 z213 := Tryd.sizeOf143
 t232 := Tryd.underlying148
 a232 := Tryd.isAgg148
 z232 := Tryd.sizeOf148
 v232 := Tryd.zeroValue148
 t233 := Tryd.underlying149
 a233 := Tryd.isAgg149
 z233 := Tryd.sizeOf149
 v233 := Tryd.zeroValue149
 g17 := by kernel_rfl
 g18 := by kernel_rfl
 g19 := by kernel_rfl }
end Go.Proofs.YthhkkhnjkoacnaaDoor.QS
end
section
namespace Go.Proofs.YthhkkhnjkoacnaaDoor.PA
open Go.RowKit Go.Proofs.YthhkkhnjkoacnaaDoorW.PrintWords Go.Proofs.YthhkkhnjkoacnaaDoorW.PrintLast Go.Proofs.YthhkkhnjkoacnaaDoorW.PrintMore
attribute [local go_sem] max2_int min2_int max_two min_two max_three min_three max_four min_four
set_option linter.unusedVariables false
set_option linter.unusedSimpArgs false
set_option maxHeartbeats 60000000
set_option maxRecDepth 100000
theorem zA : ∀ {p : Prop}, p → Aside0 p := @Aside0.mk
theorem zB : ∀ (w : World) (a : Addr) {u : Value}, World.cell? w a = some u → Addr.block a < Array.size (World.heap w) := @World.block_lt_of_cell?
theorem zC : ∀ {α : Type _} (l : List α) (i : Nat) (a : α), Array.setIfInBounds (List.toArray l) i a = List.toArray (List.set l i a) := @List.setIfInBounds_toArray
theorem zD : ∀ {α : Type _} {x : α} {xs : List α} {a : α}, List.set (x :: xs) 0 a = a :: xs := @List.set_cons_zero
theorem zE : ∀ {α : Type _} {x : α} {xs : List α} {i : Nat} {a : α}, List.set (x :: xs) (i + 1) a = x :: List.set xs i a := @List.set_cons_succ
theorem zF : ∀ {B : Nat} {w W : World}, Below B w W → ∀ (n : Nat), Below B w (World.drewN W n) := @pw_below_drewN
theorem zG : ∀ {base : Nat} {w W : World}, Below base w W → Below base w (World.drew W) := @below_drew1
theorem zH : ∀ {w W : World}, Below (Array.size (World.heap w)) w W → ∀ (o : Obj), Below (Array.size (World.heap w)) w (World.alloc W o) := @below_alloc
theorem zI : ∀ {w W : World} {g j : Nat} {v : Value}, Below (Array.size (World.heap w)) w W → Array.size (World.heap w) ≤ g → Below (Array.size (World.heap w)) w (World.setCell W { block := g, off := j } v) := @below_set
theorem zK : ∀ {a b : Nat}, a < b → a ≠ b := @Nat.ne_of_lt
theorem zL : ∀ {w : World} {g : Nat} {o : Obj}, (World.heap w)[g]? = some o → ∀ (n : Nat), (World.heap (World.drewN w n))[g]? = some o := @blk_drewN
theorem zM : ∀ {w : World} {g : Nat} {o : Obj}, (World.heap w)[g]? = some o → ∀ (o' : Obj), (World.heap (World.alloc w o'))[g]? = some o := @blk_alloc
theorem zN : ∀ {w : World} {g : Nat} {o : Obj}, (World.heap w)[g]? = some o → (World.heap (World.drew w))[g]? = some o := @blk_drew
theorem zO : ∀ {w : World} {g : Nat} {t : TypeId} {cs : Array Value}, (World.heap w)[g]? = some (Obj.cells cs t) → ∀ (i : Nat), World.frozen? w { block := g, off := i } = false := @blk_frozen
theorem zP : ∀ {w : World} {g : Nat} {t : TypeId} {cs : Array Value}, (World.heap w)[g]? = some (Obj.cells cs t) → ∀ (i : Nat), World.cell? w { block := g, off := i } = cs[i]? := @blk_cell
theorem zQ : ∀ {α : Type} {d : Kd α} {e : Nat} {w : World} {base : Nat} {ok : Nat → Prop} {v : Value} {xs : List α}, Kd.R d e w base ok v xs → ∀ (o : Obj), Kd.R d e (World.alloc w o) base ok v xs := @Kd.R_alloc
theorem zR : ∀ {α : Type} {d : Kd α} {e : Nat} {w : World} {base : Nat} {ok : Nat → Prop} {v : Value} {xs : List α}, Kd.R d e w base ok v xs → ∀ (m : Nat), Kd.R d e (World.drewN w m) base ok v xs := @Kd.R_drewN
theorem zS : ∀ {α : Type} {d : Kd α} {e : Nat} {w : World} {base : Nat} {ok : Nat → Prop} {v : Value} {xs : List α}, Kd.R d e w base ok v xs → Kd.R d e (World.drew w) base ok v xs := @Kd.R_drew
theorem zT : ∀ {α : Type} {d : Kd α} {w : World} {xs : List α} {A : Option Addr} {n : Nat}, Kd.C d w A n xs → ∀ (o : Obj), Kd.C d (World.alloc w o) A n xs := @Kd.C_alloc
theorem zU : ∀ {α : Type} {d : Kd α} {w : World} {xs : List α} {A : Option Addr} {n : Nat}, Kd.C d w A n xs → ∀ (m : Nat), Kd.C d (World.drewN w m) A n xs := @Kd.C_drewN
theorem zV : ∀ {α : Type} {d : Kd α} {w : World} {xs : List α} {A : Option Addr} {n : Nat}, Kd.C d w A n xs → Kd.C d (World.drew w) A n xs := @Kd.C_drew
theorem zW : ∀ {p : Prop} [inst : Decidable p], decide p = true → p := @of_decide_eq_true
theorem zX : ∀ {p : Prop} [inst : Decidable p], p → decide p = true := @decide_eq_true
theorem zY : ∀ {α : Type _} {i : Nat} {l : List α}, List.length (List.take i l) = Min.min i (List.length l) := @List.length_take
theorem zZ : ∀ {α : Type _} {i : Nat} {l : List α}, List.length (List.drop i l) = List.length l - i := @List.length_drop
theorem zAA : ∀ {α : Type _} {β : Type _} {f : α → β} {l : List α}, Array.map f (List.toArray l) = List.toArray (List.map f l) := @List.map_toArray
theorem zAB : ∀ {α : Type _} {β : Type _} {f : α → β} {a : α} {l : List α}, List.map f (a :: l) = f a :: List.map f l := @List.map_cons
theorem zAC : ∀ {α : Type _} {β : Type _} {f : α → β}, List.map f [] = [] := @List.map_nil
theorem zAD : ∀ {w W w2 : World}, Below (Array.size (World.heap w)) w W → Below (Array.size (World.heap W)) W w2 → Below (Array.size (World.heap w)) w w2 := @below_step
theorem zAE : ∀ {w W : World}, Below (Array.size (World.heap w)) w W → Array.size (World.heap w) ≤ Array.size (World.heap W) := @below_size
theorem zAF {α β : Type} {o : Option α} {f : α → Option β} {b : β} (h : o.bind f = some b) : ∃ a, o = some a ∧ f a = some b := Option.bind_eq_some_iff.mp h
theorem info9 : (Tryd.prog.info? 9).map (fun i => (i.zero, i.size, i.bytes)) = some (some (.string ⟨#[]⟩), 1, 16) := by kernel_rfl
theorem yB : ∀ {P : Program} {ops : Array Oper} {rest : List Oper} {o : Oper} {a : Act} {Q : Exit → Act → World → Prop} {W : World} {f : FuncId} {«as» : Array Operand} {ts : Array TypeId}, Oper.op o = Op.call { callee := Callee.value (Operand.func f), args := «as», argTypes := ts } → wpList P ops Q (o :: rest) a W → wpList P ops Q (o :: rest) a W := @gate_callee
theorem yC : ∀ {α : Type} {d : Kd α} {e : Nat} {w : World} {base : Nat} {ok ok' : Nat → Prop} {v : Value} {xs : List α}, Kd.R d e w base ok v xs → (∀ (k : Nat), ok k → ok' k) → Kd.R d e w base ok' v xs := @Kd.R_mono
theorem yD : ∀ {α : Type} {d : Kd α} {e : Nat} {w : World} {base : Nat} {ok : Nat → Prop} {xs : List α} {A : Option Addr} {n c : Nat}, Kd.R d e w base ok (Value.slice A n c) xs → n = List.length xs ∧ n ≤ c ∧ Kd.C d w A (List.length xs) xs := @Kd.R_reads'
theorem yE : ∀ {w w1 : World} {g : Nat} {o : Obj}, (World.heap w)[g]? = some o → Below (Array.size (World.heap w)) w w1 → (World.heap w1)[g]? = some o := @blk_below
theorem yJ : ∀ {α : Type} {d : Kd α} {e : Nat} {w1 W : World} {base : Nat} {ok : Nat → Prop} {u v : Value} {xs : List α}, Kd.R d e W base ok u xs → (∀ (k : Nat), Value.ownBlock v = some k → Array.size (World.heap W) ≤ k) → Below (Array.size (World.heap W)) W w1 → Kd.R d e w1 base (fun k => ok k ∧ some k ≠ Value.ownBlock v) u xs := @Kd.R_elder'
theorem yK : ∀ {α : Type} {d : Kd α} {e : Nat} {w1 W : World} {ok : Nat → Prop} {u v : Value} {xs : List α}, Kd.R d e w1 (Array.size (World.heap W)) ok v xs → (∀ (k : Nat), Value.ownBlock u = some k → k < Array.size (World.heap W)) → Kd.R d e w1 (Array.size (World.heap W)) (fun k => ok k ∧ some k ≠ Value.ownBlock u) v xs := @Kd.R_new'
def spec_l1In.f (a0 : Int) (a1 : Int) (a2 : Int) : Option (Bool) := if a0 ≥ a1 then (some (decide (a0 ≤ a2))) else (some false)
theorem spec_l1In.calls (a0 : Int) (a1 : Int) (a2 : Int) (r : Bool) (w : World) (h : spec_l1In.f a0 a1 a2 = some r) :
  Calls Tryd.prog 37 #[.int .i64 a0, .int .i64 a1, .int .i64 a2] w fun e w' => e = .returned (.bool r) ∧ Drawn0 w w' := by
 have H : (if a0 ≥ a1 then (some (decide (a0 ≤ a2))) else (some false)) = some r := h; clear h
 by_cases c4 : a0 ≥ a1
 ·rw [if_pos c4] at H
  have c4b0 : decide (a1 ≤ a0) = true := zX c4; clear c4; obtain rfl := Option.some.inj H; go_enter Tryd.func37, Tryd.ntmps37; go_wp2; go_ret; exact ⟨by first | rfl | (simp; done) | (simp [*]; done) | (simp [bne]; done), by repeat (first | exact Drawn0.refl _ | apply Drawn0.step)⟩
 ·rw [if_neg c4] at H
  have c4b0 : decide (a1 ≤ a0) = false := decide_eq_false c4; clear c4; obtain rfl := Option.some.inj H; go_enter Tryd.func37, Tryd.ntmps37; go_wp2; go_ret; exact ⟨by first | rfl | (simp; done) | (simp [*]; done) | (simp [bne]; done), by repeat (first | exact Drawn0.refl _ | apply Drawn0.step)⟩
def impl_within.f (a0 : Int) (a1 : Int) (a2 : Int) : Option (Bool) := if a0 ≥ a1 then (some (decide (a0 ≤ a2))) else (some false)
theorem impl_within.calls (a0 : Int) (a1 : Int) (a2 : Int) (r : Bool) (w : World) (h : impl_within.f a0 a1 a2 = some r) :
  Calls Tryd.prog 42 #[.int .i64 a0, .int .i64 a1, .int .i64 a2] w fun e w' => e = .returned (.bool r) ∧ Drawn0 w w' := by
 have H : (if a0 ≥ a1 then (some (decide (a0 ≤ a2))) else (some false)) = some r := h; clear h
 by_cases c4 : a0 ≥ a1
 ·rw [if_pos c4] at H
  have c4b0 : decide (a1 ≤ a0) = true := zX c4; clear c4; obtain rfl := Option.some.inj H; go_enter Tryd.func42, Tryd.ntmps42; go_wp2; go_ret; exact ⟨by first | rfl | (simp; done) | (simp [*]; done) | (simp [bne]; done), by repeat (first | exact Drawn0.refl _ | apply Drawn0.step)⟩
 ·rw [if_neg c4] at H
  have c4b0 : decide (a1 ≤ a0) = false := decide_eq_false c4; clear c4; obtain rfl := Option.some.inj H; go_enter Tryd.func42, Tryd.ntmps42; go_wp2; go_ret; exact ⟨by first | rfl | (simp; done) | (simp [*]; done) | (simp [bne]; done), by repeat (first | exact Drawn0.refl _ | apply Drawn0.step)⟩
def impl_oneByte.f (a0 : Int) : Option (ByteArray) := some (strOfNums (([(a0) % 256] : List Int)))
theorem impl_oneByte.calls (a0 : Int) (r : ByteArray) (w : World) (h : impl_oneByte.f a0 = some r) :
  Calls Tryd.prog 59 #[.int .i64 a0] w fun e w' => e = .returned (.string r) ∧ Below w.heap.size w w' := by
 have HB := zA (Below.refl w.heap.size w); have H : (some (strOfNums (([(a0) % 256] : List Int)))) = some r := h; clear h; obtain ⟨y10, hy10⟩ : ∃ y_ : List Int, y_ = (([(a0) % 256] : List Int)) := ⟨_, rfl⟩; replace H : (some (strOfNums y10)) = some r := by first | (rw [hy10]; with_reducible exact H) | (have H2_ := (Option.bind_some _ _).symm.trans H; rw [hy10]; with_reducible exact H2_) | (have H2_ := (Option.bind_some _ _).symm.trans H; with_reducible exact H2_) | with_reducible exact H | (rw [hy10]; exact H) | exact H
 have Ny10 := zA hy10; clear hy10; obtain rfl := Option.some.inj H; go_enter Tryd.func59, Tryd.ntmps59; go_wp2_with (first | ((with_reducible refine gate_dst (N := 5) rfl ?_); refine Kd.R_lit (Kd.int .u8) _ 5 ?hg (N := 5) ?hd (xs := ([(a0) % 256] : List Int)) (inner := [.int .u8 ((a0) % 256)]) (ok := fun _ => True) (okp := fun _ => True) ?hr ?hp (fun _ hk => hk) trivial (Below.refl _ _) (Nat.le_refl _) (by simp) ?_; (case hd => rfl); (case hg => rfl); (case hr => first | (go_simp; done) | (go_simp; rfl)); (case hp => exact (Reps.one (show Kd.M (Kd.int .u8) _ _ _ ((a0) % 256) [.int .u8 ((a0) % 256)] from rfl) (Reps.none _ _))); intro v11 w2 ho3 hb hg_ hnew_; clear hg_ hnew_; (first | rw [← Ny10.out] at ho3 | (simp only [Int.reduceToNat] at ho3; rw [← Ny10.out] at ho3)); have n0_ := zA (Kd.R_lower ho3 (zAE (by repeat (first | (with_reducible first | exact HB.out | apply zH | apply zF | apply zG) | exact HB.out)))); have n1_ := zA (zAD (by repeat (first | (with_reducible first | exact HB.out | apply zH | apply zF | apply zG) | exact HB.out)) hb); clear HB; have HO12 := n0_; have HB := n1_; clear n0_ n1_; clear hb ho3; have hcv4 := own_string (P := Tryd.prog) Tryd.underlying48 Tryd.underlying5 Tryd.underlying9 (Kd.own_of_R HO12.out))); go_ret; exact ⟨by first | rfl | (simp <;> rfl) | (simp [*] <;> rfl), by repeat (first | (with_reducible first | exact HB.out | apply zH | apply zF | apply zG) | exact HB.out)⟩
def laws_szStringS.l0 : Nat → List ByteArray → Int → Int → Option (Int)
 | 0, _, _, _ => none
 | k + 1, x0, x1, x5 => if x5 < (x0.length : Int) then (if 0 ≤ x5 then (if (wrap64 (x1 - ((rdOf ByteArray.empty x0 x5).size : Int))) < 0 then (some (-1)) else (laws_szStringS.l0 k x0 (wrap64 (x1 - ((rdOf ByteArray.empty x0 x5).size : Int))) (wrap64 (x5 + 1)))) else (none)) else (some x1)
def laws_szStringS.f (k : Nat) (l0 : List ByteArray) (a1 : Int) : Option (Int) := if (wrap64 (a1 - (l0.length : Int))) < 0 then (some (-1)) else (laws_szStringS.l0 k l0 (wrap64 (a1 - (l0.length : Int))) 0)
theorem laws_szStringS.calls (k : Nat) (A0 : Option Addr) (c0 : Nat) (l0 : List ByteArray) (a1 : Int) (r : Int) (w : World) (hr0 : Kd.C Kd.string w A0 l0.length l0) (hc0 : l0.length ≤ c0) (h : laws_szStringS.f k l0 a1 = some r) :
  Calls Tryd.prog 36 #[.slice A0 l0.length c0, .int .i64 a1] w fun e w' => e = .returned (.int .i64 r) ∧ Drawn0 w w' := by
 have HR0 := zA hr0; have HC0 := zA hc0; clear hr0 hc0; have H : (if (wrap64 (a1 - (l0.length : Int))) < 0 then (some (-1)) else (laws_szStringS.l0 k l0 (wrap64 (a1 - (l0.length : Int))) 0)) = some r := h; clear h
 by_cases c3 : (wrap64 (a1 - (l0.length : Int))) < 0
 ·rw [if_pos c3] at H
  have c3b0 : decide ((wrap64 (a1 - (l0.length : Int))) < 0) = true := zX c3; clear c3; obtain rfl := Option.some.inj H; go_enter Tryd.func36, Tryd.ntmps36; go_wp2; go_ret; exact ⟨by first | rfl | (simp; done) | (simp [*]; done) | (simp [bne]; done), by repeat (first | exact Drawn0.refl _ | apply Drawn0.step)⟩
 ·rw [if_neg c3] at H
  have c3b0 : decide ((wrap64 (a1 - (l0.length : Int))) < 0) = false := decide_eq_false c3; clear c3; have H' := zA H; clear H; go_enter Tryd.func36, Tryd.ntmps36; go_wp2; go_loopg [1, 5] k (fun kq v1 v5 w' => ∃ (x1_1 : Int) (x5_1 : Int), v1 = .int .i64 x1_1 ∧ v5 = .int .i64 x5_1 ∧ Aside0 (laws_szStringS.l0 kq l0 x1_1 x5_1 = some r) ∧ Aside0 (kq ≤ k) ∧ Drawn0 w w')
  case atStart => exact ⟨(wrap64 (a1 - (l0.length : Int))), (0), (by first | rfl | (simp; done) | (simp [*]; done) | (simp [bne]; done)), (by first | rfl | (simp; done) | (simp [*]; done) | (simp [bne]; done)), H', ⟨Nat.le_refl _⟩, by repeat (first | exact Drawn0.refl _ | apply Drawn0.step)⟩
  case round =>
   clear H'
   try clear p2
   try clear c3
   try clear c3b0
   obtain ⟨x1_1, x5_1, rfl, rfl, HA, HK1, ⟨m1, rfl⟩⟩ := hrel
   cases gk with
   | zero => exact absurd HA.out (by simp [laws_szStringS.l0])
   | succ k1 =>
    have H := HA.out; clear HA; simp only [laws_szStringS.l0] at H
    by_cases c4 : x5_1 < (l0.length : Int)
    ·rw [if_pos c4] at H
     have c4b0 : decide (x5_1 < (l0.length : Int)) = true := zX c4; clear c4
     by_cases c5 : 0 ≤ x5_1
     ·rw [if_pos c5] at H
      have c5b0 : decide (0 ≤ x5_1) = true := zX c5; clear c5
      by_cases c6 : (wrap64 (x1_1 - ((rdOf ByteArray.empty l0 x5_1).size : Int))) < 0
      ·rw [if_pos c6] at H
       have c6b0 : decide ((wrap64 (x1_1 - ((rdOf ByteArray.empty l0 x5_1).size : Int))) < 0) = true := zX c6; clear c6; obtain rfl := Option.some.inj H; have p10 : 0 ≤ (x5_1 : Int) := zW (by first | (with_reducible assumption) | assumption); have q10 : x5_1 < (l0.length : Int) := zW (by first | (with_reducible assumption) | assumption); obtain ⟨ad10, e10, hx10_0⟩ := Kd.at_string HR0.out x5_1 p10 q10
       cases e10
       replace p10 := eq_true p10; replace q10 := eq_true q10; go_wp2; go_ret; exact ⟨by first | rfl | (simp; done) | (simp [*]; done) | (simp [bne]; done), by repeat (first | exact Drawn0.refl _ | apply Drawn0.step)⟩
      ·rw [if_neg c6] at H
       have c6b0 : decide ((wrap64 (x1_1 - ((rdOf ByteArray.empty l0 x5_1).size : Int))) < 0) = false := decide_eq_false c6; clear c6; have H' := zA H; clear H; have p10 : 0 ≤ (x5_1 : Int) := zW (by first | (with_reducible assumption) | assumption); have q10 : x5_1 < (l0.length : Int) := zW (by first | (with_reducible assumption) | assumption); obtain ⟨ad10, e10, hx10_0⟩ := Kd.at_string HR0.out x5_1 p10 q10
       cases e10
       replace p10 := eq_true p10; replace q10 := eq_true q10; go_wp2; go_roundg k1
       case measure => have := HK1.out; omega
       case rel => exact ⟨(wrap64 (x1_1 - ((rdOf ByteArray.empty l0 x5_1).size : Int))), (wrap64 (x5_1 + 1)), (by first | rfl | (simp; done) | (simp [*]; done) | (simp [bne]; done)), (by first | rfl | (simp; done) | (simp [*]; done) | (simp [bne]; done)), H', ⟨by have := HK1.out; omega⟩, by repeat (first | exact Drawn0.refl _ | apply Drawn0.step)⟩
     ·rw [if_neg c5] at H
      exact absurd H (by simp)
    ·rw [if_neg c4] at H
     have c4b0 : decide (x5_1 < (l0.length : Int)) = false := decide_eq_false c4; clear c4; obtain rfl := Option.some.inj H; go_wp2; go_ret; exact ⟨by first | rfl | (simp; done) | (simp [*]; done) | (simp [bne]; done), by repeat (first | exact Drawn0.refl _ | apply Drawn0.step)⟩
def laws_szBlock.f (k : Nat) (a0_0 : ByteArray) (a0_1 : ByteArray) (l0_2 : List ByteArray) (a1 : Int) : Option (Int) := if (wrap64 (a1 - (a0_0.size : Int))) < 0 then (some (-1)) else (if (wrap64 ((wrap64 (a1 - (a0_0.size : Int))) - (a0_1.size : Int))) < 0 then (some (-1)) else ((laws_szStringS.f k l0_2 (wrap64 ((wrap64 (a1 - (a0_0.size : Int))) - (a0_1.size : Int)))).bind fun t10 => (if t10 < 0 then (some (-1)) else (some t10))))
theorem laws_szBlock.calls (k : Nat) (a0_0 : ByteArray) (a0_1 : ByteArray) (A0_2 : Option Addr) (c0_2 : Nat) (l0_2 : List ByteArray) (a1 : Int) (r : Int) (w : World) (hr0_2 : Kd.C Kd.string w A0_2 l0_2.length l0_2) (hc0_2 : l0_2.length ≤ c0_2) (h : laws_szBlock.f k a0_0 a0_1 l0_2 a1 = some r) :
  Calls Tryd.prog 12 #[.agg #[.string a0_0, .string a0_1, .slice A0_2 l0_2.length c0_2], .int .i64 a1] w fun e w' => e = .returned (.int .i64 r) ∧ Below w.heap.size w w' := by
 have hu32 := Tryd.underlying32; have HR0_2 := zA hr0_2; have HC0_2 := zA hc0_2; clear hr0_2 hc0_2; have HB := zA (Below.refl w.heap.size w); have H : (if (wrap64 (a1 - (a0_0.size : Int))) < 0 then (some (-1)) else (if (wrap64 ((wrap64 (a1 - (a0_0.size : Int))) - (a0_1.size : Int))) < 0 then (some (-1)) else ((laws_szStringS.f k l0_2 (wrap64 ((wrap64 (a1 - (a0_0.size : Int))) - (a0_1.size : Int)))).bind fun t15 => (if t15 < 0 then (some (-1)) else (some t15))))) = some r := h; clear h
 by_cases c3 : (wrap64 (a1 - (a0_0.size : Int))) < 0
 ·rw [if_pos c3] at H
  have c3b0 : decide ((wrap64 (a1 - (a0_0.size : Int))) < 0) = true := zX c3; clear c3; obtain rfl := Option.some.inj H; go_enter Tryd.func12, Tryd.ntmps12; go_wp2_with (first | ((with_reducible refine gate_dst (N := 2) rfl ?_); refine box_event ?hg (N := 2) ?hd (cs := #[.string a0_0, .string a0_1, .slice A0_2 l0_2.length c0_2]) (t := 32) ?hr ?_; (case hd => rfl); (case hg => rfl); (case hr => first | (go_simp; done) | (go_simp; rfl)); intro gb16 hg w4 hbox hb; have n0_ := zA (zAD (by repeat (first | (with_reducible first | exact HB.out | apply zH | apply zF | apply zG) | exact HB.out)) hb); have n1_ := zA (hbox); have n2_ := zA ((by rw [hg]; exact (zAE (by repeat (first | (with_reducible first | exact HB.out | apply zH | apply zF | apply zG) | exact HB.out))) : w.heap.size ≤ gb16)); have n3_ := zA ((by rw [hg]; exact (zAE (by repeat (first | (with_reducible first | exact HB.out | apply zH | apply zF | apply zG) | exact HB.out))) : w.heap.size ≤ gb16)); clear HB; have HB := n0_; have BK16 := n1_; have GW16 := n2_; have GE16 := n3_; clear n0_ n1_ n2_ n3_; clear hb hbox hg; have hcz5_0 : w4.cell? ⟨gb16, 0, none⟩ = some (.string a0_0) := (zP BK16.out 0).trans rfl; have hcz5_1 : w4.cell? ⟨gb16, 1, none⟩ = some (.string a0_1) := (zP BK16.out 1).trans rfl; have hcz5_2 : w4.cell? ⟨gb16, 2, none⟩ = some (.slice A0_2 l0_2.length c0_2) := (zP BK16.out 2).trans rfl; have hfz5_0 := zO BK16.out 0; have hfz5_1 := zO BK16.out 1; have hfz5_2 := zO BK16.out 2)); go_ret; exact ⟨by first | rfl | (simp <;> rfl) | (simp [*] <;> rfl), by repeat (first | (with_reducible first | exact HB.out | apply zH | apply zF | apply zG | refine zI ?_ GE16.out) | exact HB.out)⟩
 ·rw [if_neg c3] at H
  have c3b0 : decide ((wrap64 (a1 - (a0_0.size : Int))) < 0) = false := decide_eq_false c3; clear c3
  by_cases c6 : (wrap64 ((wrap64 (a1 - (a0_0.size : Int))) - (a0_1.size : Int))) < 0
  ·rw [if_pos c6] at H
   have c6b0 : decide ((wrap64 ((wrap64 (a1 - (a0_0.size : Int))) - (a0_1.size : Int))) < 0) = true := zX c6; clear c6; obtain rfl := Option.some.inj H; go_enter Tryd.func12, Tryd.ntmps12; go_wp2_with (first | ((with_reducible refine gate_dst (N := 2) rfl ?_); refine box_event ?hg (N := 2) ?hd (cs := #[.string a0_0, .string a0_1, .slice A0_2 l0_2.length c0_2]) (t := 32) ?hr ?_; (case hd => rfl); (case hg => rfl); (case hr => first | (go_simp; done) | (go_simp; rfl)); intro gb16 hg w7 hbox hb; have n0_ := zA (zAD (by repeat (first | (with_reducible first | exact HB.out | apply zH | apply zF | apply zG) | exact HB.out)) hb); have n1_ := zA (hbox); have n2_ := zA ((by rw [hg]; exact (zAE (by repeat (first | (with_reducible first | exact HB.out | apply zH | apply zF | apply zG) | exact HB.out))) : w.heap.size ≤ gb16)); have n3_ := zA ((by rw [hg]; exact (zAE (by repeat (first | (with_reducible first | exact HB.out | apply zH | apply zF | apply zG) | exact HB.out))) : w.heap.size ≤ gb16)); clear HB; have HB := n0_; have BK16 := n1_; have GW16 := n2_; have GE16 := n3_; clear n0_ n1_ n2_ n3_; clear hb hbox hg; have hcz8_0 : w7.cell? ⟨gb16, 0, none⟩ = some (.string a0_0) := (zP BK16.out 0).trans rfl; have hcz8_1 : w7.cell? ⟨gb16, 1, none⟩ = some (.string a0_1) := (zP BK16.out 1).trans rfl; have hcz8_2 : w7.cell? ⟨gb16, 2, none⟩ = some (.slice A0_2 l0_2.length c0_2) := (zP BK16.out 2).trans rfl; have hfz8_0 := zO BK16.out 0; have hfz8_1 := zO BK16.out 1; have hfz8_2 := zO BK16.out 2)); go_ret; exact ⟨by first | rfl | (simp <;> rfl) | (simp [*] <;> rfl), by repeat (first | (with_reducible first | exact HB.out | apply zH | apply zF | apply zG | refine zI ?_ GE16.out) | exact HB.out)⟩
  ·rw [if_neg c6] at H
   have c6b0 : decide ((wrap64 ((wrap64 (a1 - (a0_0.size : Int))) - (a0_1.size : Int))) < 0) = false := decide_eq_false c6; clear c6; replace H := zAF H; obtain ⟨t15, A90, H⟩ := H; replace H : (if t15 < 0 then (some (-1)) else (some t15)) = some r := H; have A9 := zA A90; clear A90
   by_cases c10 : t15 < 0
   ·rw [if_pos c10] at H
    have c10b0 : decide (t15 < 0) = true := zX c10; clear c10; obtain rfl := Option.some.inj H; go_enter Tryd.func12, Tryd.ntmps12; go_wp2_with (first | ((with_reducible refine gate_dst (N := 2) rfl ?_); refine box_event ?hg (N := 2) ?hd (cs := #[.string a0_0, .string a0_1, .slice A0_2 l0_2.length c0_2]) (t := 32) ?hr ?_; (case hd => rfl); (case hg => rfl); (case hr => first | (go_simp; done) | (go_simp; rfl)); intro gb16 hg w11 hbox hb; have n0_ := zA (zAD (by repeat (first | (with_reducible first | exact HB.out | apply zH | apply zF | apply zG) | exact HB.out)) hb); have n1_ := zA (hbox); have n2_ := zA ((by rw [hg]; exact (zAE (by repeat (first | (with_reducible first | exact HB.out | apply zH | apply zF | apply zG) | exact HB.out))) : w.heap.size ≤ gb16)); have n3_ := zA ((by rw [hg]; exact (zAE (by repeat (first | (with_reducible first | exact HB.out | apply zH | apply zF | apply zG) | exact HB.out))) : w.heap.size ≤ gb16)); clear HB; have HB := n0_; have BK16 := n1_; have GW16 := n2_; have GE16 := n3_; clear n0_ n1_ n2_ n3_; clear hb hbox hg; have hcz12_0 : w11.cell? ⟨gb16, 0, none⟩ = some (.string a0_0) := (zP BK16.out 0).trans rfl; have hcz12_1 : w11.cell? ⟨gb16, 1, none⟩ = some (.string a0_1) := (zP BK16.out 1).trans rfl; have hcz12_2 : w11.cell? ⟨gb16, 2, none⟩ = some (.slice A0_2 l0_2.length c0_2) := (zP BK16.out 2).trans rfl; have hfz12_0 := zO BK16.out 0; have hfz12_1 := zO BK16.out 1; have hfz12_2 := zO BK16.out 2) | ((with_reducible refine yB (f := 36) rfl ?_); refine goesL_ (some 22) rfl rfl Tryd.func36 (by kernel_rfl) rfl #[.slice A0_2 l0_2.length c0_2, .int .i64 (wrap64 ((wrap64 (a1 - (a0_0.size : Int))) - (a0_1.size : Int)))] rfl (by (try simp only [zAA, zAB, zAC]); first | done | rfl | (simp only [zZ, zY]; rfl)) ?_; (with_reducible refine (laws_szStringS.calls k _ _ l0_2 (wrap64 ((wrap64 (a1 - (a0_0.size : Int))) - (a0_1.size : Int))) t15 _ ?side1 ?side2 A9.out).mono ?_); (case side1 => repeat (first | exact (Kd.C_below HR0_2.out HB.out) | (with_reducible refine zT ?_ _) | (with_reducible refine zU ?_ _) | (with_reducible refine zV ?_))); (case side2 => exact HC0_2.out); rintro e w' ⟨rfl, ⟨nd, rfl⟩⟩; refine ⟨_, rfl, ?_⟩)); go_ret; exact ⟨by first | rfl | (simp <;> rfl) | (simp [*] <;> rfl), by repeat (first | (with_reducible first | exact HB.out | apply zH | apply zF | apply zG | refine zI ?_ GE16.out) | exact HB.out)⟩
   ·rw [if_neg c10] at H
    have c10b0 : decide (t15 < 0) = false := decide_eq_false c10; clear c10; obtain rfl := Option.some.inj H; go_enter Tryd.func12, Tryd.ntmps12; go_wp2_with (first | ((with_reducible refine gate_dst (N := 2) rfl ?_); refine box_event ?hg (N := 2) ?hd (cs := #[.string a0_0, .string a0_1, .slice A0_2 l0_2.length c0_2]) (t := 32) ?hr ?_; (case hd => rfl); (case hg => rfl); (case hr => first | (go_simp; done) | (go_simp; rfl)); intro gb16 hg w13 hbox hb; have n0_ := zA (zAD (by repeat (first | (with_reducible first | exact HB.out | apply zH | apply zF | apply zG) | exact HB.out)) hb); have n1_ := zA (hbox); have n2_ := zA ((by rw [hg]; exact (zAE (by repeat (first | (with_reducible first | exact HB.out | apply zH | apply zF | apply zG) | exact HB.out))) : w.heap.size ≤ gb16)); have n3_ := zA ((by rw [hg]; exact (zAE (by repeat (first | (with_reducible first | exact HB.out | apply zH | apply zF | apply zG) | exact HB.out))) : w.heap.size ≤ gb16)); clear HB; have HB := n0_; have BK16 := n1_; have GW16 := n2_; have GE16 := n3_; clear n0_ n1_ n2_ n3_; clear hb hbox hg; have hcz14_0 : w13.cell? ⟨gb16, 0, none⟩ = some (.string a0_0) := (zP BK16.out 0).trans rfl; have hcz14_1 : w13.cell? ⟨gb16, 1, none⟩ = some (.string a0_1) := (zP BK16.out 1).trans rfl; have hcz14_2 : w13.cell? ⟨gb16, 2, none⟩ = some (.slice A0_2 l0_2.length c0_2) := (zP BK16.out 2).trans rfl; have hfz14_0 := zO BK16.out 0; have hfz14_1 := zO BK16.out 1; have hfz14_2 := zO BK16.out 2) | ((with_reducible refine yB (f := 36) rfl ?_); refine goesL_ (some 22) rfl rfl Tryd.func36 (by kernel_rfl) rfl #[.slice A0_2 l0_2.length c0_2, .int .i64 (wrap64 ((wrap64 (a1 - (a0_0.size : Int))) - (a0_1.size : Int)))] rfl (by (try simp only [zAA, zAB, zAC]); first | done | rfl | (simp only [zZ, zY]; rfl)) ?_; (with_reducible refine (laws_szStringS.calls k _ _ l0_2 (wrap64 ((wrap64 (a1 - (a0_0.size : Int))) - (a0_1.size : Int))) t15 _ ?side1 ?side2 A9.out).mono ?_); (case side1 => repeat (first | exact (Kd.C_below HR0_2.out HB.out) | (with_reducible refine zT ?_ _) | (with_reducible refine zU ?_ _) | (with_reducible refine zV ?_))); (case side2 => exact HC0_2.out); rintro e w' ⟨rfl, ⟨nd, rfl⟩⟩; refine ⟨_, rfl, ?_⟩)); go_ret; exact ⟨by first | rfl | (simp <;> rfl) | (simp [*] <;> rfl), by repeat (first | (with_reducible first | exact HB.out | apply zH | apply zF | apply zG | refine zI ?_ GE16.out) | exact HB.out)⟩
def spec_GoodBlock.l0 : Nat → List ByteArray → Int → Int → ByteArray → ByteArray → List ByteArray → Option (Bool)
 | 0, _, _, _, _, _, _ => none
 | k + 1, x6, x7, x8, x10, x11, x12 => if x8 < x7 then (if 0 ≤ x8 then (if x8 < (x6.length : Int) then (if ((rdOf ByteArray.empty x6 x8).size : Int) > 60 then (some false) else (spec_GoodBlock.l0 k x6 x7 (wrap64 (x8 + 1)) x10 x11 x12)) else (none)) else (none)) else (if (x10.size : Int) = 4 then (if (x11.size : Int) = 4 then (some (decide ((x12.length : Int) ≤ 6))) else (some false)) else (some false))
def spec_GoodBlock.f (k : Nat) (a0_0 : ByteArray) (a0_1 : ByteArray) (l0_2 : List ByteArray) : Option (Bool) := spec_GoodBlock.l0 k l0_2 (l0_2.length : Int) 0 a0_0 a0_1 l0_2
theorem spec_GoodBlock.calls (k : Nat) (a0_0 : ByteArray) (a0_1 : ByteArray) (A0_2 : Option Addr) (c0_2 : Nat) (l0_2 : List ByteArray) (r : Bool) (w : World) (hr0_2 : Kd.C Kd.string w A0_2 l0_2.length l0_2) (hc0_2 : l0_2.length ≤ c0_2) (h : spec_GoodBlock.f k a0_0 a0_1 l0_2 = some r) :
  Calls Tryd.prog 38 #[.agg #[.string a0_0, .string a0_1, .slice A0_2 l0_2.length c0_2]] w fun e w' => e = .returned (.bool r) ∧ Below w.heap.size w w' := by
 have hu35 := Tryd.underlying35; have HR0_2 := zA hr0_2; have HC0_2 := zA hc0_2; clear hr0_2 hc0_2; have HB := zA (Below.refl w.heap.size w); have H : (spec_GoodBlock.l0 k l0_2 (l0_2.length : Int) 0 a0_0 a0_1 l0_2) = some r := h; clear h; have H' := zA H; clear H; go_enter Tryd.func38, Tryd.ntmps38; go_wp2_with (first | ((with_reducible refine gate_dst (N := 1) rfl ?_); (try (refine gate_guard (by rfl) ?_; dsimp only)); refine box_event ?hg (N := 1) ?hd (cs := #[.string a0_0, .string a0_1, .slice A0_2 l0_2.length c0_2]) (t := 35) ?hr ?_; (case hd => rfl); (case hg => rfl); (case hr => first | (go_simp; done) | (go_simp; rfl)); intro gb13 hg w2 hbox hb; have n0_ := zA (zAD (by repeat (first | (with_reducible first | exact HB.out | apply zH | apply zF | apply zG) | exact HB.out)) hb); have n1_ := zA (hbox); have n2_ := zA ((by rw [hg]; exact (zAE (by repeat (first | (with_reducible first | exact HB.out | apply zH | apply zF | apply zG) | exact HB.out))) : w.heap.size ≤ gb13)); have n3_ := zA ((by rw [hg]; exact (zAE (by repeat (first | (with_reducible first | exact HB.out | apply zH | apply zF | apply zG) | exact HB.out))) : w.heap.size ≤ gb13)); clear HB; have HB := n0_; have BK13 := n1_; have GW13 := n2_; have GE13 := n3_; clear n0_ n1_ n2_ n3_; clear hb hbox hg; have hcz3_0 : w2.cell? ⟨gb13, 0, none⟩ = some (.string a0_0) := (zP BK13.out 0).trans rfl; have hcz3_1 : w2.cell? ⟨gb13, 1, none⟩ = some (.string a0_1) := (zP BK13.out 1).trans rfl; have hcz3_2 : w2.cell? ⟨gb13, 2, none⟩ = some (.slice A0_2 l0_2.length c0_2) := (zP BK13.out 2).trans rfl; have hfz3_0 := zO BK13.out 0; have hfz3_1 := zO BK13.out 1; have hfz3_2 := zO BK13.out 2)); go_loopg [8] k (fun kq v8 w' => ∃ (x8_1 : Int), v8 = .int .i64 x8_1 ∧ Aside0 (spec_GoodBlock.l0 kq l0_2 (l0_2.length : Int) x8_1 a0_0 a0_1 l0_2 = some r) ∧ Aside0 (kq ≤ k) ∧ Aside0 (w'.heap[gb13]? = some (.cells #[.string a0_0, .string a0_1, (.slice A0_2 l0_2.length c0_2)] 35 (0, 0))) ∧ Aside0 (Below w.heap.size w w'))
 case atStart => exact ⟨(0), (by first | rfl | (simp; done) | (simp [*]; done) | (simp [bne]; done)), H', ⟨Nat.le_refl _⟩, ⟨by (with_reducible repeat (first | refine zL ?_ _ | refine zN ?_ | refine zM ?_ _)); exact BK13.out⟩, ⟨by repeat (first | (with_reducible first | exact HB.out | apply zH | apply zF | apply zG | refine zI ?_ GE13.out) | exact HB.out)⟩⟩
 case round =>
  clear H'
  try clear p2
  try clear c3
  try clear hcz3_0
  try clear hcz3_1
  try clear hcz3_2
  try clear hfz3_0
  try clear hfz3_1
  try clear hfz3_2
  obtain ⟨x8_1, rfl, HA, HK1, BK13, HB⟩ := hrel
  cases gk with
  | zero => exact absurd HA.out (by simp [spec_GoodBlock.l0])
  | succ k1 =>
   have H := HA.out; clear HA; simp only [spec_GoodBlock.l0] at H
   by_cases c4 : x8_1 < (l0_2.length : Int)
   ·rw [if_pos c4] at H
    have c4b0 : decide (x8_1 < (l0_2.length : Int)) = true := zX c4; clear c4
    by_cases c5 : 0 ≤ x8_1
    ·rw [if_pos c5] at H
     have c5b0 : decide (0 ≤ x8_1) = true := zX c5; clear c5
     by_cases c6 : x8_1 < (l0_2.length : Int)
     ·rw [if_pos c6] at H
      have c6b0 : decide (x8_1 < (l0_2.length : Int)) = true := zX c6; clear c6
      by_cases c7 : ((rdOf ByteArray.empty l0_2 x8_1).size : Int) > 60
      ·rw [if_pos c7] at H
       have c7b0 : decide (60 < ((rdOf ByteArray.empty l0_2 x8_1).size : Int)) = true := zX c7; have c7b1 : decide (60 < (rdOf ByteArray.empty l0_2 x8_1).size) = true := zX (by omega); clear c7; obtain rfl := Option.some.inj H; have p14 : 0 ≤ (x8_1 : Int) := zW (by first | (with_reducible assumption) | assumption); have q14 : x8_1 < (l0_2.length : Int) := zW (by first | (with_reducible assumption) | assumption); obtain ⟨ad14, e14, hx14_0⟩ := Kd.at_string HR0_2.out x8_1 p14 q14
       cases e14
       replace hx14_0 := (HB.out.cell (zB w _ hx14_0)).trans hx14_0; replace p14 := eq_true p14; replace q14 := eq_true q14; go_wp2; go_ret; exact ⟨by first | rfl | (simp <;> rfl) | (simp [*] <;> rfl), by repeat (first | (with_reducible first | exact HB.out | apply zH | apply zF | apply zG | refine zI ?_ GE13.out) | exact HB.out)⟩
      ·rw [if_neg c7] at H
       have c7b0 : decide (60 < ((rdOf ByteArray.empty l0_2 x8_1).size : Int)) = false := decide_eq_false c7; have c7b1 : decide (60 < (rdOf ByteArray.empty l0_2 x8_1).size) = false := decide_eq_false (by omega); clear c7; have H' := zA H; clear H; have p14 : 0 ≤ (x8_1 : Int) := zW (by first | (with_reducible assumption) | assumption); have q14 : x8_1 < (l0_2.length : Int) := zW (by first | (with_reducible assumption) | assumption); obtain ⟨ad14, e14, hx14_0⟩ := Kd.at_string HR0_2.out x8_1 p14 q14
       cases e14
       replace hx14_0 := (HB.out.cell (zB w _ hx14_0)).trans hx14_0; replace p14 := eq_true p14; replace q14 := eq_true q14; go_wp2; go_roundg k1
       case measure => have := HK1.out; omega
       case rel => exact ⟨(wrap64 (x8_1 + 1)), (by first | rfl | (simp; done) | (simp [*]; done) | (simp [bne]; done)), H', ⟨by have := HK1.out; omega⟩, ⟨by (with_reducible repeat (first | refine zL ?_ _ | refine zN ?_ | refine zM ?_ _)); exact BK13.out⟩, ⟨by repeat (first | (with_reducible first | exact HB.out | apply zH | apply zF | apply zG | refine zI ?_ GE13.out) | exact HB.out)⟩⟩
     ·rw [if_neg c6] at H
      exact absurd H (by simp)
    ·rw [if_neg c5] at H
     exact absurd H (by simp)
   ·rw [if_neg c4] at H
    have c4b0 : decide (x8_1 < (l0_2.length : Int)) = false := decide_eq_false c4; clear c4
    by_cases c8 : (a0_0.size : Int) = 4
    ·rw [if_pos c8] at H
     have c8b0 : ((a0_0.size : Int) == 4) = true := beq_iff_eq.mpr c8; have c8b1 : ((a0_0.size : Int) != 4) = false := bne_eq_false_iff_eq.mpr c8; clear c8
     by_cases c9 : (a0_1.size : Int) = 4
     ·rw [if_pos c9] at H
      have c9b0 : ((a0_1.size : Int) == 4) = true := beq_iff_eq.mpr c9; have c9b1 : ((a0_1.size : Int) != 4) = false := bne_eq_false_iff_eq.mpr c9; clear c9; obtain rfl := Option.some.inj H; have hcz10_0 : wr.cell? ⟨gb13, 0, none⟩ = some (.string a0_0) := (zP BK13.out 0).trans rfl; have hcz10_1 : wr.cell? ⟨gb13, 1, none⟩ = some (.string a0_1) := (zP BK13.out 1).trans rfl; have hcz10_2 : wr.cell? ⟨gb13, 2, none⟩ = some (.slice A0_2 l0_2.length c0_2) := (zP BK13.out 2).trans rfl; have hfz10_0 := zO BK13.out 0; have hfz10_1 := zO BK13.out 1; have hfz10_2 := zO BK13.out 2; go_wp2; go_ret; exact ⟨by first | rfl | (simp <;> rfl) | (simp [*] <;> rfl), by repeat (first | (with_reducible first | exact HB.out | apply zH | apply zF | apply zG | refine zI ?_ GE13.out) | exact HB.out)⟩
     ·rw [if_neg c9] at H
      have c9b0 : ((a0_1.size : Int) == 4) = false := beq_eq_false_iff_ne.mpr c9; have c9b1 : ((a0_1.size : Int) != 4) = true := bne_iff_ne.mpr c9; obtain rfl := Option.some.inj H; have hcz11_0 : wr.cell? ⟨gb13, 0, none⟩ = some (.string a0_0) := (zP BK13.out 0).trans rfl; have hcz11_1 : wr.cell? ⟨gb13, 1, none⟩ = some (.string a0_1) := (zP BK13.out 1).trans rfl; have hcz11_2 : wr.cell? ⟨gb13, 2, none⟩ = some (.slice A0_2 l0_2.length c0_2) := (zP BK13.out 2).trans rfl; have hfz11_0 := zO BK13.out 0; have hfz11_1 := zO BK13.out 1; have hfz11_2 := zO BK13.out 2; go_wp2; go_ret; exact ⟨by first | rfl | (simp <;> rfl) | (simp [*] <;> rfl), by repeat (first | (with_reducible first | exact HB.out | apply zH | apply zF | apply zG | refine zI ?_ GE13.out) | exact HB.out)⟩
    ·rw [if_neg c8] at H
     have c8b0 : ((a0_0.size : Int) == 4) = false := beq_eq_false_iff_ne.mpr c8; have c8b1 : ((a0_0.size : Int) != 4) = true := bne_iff_ne.mpr c8; obtain rfl := Option.some.inj H; have hcz12_0 : wr.cell? ⟨gb13, 0, none⟩ = some (.string a0_0) := (zP BK13.out 0).trans rfl; have hcz12_1 : wr.cell? ⟨gb13, 1, none⟩ = some (.string a0_1) := (zP BK13.out 1).trans rfl; have hcz12_2 : wr.cell? ⟨gb13, 2, none⟩ = some (.slice A0_2 l0_2.length c0_2) := (zP BK13.out 2).trans rfl; have hfz12_0 := zO BK13.out 0; have hfz12_1 := zO BK13.out 1; have hfz12_2 := zO BK13.out 2; go_wp2; go_ret; exact ⟨by first | rfl | (simp <;> rfl) | (simp [*] <;> rfl), by repeat (first | (with_reducible first | exact HB.out | apply zH | apply zF | apply zG | refine zI ?_ GE13.out) | exact HB.out)⟩
def spec_l1Num.f : Nat → Int → Option (ByteArray)
 | 0, _ => none
 | k + 1, a0 => if a0 < 10 then (some (strOfNums (([(wrap64 (48 + a0)) % 256] : List Int)))) else ((spec_l1Num.f k (wrap64 (Int.tdiv a0 10))).bind fun t10 => ((some (([(wrap64 (48 + (Int.tmod a0 10))) % 256] : List Int) : List Int)).bind fun y11 => (if t10.size + (strOfNums y11).size ≤ 9223372036854775807 then (some (t10 ++ (strOfNums y11))) else (none))))
def spec_l1Num.T3 : Bool × List (List Nat × List Nat) := (true, [([], []), ([0], [0]), ([1], [1]), ([], []), ([3], [3]), ([4], [4]), ([5], [5]), ([6], [6]), ([7], [7]), ([2, 8], [2, 8]), ([9, 2, 0, 1, 2, 3, 4, 5, 6, 7, 8, 9], [9])])
def spec_l1Num.B3 : List Nat := [0, 1, 3, 0, 8, 24, 56, 120, 248, 511, 1023]
theorem spec_l1Num.tab3 : rtab .any (opsOf Tryd.f39 3) = spec_l1Num.T3 := by kernel_rfl
theorem spec_l1Num.bits3 : waitsOk spec_l1Num.T3.2 spec_l1Num.B3 = true := by kernel_rfl
theorem spec_l1Num.calls (k : Nat) : ∀ (a0 : Int) (r : ByteArray) (w : World) (h : spec_l1Num.f k a0 = some r),
  Calls Tryd.prog 39 #[.int .i64 a0] w fun e w' => e = .returned (.string r) ∧ Below w.heap.size w w' := by
 induction k using Nat.strongRecOn with
 | _ k ih =>
 intro a0 r w h
 cases k with
 | zero => exact absurd h (by simp [spec_l1Num.f])
 | succ k =>
 simp only [spec_l1Num.f] at h; have HB := zA (Below.refl w.heap.size w); have H : (if a0 < 10 then (some (strOfNums (([(wrap64 (48 + a0)) % 256] : List Int)))) else ((spec_l1Num.f k (wrap64 (Int.tdiv a0 10))).bind fun t14 => ((some (([(wrap64 (48 + (Int.tmod a0 10))) % 256] : List Int) : List Int)).bind fun y15 => (if t14.size + (strOfNums y15).size ≤ 9223372036854775807 then (some (t14 ++ (strOfNums y15))) else (none))))) = some r := h; clear h
 by_cases c2 : a0 < 10
 ·rw [if_pos c2] at H
  have c2b0 : decide (a0 < 10) = true := zX c2; clear c2; obtain ⟨y16, hy16⟩ : ∃ y_ : List Int, y_ = (([(wrap64 (48 + a0)) % 256] : List Int)) := ⟨_, rfl⟩; replace H : (some (strOfNums y16)) = some r := by first | (rw [hy16]; with_reducible exact H) | (have H2_ := (Option.bind_some _ _).symm.trans H; rw [hy16]; with_reducible exact H2_) | (have H2_ := (Option.bind_some _ _).symm.trans H; with_reducible exact H2_) | with_reducible exact H | (rw [hy16]; exact H) | exact H
  have Ny16 := zA hy16; clear hy16; obtain rfl := Option.some.inj H; go_enter Tryd.func39, Tryd.ntmps39; go_wp2_with (first | ((with_reducible refine gate_dst (N := 8) rfl ?_); refine Kd.R_lit (Kd.int .u8) _ 5 ?hg (N := 8) ?hd (xs := ([(wrap64 (48 + a0)) % 256] : List Int)) (inner := [.int .u8 ((wrap64 (48 + a0)) % 256)]) (ok := fun _ => True) (okp := fun _ => True) ?hr ?hp (fun _ hk => hk) trivial (Below.refl _ _) (Nat.le_refl _) (by simp) ?_; (case hd => rfl); (case hg => rfl); (case hr => first | (go_simp; done) | (go_simp; rfl)); (case hp => exact (Reps.one (show Kd.M (Kd.int .u8) _ _ _ ((wrap64 (48 + a0)) % 256) [.int .u8 ((wrap64 (48 + a0)) % 256)] from rfl) (Reps.none _ _))); intro v17 w3 ho4 hb hg_ hnew_; clear hg_ hnew_; (first | rw [← Ny16.out] at ho4 | (simp only [Int.reduceToNat] at ho4; rw [← Ny16.out] at ho4)); have n0_ := zA (Kd.R_lower ho4 (zAE (by repeat (first | (with_reducible first | exact HB.out | apply zH | apply zF | apply zG) | exact HB.out)))); have n1_ := zA (zAD (by repeat (first | (with_reducible first | exact HB.out | apply zH | apply zF | apply zG) | exact HB.out)) hb); clear HB; have HO18 := n0_; have HB := n1_; clear n0_ n1_; clear hb ho4; have hcv5 := own_string (P := Tryd.prog) Tryd.underlying48 Tryd.underlying5 Tryd.underlying9 (Kd.own_of_R HO18.out))); go_ret; exact ⟨by first | rfl | (simp <;> rfl) | (simp [*] <;> rfl), by repeat (first | (with_reducible first | exact HB.out | apply zH | apply zF | apply zG) | exact HB.out)⟩
 ·rw [if_neg c2] at H
  have c2b0 : decide (a0 < 10) = false := decide_eq_false c2; clear c2; replace H := zAF H; obtain ⟨t14, A60, H⟩ := H; replace H : ((some (([(wrap64 (48 + (Int.tmod a0 10))) % 256] : List Int) : List Int)).bind fun y15 => (if t14.size + (strOfNums y15).size ≤ 9223372036854775807 then (some (t14 ++ (strOfNums y15))) else (none))) = some r := H; have A6 := zA A60; clear A60; obtain ⟨y15, hy15⟩ : ∃ y_ : List Int, y_ = (([(wrap64 (48 + (Int.tmod a0 10))) % 256] : List Int)) := ⟨_, rfl⟩; replace H : (if t14.size + (strOfNums y15).size ≤ 9223372036854775807 then (some (t14 ++ (strOfNums y15))) else (none)) = some r := by first | (rw [hy15]; with_reducible exact H) | (have H2_ := (Option.bind_some _ _).symm.trans H; rw [hy15]; with_reducible exact H2_) | (have H2_ := (Option.bind_some _ _).symm.trans H; with_reducible exact H2_) | with_reducible exact H | (rw [hy15]; exact H) | exact H
  have Ny15 := zA hy15; clear hy15
  by_cases c7 : t14.size + (strOfNums y15).size ≤ 9223372036854775807
  ·rw [if_pos c7] at H
   have c7b0 := eq_true c7; have c7b1 : decide (t14.size + (strOfNums y15).size ≤ 9223372036854775807) = true := zX c7
   try have c7b2 : (9223372036854775807 < t14.size + (strOfNums y15).size) = False := eq_false (Nat.not_lt.2 c7)
   obtain rfl := Option.some.inj H; go_enter Tryd.func39, Tryd.ntmps39
   try go_wp2
   have n0_ := zA (zG HB.out); clear HB; have HB := n0_; clear n0_; refine start_ (n := 11) (S := fun w' => True) (ds := []) #[false, false, false, false, false, false, false, false, false, false, false] (by kernel_rfl) rfl rfl trivial (fun hHeld => ?_); refine with_tabW spec_l1Num.tab3 spec_l1Num.bits3 (fun HT_ HW_ => ?_); generalize w.drew = w8 at HB hHeld ⊢; refine pure_ (i := 0) (N := some 10) (v := ?_) (a' := ?_) #[true, false, false, false, false, false, false, false, false, false, false] rfl rfl (any_of HT_.out (by kernel_rfl)) (fun _ _ _ h => h) (Or.inl ⟨by rfl, ?_⟩) ?_ ?_; rotate_left
   ·intro w'
    go_simp
    with_reducible rfl
   rotate_left
   ·simp only [Act.put, zC, zD, zE, i64_w, i32_w]
    rfl
   refine pure_ (i := 1) (N := some 11) (v := ?_) (a' := ?_) #[true, true, false, false, false, false, false, false, false, false, false] rfl rfl (any_of HT_.out (by kernel_rfl)) (fun _ _ _ h => h) (Or.inl ⟨by rfl, ?_⟩) ?_ ?_; rotate_left
   ·intro w'
    go_simp
    with_reducible rfl
   rotate_left
   ·simp only [Act.put, zC, zD, zE, i64_w, i32_w]
    rfl
   refine pure_ (i := 3) (N := some 13) (v := ?_) (a' := ?_) #[true, true, false, true, false, false, false, false, false, false, false] rfl rfl (any_of HT_.out (by kernel_rfl)) (fun _ _ _ h => h) (Or.inl ⟨by rfl, ?_⟩) ?_ ?_; rotate_left
   ·intro w'
    go_simp
    with_reducible rfl
   rotate_left
   ·simp only [Act.put, zC, zD, zE, i64_w, i32_w]
    rfl
   refine pure_ (i := 4) (N := some 14) (v := ?_) (a' := ?_) #[true, true, false, true, true, false, false, false, false, false, false] rfl rfl (any_of HT_.out (by kernel_rfl)) (fun _ _ _ h => h) (Or.inl ⟨by rfl, ?_⟩) ?_ ?_; rotate_left
   ·intro w'
    go_simp
    with_reducible rfl
   rotate_left
   ·simp only [Act.put, zC, zD, zE, i64_w, i32_w]
    rfl
   refine pure_ (i := 5) (N := some 15) (v := ?_) (a' := ?_) #[true, true, false, true, true, true, false, false, false, false, false] rfl rfl (any_of HT_.out (by kernel_rfl)) (fun _ _ _ h => h) (Or.inl ⟨by rfl, ?_⟩) ?_ ?_; rotate_left
   ·intro w'
    go_simp
    with_reducible rfl
   rotate_left
   ·simp only [Act.put, zC, zD, zE, i64_w, i32_w]
    rfl
   refine pure_ (i := 6) (N := some 16) (v := ?_) (a' := ?_) #[true, true, false, true, true, true, true, false, false, false, false] rfl rfl (any_of HT_.out (by kernel_rfl)) (fun _ _ _ h => h) (Or.inl ⟨by rfl, ?_⟩) ?_ ?_; rotate_left
   ·intro w'
    go_simp
    with_reducible rfl
   rotate_left
   ·simp only [Act.put, zC, zD, zE, i64_w, i32_w]
    rfl
   refine join_ (σ := Value) 2 #[true, true, true, true, true, true, true, true, true, false, false] (fun s_ => [(12, .string t14), (17, s_), (18, .string (strOfNums y15))]) (fun s_ w' => (Kd.R (Kd.int .u8) 5 w' w.heap.size (fun _ => True) s_ y15) ∧ (Below w.heap.size w w')) ?_ ?_; rotate_left
   ·intro hCont
    refine two_ (i := 2) (j := 7) (Ni := some 12) (Nj := some 17) #[true, true, true, true, true, true, true, false, false, false, false] #[true, true, false, true, true, true, true, true, false, false, false] rfl rfl rfl rfl (two_of HT_.out (by kernel_rfl)) (by decide) (by decide) (fun K hK => ?_) (fun K hK => ?_)
    ·skip
     refine goes_ Tryd.func39 (by kernel_rfl) rfl #[.int .i64 (wrap64 (Int.tdiv a0 10))] (by rfl) rfl rfl (by (try simp only [zAA, zAB, zAC]); first | done | rfl) ?_
     with_reducible refine (ih k (by omega) (wrap64 (Int.tdiv a0 10)) t14 _ A6.out).mono ?_
     rintro e w9 ⟨rfl, hb⟩; refine ⟨_, rfl, ?_⟩; have n0_ := zA (zAD (by repeat (first | (with_reducible first | exact HB.out | apply zH | apply zF | apply zG) | exact HB.out)) hb); clear HB; have HB := n0_; clear n0_; (try clear hb); refine hK.out _ _ trivial (fun hHeld => ?_); clear hK K; refine norm_ (a' := ?_) ?_ ?_; rotate_left
     ·show Act.put _ (some 12) _ = _
      simp only [Act.put, zC, zD, zE, i64_w, i32_w]; rfl
     refine one_ (i := 7) (N := some 17) #[true, true, true, true, true, true, true, true, false, false, false] rfl rfl (one_of HT_.out (by kernel_rfl)) (by decide) (fun K hK => ?_); refine Kd.R_lit_step (Kd.int .u8) _ 5 ?hg (N := 17) ?hd (xs := ([(wrap64 (48 + (Int.tmod a0 10))) % 256] : List Int)) (inner := [.int .u8 ((wrap64 (48 + (Int.tmod a0 10))) % 256)]) (ok := fun _ => True) (okp := fun _ => True) ?hr ?hp (fun _ hk => hk) trivial (Below.refl _ _) (Nat.le_refl _) (by simp) ?_; (case hd => rfl); (case hg => rfl); (case hr => first | (go_simp; done) | (go_simp; rfl)); (case hp => exact (Reps.one (show Kd.M (Kd.int .u8) _ _ _ ((wrap64 (48 + (Int.tmod a0 10))) % 256) [.int .u8 ((wrap64 (48 + (Int.tmod a0 10))) % 256)] from rfl) (Reps.none _ _))); intro v19 w10 ho11 hb hg_ hnew_; clear hg_ hnew_; (first | rw [← Ny15.out] at ho11 | (simp only [Int.reduceToNat] at ho11; rw [← Ny15.out] at ho11)); have n0_ := zA (Kd.R_lower ho11 (zAE (by repeat (first | (with_reducible first | exact HB.out | apply zH | apply zF | apply zG) | exact HB.out)))); have n1_ := zA (zAD (by repeat (first | (with_reducible first | exact HB.out | apply zH | apply zF | apply zG) | exact HB.out)) hb); clear HB; have HO20 := n0_; have HB := n1_; clear n0_ n1_ hb ho11; refine hK.out _ _ trivial (fun hHeld => ?_); clear hK K; refine norm_ (a' := ?_) ?_ ?_; rotate_left
     ·show Act.put _ (some 17) _ = _
      simp only [Act.put, zC, zD, zE, i64_w, i32_w]; rfl
     refine one_ (i := 8) (N := some 18) #[true, true, true, true, true, true, true, true, true, false, false] rfl rfl (one_of HT_.out (by kernel_rfl)) (by decide) (fun K hK => ?_); have hcv12 := own_string (P := Tryd.prog) Tryd.underlying48 Tryd.underlying5 Tryd.underlying9 (Kd.own_of_R HO20.out); refine value_ (w1 := ?_) (v := ?_) (by rfl) rfl ?_ ?_; rotate_left 2
     ·go_simp
      constructor
      ·rfl
      ·rfl
     clear hcv12; refine hK.out _ _ trivial (fun hHeld => ?_); clear hK K; refine norm_ (a' := ?_) ?_ ?_; rotate_left
     ·show Act.put _ (some 18) _ = _
      simp only [Act.put, zC, zD, zE, i64_w, i32_w]; rfl
     exact norm_ (by simp only [putAll, Act.put, zC, zD, zE]) (hCont (v19) _ ⟨(by (with_reducible repeat (first | apply zQ | apply zR | apply zS)); exact HO20.out), (by repeat (first | (with_reducible first | exact HB.out | apply zH | apply zF | apply zG) | exact HB.out))⟩)
    ·skip
     refine Kd.R_lit_step (Kd.int .u8) _ 5 ?hg (N := 17) ?hd (xs := ([(wrap64 (48 + (Int.tmod a0 10))) % 256] : List Int)) (inner := [.int .u8 ((wrap64 (48 + (Int.tmod a0 10))) % 256)]) (ok := fun _ => True) (okp := fun _ => True) ?hr ?hp (fun _ hk => hk) trivial (Below.refl _ _) (Nat.le_refl _) (by simp) ?_; (case hd => rfl); (case hg => rfl); (case hr => first | (go_simp; done) | (go_simp; rfl)); (case hp => exact (Reps.one (show Kd.M (Kd.int .u8) _ _ _ ((wrap64 (48 + (Int.tmod a0 10))) % 256) [.int .u8 ((wrap64 (48 + (Int.tmod a0 10))) % 256)] from rfl) (Reps.none _ _))); intro v19 w9 ho10 hb hg_ hnew_; clear hg_ hnew_; (first | rw [← Ny15.out] at ho10 | (simp only [Int.reduceToNat] at ho10; rw [← Ny15.out] at ho10)); have n0_ := zA (Kd.R_lower ho10 (zAE (by repeat (first | (with_reducible first | exact HB.out | apply zH | apply zF | apply zG) | exact HB.out)))); have n1_ := zA (zAD (by repeat (first | (with_reducible first | exact HB.out | apply zH | apply zF | apply zG) | exact HB.out)) hb); clear HB; have HO20 := n0_; have HB := n1_; clear n0_ n1_ hb ho10; refine hK.out _ _ trivial (fun hHeld => ?_); clear hK K; refine norm_ (a' := ?_) ?_ ?_; rotate_left
     ·show Act.put _ (some 17) _ = _
      simp only [Act.put, zC, zD, zE, i64_w, i32_w]; rfl
     refine two_ (i := 2) (j := 8) (Ni := some 12) (Nj := some 18) #[true, true, true, true, true, true, true, true, false, false, false] #[true, true, false, true, true, true, true, true, true, false, false] rfl rfl rfl rfl (two_of HT_.out (by kernel_rfl)) (by decide) (by decide) (fun K hK => ?_) (fun K hK => ?_)
     ·skip
      refine goes_ Tryd.func39 (by kernel_rfl) rfl #[.int .i64 (wrap64 (Int.tdiv a0 10))] (by rfl) rfl rfl (by (try simp only [zAA, zAB, zAC]); first | done | rfl) ?_
      with_reducible refine (ih k (by omega) (wrap64 (Int.tdiv a0 10)) t14 _ A6.out).mono ?_
      rintro e w11 ⟨rfl, hb⟩; refine ⟨_, rfl, ?_⟩; have n0_ := zA (Kd.R_below (by (with_reducible repeat (first | apply zQ | apply zR | apply zS)); exact HO20.out) hb); have n1_ := zA (zAD (by repeat (first | (with_reducible first | exact HB.out | apply zH | apply zF | apply zG) | exact HB.out)) hb); clear HO20 HB; have HO20 := n0_; have HB := n1_; clear n0_ n1_; (try clear hb); refine hK.out _ _ trivial (fun hHeld => ?_); clear hK K; refine norm_ (a' := ?_) ?_ ?_; rotate_left
      ·show Act.put _ (some 12) _ = _
       simp only [Act.put, zC, zD, zE, i64_w, i32_w]; rfl
      refine one_ (i := 8) (N := some 18) #[true, true, true, true, true, true, true, true, true, false, false] rfl rfl (one_of HT_.out (by kernel_rfl)) (by decide) (fun K hK => ?_); have hcv12 := own_string (P := Tryd.prog) Tryd.underlying48 Tryd.underlying5 Tryd.underlying9 (Kd.own_of_R HO20.out); refine value_ (w1 := ?_) (v := ?_) (by rfl) rfl ?_ ?_; rotate_left 2
      ·go_simp
       constructor
       ·rfl
       ·rfl
      clear hcv12; refine hK.out _ _ trivial (fun hHeld => ?_); clear hK K; refine norm_ (a' := ?_) ?_ ?_; rotate_left
      ·show Act.put _ (some 18) _ = _
       simp only [Act.put, zC, zD, zE, i64_w, i32_w]; rfl
      exact norm_ (by simp only [putAll, Act.put, zC, zD, zE]) (hCont (v19) _ ⟨(by (with_reducible repeat (first | apply zQ | apply zR | apply zS)); exact HO20.out), (by repeat (first | (with_reducible first | exact HB.out | apply zH | apply zF | apply zG) | exact HB.out))⟩)
     ·skip
      have hcv11 := own_string (P := Tryd.prog) Tryd.underlying48 Tryd.underlying5 Tryd.underlying9 (Kd.own_of_R HO20.out); refine value_ (w1 := ?_) (v := ?_) (by rfl) rfl ?_ ?_; rotate_left 2
      ·go_simp
       constructor
       ·rfl
       ·rfl
      clear hcv11; refine hK.out _ _ trivial (fun hHeld => ?_); clear hK K; refine norm_ (a' := ?_) ?_ ?_; rotate_left
      ·show Act.put _ (some 18) _ = _
       simp only [Act.put, zC, zD, zE, i64_w, i32_w]; rfl
      refine one_ (i := 2) (N := some 12) #[true, true, true, true, true, true, true, true, true, false, false] rfl rfl (one_of HT_.out (by kernel_rfl)) (by decide) (fun K hK => ?_); refine goes_ Tryd.func39 (by kernel_rfl) rfl #[.int .i64 (wrap64 (Int.tdiv a0 10))] (by rfl) rfl rfl (by (try simp only [zAA, zAB, zAC]); first | done | rfl) ?_
      with_reducible refine (ih k (by omega) (wrap64 (Int.tdiv a0 10)) t14 _ A6.out).mono ?_
      rintro e w12 ⟨rfl, hb⟩; refine ⟨_, rfl, ?_⟩; have n0_ := zA (Kd.R_below (by (with_reducible repeat (first | apply zQ | apply zR | apply zS)); exact HO20.out) hb); have n1_ := zA (zAD (by repeat (first | (with_reducible first | exact HB.out | apply zH | apply zF | apply zG) | exact HB.out)) hb); clear HO20 HB; have HO20 := n0_; have HB := n1_; clear n0_ n1_; (try clear hb); refine hK.out _ _ trivial (fun hHeld => ?_); clear hK K; refine norm_ (a' := ?_) ?_ ?_; rotate_left
      ·show Act.put _ (some 12) _ = _
       simp only [Act.put, zC, zD, zE, i64_w, i32_w]; rfl
      exact norm_ (by simp only [putAll, Act.put, zC, zD, zE]) (hCont (v19) _ ⟨(by (with_reducible repeat (first | apply zQ | apply zR | apply zS)); exact HO20.out), (by repeat (first | (with_reducible first | exact HB.out | apply zH | apply zF | apply zG) | exact HB.out))⟩)
   rintro v19 w13 ⟨h0_, h1_⟩; have n0_ : Aside0 (Kd.R (Kd.int .u8) 5 w13 w.heap.size (fun _ => True) v19 y15) := ⟨h0_⟩; have n1_ : Aside0 (Below w.heap.size w w13) := ⟨h1_⟩; clear HB h0_ h1_; have HO20 := n0_; have HB := n1_; clear n0_ n1_; have hHeld := trivial; refine norm_ (a' := ?_) ?_ ?_; rotate_left
   ·simp only [putAll, Act.put, zC, zD, zE]
    rfl
   refine pure_ (i := 9) (N := some 19) (v := ?_) (a' := ?_) #[true, true, true, true, true, true, true, true, true, true, false] rfl rfl (any_of HT_.out (by kernel_rfl)) (fun _ _ _ h => h) (Or.inl ⟨by rfl, ?_⟩) ?_ ?_; rotate_left
   ·intro w'
    go_simp
    with_reducible rfl
   rotate_left
   ·simp only [Act.put, zC, zD, zE, i64_w, i32_w]
    rfl
   refine pure_ (i := 10) (N := some 2) (v := ?_) (a' := ?_) #[true, true, true, true, true, true, true, true, true, true, true] rfl rfl (any_of HT_.out (by kernel_rfl)) (fun _ _ _ h => h) (Or.inl ⟨by rfl, ?_⟩) ?_ ?_; rotate_left
   ·intro w'
    go_simp
    with_reducible rfl
   rotate_left
   ·simp only [Act.put, zC, zD, zE, i64_w, i32_w]
    rfl
   refine done_ (done_of HT_.out (by kernel_rfl)) ?_
   try go_wp2
   go_ret; exact ⟨by first | rfl | (simp <;> rfl) | (simp [*] <;> rfl), by repeat (first | (with_reducible first | exact HB.out | apply zH | apply zF | apply zG) | exact HB.out)⟩
  ·rw [if_neg c7] at H
   exact absurd H (by simp)
def spec_l1Kind.f (a0 : Int) : Option (Bool) := if a0 ≥ 97 then (some (decide (a0 ≤ 122))) else (some false)
theorem spec_l1Kind.calls (a0 : Int) (r : Bool) (w : World) (h : spec_l1Kind.f a0 = some r) :
  Calls Tryd.prog 98 #[.int .u8 a0] w fun e w' => e = .returned (.bool r) ∧ Drawn0 w w' := by
 have H : (if a0 ≥ 97 then (some (decide (a0 ≤ 122))) else (some false)) = some r := h; clear h
 by_cases c2 : a0 ≥ 97
 ·rw [if_pos c2] at H
  have c2b0 : decide (97 ≤ a0) = true := zX c2; clear c2; obtain rfl := Option.some.inj H; go_enter Tryd.func98, Tryd.ntmps98; go_wp2; go_ret; exact ⟨by first | rfl | (simp; done) | (simp [*]; done) | (simp [bne]; done), by repeat (first | exact Drawn0.refl _ | apply Drawn0.step)⟩
 ·rw [if_neg c2] at H
  have c2b0 : decide (97 ≤ a0) = false := decide_eq_false c2; clear c2; obtain rfl := Option.some.inj H; go_enter Tryd.func98, Tryd.ntmps98; go_wp2; go_ret; exact ⟨by first | rfl | (simp; done) | (simp [*]; done) | (simp [bne]; done), by repeat (first | exact Drawn0.refl _ | apply Drawn0.step)⟩
def spec_NewMix.f (a0 : Int) : Option (Int × Int × Int × Bool) := (spec_l1Kind.f a0).bind fun t10 => (if t10 = true then (some (wrap64 (1 + (wrap64 (a0))), wrap64 (1 + (wrap64 (a0))), 0, true)) else (some (0, 0, 0, false)))
theorem spec_NewMix.calls (a0 : Int) (r1 : Int) (r2 : Int) (r3 : Int) (r4 : Bool) (w : World) (h : spec_NewMix.f a0 = some (r1, r2, r3, r4)) :
  Calls Tryd.prog 81 #[.int .u8 a0] w fun e w' => e = .returned (.tuple #[.agg #[.int .i64 r1, .int .i64 r2, .int .i64 r3], .bool r4]) ∧ Below w.heap.size w w' := by
 have hu104 := Tryd.underlying104; have HB := zA (Below.refl w.heap.size w); have H : ((spec_l1Kind.f a0).bind fun t10 => (if t10 = true then (some (wrap64 (1 + (wrap64 (a0))), wrap64 (1 + (wrap64 (a0))), 0, true)) else (some (0, 0, 0, false)))) = some (r1, r2, r3, r4) := h; clear h; replace H := zAF H; obtain ⟨t10, A20, H⟩ := H; replace H : (if t10 = true then (some (wrap64 (1 + (wrap64 (a0))), wrap64 (1 + (wrap64 (a0))), 0, true)) else (some (0, 0, 0, false))) = some (r1, r2, r3, r4) := H; have A2 := zA A20; clear A20
 by_cases c3 : t10 = true
 ·subst c3
  have H1 : (some (wrap64 (1 + (wrap64 (a0))), wrap64 (1 + (wrap64 (a0))), 0, true)) = some (r1, r2, r3, r4) := by rw [if_pos rfl] at H; exact H
  clear H; have H := H1; clear H1; simp only [Option.some.injEq, Prod.mk.injEq] at H; obtain ⟨rfl, rfl, rfl, rfl⟩ := H; go_enter Tryd.func81, Tryd.ntmps81; go_wp2_with (first | ((with_reducible refine gate_dst (N := 2) rfl ?_); refine box_event ?hg (N := 2) ?hd (cs := #[.int .i64 0, .int .i64 0, .int .i64 0]) (t := 104) ?hr ?_; (case hd => rfl); (case hg => rfl); (case hr => first | (go_simp; done) | (go_simp; rfl)); intro gb11 hg w4 hbox hb; have n0_ := zA (zAD (by repeat (first | (with_reducible first | exact HB.out | apply zH | apply zF | apply zG) | exact HB.out)) hb); have n1_ := zA (hbox); have n2_ := zA ((by rw [hg]; exact (zAE (by repeat (first | (with_reducible first | exact HB.out | apply zH | apply zF | apply zG) | exact HB.out))) : w.heap.size ≤ gb11)); have n3_ := zA ((by rw [hg]; exact (zAE (by repeat (first | (with_reducible first | exact HB.out | apply zH | apply zF | apply zG) | exact HB.out))) : w.heap.size ≤ gb11)); clear HB; have HB := n0_; have BK11 := n1_; have GW11 := n2_; have GE11 := n3_; clear n0_ n1_ n2_ n3_; clear hb hbox hg) | ((with_reducible refine yB (f := 98) rfl ?_); refine goesL_ (some 5) rfl rfl Tryd.func98 (by kernel_rfl) rfl #[.int .u8 a0] rfl (by (try simp only [zAA, zAB, zAC]); first | done | rfl) ?_; (with_reducible refine (spec_l1Kind.calls a0 true _ A2.out).mono ?_); rintro e w' ⟨rfl, ⟨nd, rfl⟩⟩; refine ⟨_, rfl, ?_⟩; (try (rw [drewN_self w4]; generalize hq_ : World.drewN w4 _ = w4; have n0_ : Aside0 (w4.heap[gb11]? = some (.cells #[.int .i64 0, .int .i64 0, .int .i64 0] 104 (0, 0))) := ⟨by rw [← hq_]; exact (by (with_reducible repeat (first | refine zL ?_ _ | refine zN ?_ | refine zM ?_ _)); exact BK11.out)⟩; have n1_ : Aside0 (Below w.heap.size w w4) := ⟨by rw [← hq_]; exact (by repeat (first | (with_reducible first | exact HB.out | apply zH | apply zF | apply zG | refine zI ?_ GE11.out) | exact HB.out))⟩; clear BK11 HB hq_; have BK11 := n0_; have HB := n1_; clear n0_ n1_)); have hcz5_0 : w4.cell? ⟨gb11, 0, none⟩ = some (.int .i64 0) := (zP BK11.out 0).trans rfl; have hcz5_1 : w4.cell? ⟨gb11, 1, none⟩ = some (.int .i64 0) := (zP BK11.out 1).trans rfl; have hcz5_2 : w4.cell? ⟨gb11, 2, none⟩ = some (.int .i64 0) := (zP BK11.out 2).trans rfl; have hfz5_0 := zO BK11.out 0; have hfz5_1 := zO BK11.out 1; have hfz5_2 := zO BK11.out 2)); refine bodyPost_ret (results_ct rfl _ _ gb11 104 #[.int .i64 (wrap64 (1 + (wrap64 (a0)))), .int .i64 (wrap64 (1 + (wrap64 (a0)))), .int .i64 0] (0, 0) _ rfl (by (with_reducible repeat (first | refine zL ?_ _ | refine zN ?_ | refine zM ?_ _)); refine blk_put (cs := #[.int .i64 (wrap64 (1 + (wrap64 (a0)))), .int .i64 (wrap64 (1 + (wrap64 (a0)))), .int .i64 0]) ?_ 2 _ rfl; (with_reducible repeat (first | refine zL ?_ _ | refine zN ?_ | refine zM ?_ _)); refine blk_put (cs := #[.int .i64 (wrap64 (1 + (wrap64 (a0)))), .int .i64 0, .int .i64 0]) ?_ 1 _ rfl; (with_reducible repeat (first | refine zL ?_ _ | refine zN ?_ | refine zM ?_ _)); refine blk_put (cs := #[.int .i64 0, .int .i64 0, .int .i64 0]) ?_ 0 _ rfl; (with_reducible repeat (first | refine zL ?_ _ | refine zN ?_ | refine zM ?_ _)); exact BK11.out) Tryd.underlying104 rfl (by kernel_rfl)) rfl ?_; exact ⟨by first | rfl | (simp <;> rfl) | (simp [*] <;> rfl), by repeat (first | (with_reducible first | exact HB.out | apply zH | apply zF | apply zG | refine zI ?_ GE11.out) | exact HB.out)⟩
 ·replace c3 := Bool.eq_false_iff.mpr c3
  subst c3; have H1 : (some (0, 0, 0, false)) = some (r1, r2, r3, r4) := by rw [if_neg (show ¬ (false = true) by decide)] at H; exact H
  clear H; have H := H1; clear H1; simp only [Option.some.injEq, Prod.mk.injEq] at H; obtain ⟨rfl, rfl, rfl, rfl⟩ := H; go_enter Tryd.func81, Tryd.ntmps81; go_wp2_with (first | ((with_reducible refine gate_dst (N := 2) rfl ?_); refine box_event ?hg (N := 2) ?hd (cs := #[.int .i64 0, .int .i64 0, .int .i64 0]) (t := 104) ?hr ?_; (case hd => rfl); (case hg => rfl); (case hr => first | (go_simp; done) | (go_simp; rfl)); intro gb11 hg w6 hbox hb; have n0_ := zA (zAD (by repeat (first | (with_reducible first | exact HB.out | apply zH | apply zF | apply zG) | exact HB.out)) hb); have n1_ := zA (hbox); have n2_ := zA ((by rw [hg]; exact (zAE (by repeat (first | (with_reducible first | exact HB.out | apply zH | apply zF | apply zG) | exact HB.out))) : w.heap.size ≤ gb11)); have n3_ := zA ((by rw [hg]; exact (zAE (by repeat (first | (with_reducible first | exact HB.out | apply zH | apply zF | apply zG) | exact HB.out))) : w.heap.size ≤ gb11)); clear HB; have HB := n0_; have BK11 := n1_; have GW11 := n2_; have GE11 := n3_; clear n0_ n1_ n2_ n3_; clear hb hbox hg) | ((with_reducible refine yB (f := 98) rfl ?_); refine goesL_ (some 5) rfl rfl Tryd.func98 (by kernel_rfl) rfl #[.int .u8 a0] rfl (by (try simp only [zAA, zAB, zAC]); first | done | rfl) ?_; (with_reducible refine (spec_l1Kind.calls a0 false _ A2.out).mono ?_); rintro e w' ⟨rfl, ⟨nd, rfl⟩⟩; refine ⟨_, rfl, ?_⟩; (try (rw [drewN_self w6]; generalize hq_ : World.drewN w6 _ = w6; have n0_ : Aside0 (w6.heap[gb11]? = some (.cells #[.int .i64 0, .int .i64 0, .int .i64 0] 104 (0, 0))) := ⟨by rw [← hq_]; exact (by (with_reducible repeat (first | refine zL ?_ _ | refine zN ?_ | refine zM ?_ _)); exact BK11.out)⟩; have n1_ : Aside0 (Below w.heap.size w w6) := ⟨by rw [← hq_]; exact (by repeat (first | (with_reducible first | exact HB.out | apply zH | apply zF | apply zG | refine zI ?_ GE11.out) | exact HB.out))⟩; clear BK11 HB hq_; have BK11 := n0_; have HB := n1_; clear n0_ n1_)); have hcz7_0 : w6.cell? ⟨gb11, 0, none⟩ = some (.int .i64 0) := (zP BK11.out 0).trans rfl; have hcz7_1 : w6.cell? ⟨gb11, 1, none⟩ = some (.int .i64 0) := (zP BK11.out 1).trans rfl; have hcz7_2 : w6.cell? ⟨gb11, 2, none⟩ = some (.int .i64 0) := (zP BK11.out 2).trans rfl; have hfz7_0 := zO BK11.out 0; have hfz7_1 := zO BK11.out 1; have hfz7_2 := zO BK11.out 2)); refine bodyPost_ret (results_ct rfl _ _ gb11 104 #[.int .i64 0, .int .i64 0, .int .i64 0] (0, 0) _ rfl (by (with_reducible repeat (first | refine zL ?_ _ | refine zN ?_ | refine zM ?_ _)); refine blk_put (cs := #[.int .i64 0, .int .i64 0, .int .i64 0]) ?_ 2 _ rfl; (with_reducible repeat (first | refine zL ?_ _ | refine zN ?_ | refine zM ?_ _)); refine blk_put (cs := #[.int .i64 0, .int .i64 0, .int .i64 0]) ?_ 1 _ rfl; (with_reducible repeat (first | refine zL ?_ _ | refine zN ?_ | refine zM ?_ _)); refine blk_put (cs := #[.int .i64 0, .int .i64 0, .int .i64 0]) ?_ 0 _ rfl; (with_reducible repeat (first | refine zL ?_ _ | refine zN ?_ | refine zM ?_ _)); exact BK11.out) Tryd.underlying104 rfl (by kernel_rfl)) rfl ?_; exact ⟨by first | rfl | (simp <;> rfl) | (simp [*] <;> rfl), by repeat (first | (with_reducible first | exact HB.out | apply zH | apply zF | apply zG | refine zI ?_ GE11.out) | exact HB.out)⟩
def spec_l1End.f (a0_0 : Int) (a0_1 : Int) (a0_2 : Int) : Option (ByteArray) := some (strOfNums (([(a0_1 / 256) % 256, (a0_1) % 256, (a0_0 / 256) % 256, (a0_0) % 256] : List Int)))
theorem spec_l1End.calls (a0_0 : Int) (a0_1 : Int) (a0_2 : Int) (r : ByteArray) (w : World) (h : spec_l1End.f a0_0 a0_1 a0_2 = some r) :
  Calls Tryd.prog 82 #[.agg #[.int .i64 a0_0, .int .i64 a0_1, .int .i64 a0_2]] w fun e w' => e = .returned (.string r) ∧ Below w.heap.size w w' := by
 have hu104 := Tryd.underlying104; have HB := zA (Below.refl w.heap.size w); have H : (some (strOfNums (([(a0_1 / 256) % 256, (a0_1) % 256, (a0_0 / 256) % 256, (a0_0) % 256] : List Int)))) = some r := h; clear h; obtain ⟨y10, hy10⟩ : ∃ y_ : List Int, y_ = (([(a0_1 / 256) % 256, (a0_1) % 256, (a0_0 / 256) % 256, (a0_0) % 256] : List Int)) := ⟨_, rfl⟩; replace H : (some (strOfNums y10)) = some r := by first | (rw [hy10]; with_reducible exact H) | (have H2_ := (Option.bind_some _ _).symm.trans H; rw [hy10]; with_reducible exact H2_) | (have H2_ := (Option.bind_some _ _).symm.trans H; with_reducible exact H2_) | with_reducible exact H | (rw [hy10]; exact H) | exact H
 have Ny10 := zA hy10; clear hy10; obtain rfl := Option.some.inj H; go_enter Tryd.func82, Tryd.ntmps82; go_wp2_with (first | ((with_reducible refine gate_dst (N := 1) rfl ?_); refine box_event ?hg (N := 1) ?hd (cs := #[.int .i64 a0_0, .int .i64 a0_1, .int .i64 a0_2]) (t := 104) ?hr ?_; (case hd => rfl); (case hg => rfl); (case hr => first | (go_simp; done) | (go_simp; rfl)); intro gb11 hg w2 hbox hb; have n0_ := zA (zAD (by repeat (first | (with_reducible first | exact HB.out | apply zH | apply zF | apply zG) | exact HB.out)) hb); have n1_ := zA (hbox); have n2_ := zA ((by rw [hg]; exact (zAE (by repeat (first | (with_reducible first | exact HB.out | apply zH | apply zF | apply zG) | exact HB.out))) : w.heap.size ≤ gb11)); have n3_ := zA ((by rw [hg]; exact (zAE (by repeat (first | (with_reducible first | exact HB.out | apply zH | apply zF | apply zG) | exact HB.out))) : w.heap.size ≤ gb11)); clear HB; have HB := n0_; have BK11 := n1_; have GW11 := n2_; have GE11 := n3_; clear n0_ n1_ n2_ n3_; clear hb hbox hg; have hcz3_0 : w2.cell? ⟨gb11, 0, none⟩ = some (.int .i64 a0_0) := (zP BK11.out 0).trans rfl; have hcz3_1 : w2.cell? ⟨gb11, 1, none⟩ = some (.int .i64 a0_1) := (zP BK11.out 1).trans rfl; have hcz3_2 : w2.cell? ⟨gb11, 2, none⟩ = some (.int .i64 a0_2) := (zP BK11.out 2).trans rfl; have hfz3_0 := zO BK11.out 0; have hfz3_1 := zO BK11.out 1; have hfz3_2 := zO BK11.out 2) | ((with_reducible refine gate_dst (N := 17) rfl ?_); refine Kd.R_lit (Kd.int .u8) _ 5 ?hg (N := 17) ?hd (xs := ([(a0_1 / 256) % 256, (a0_1) % 256, (a0_0 / 256) % 256, (a0_0) % 256] : List Int)) (inner := [.int .u8 ((a0_1 / 256) % 256), .int .u8 ((a0_1) % 256), .int .u8 ((a0_0 / 256) % 256), .int .u8 ((a0_0) % 256)]) (ok := fun _ => True) (okp := fun _ => True) ?hr ?hp (fun _ hk => hk) trivial (Below.refl _ _) (Nat.le_refl _) (by simp) ?_; (case hd => rfl); (case hg => rfl); (case hr => first | (go_simp; done) | (go_simp; rfl)); (case hp => exact (Reps.one (show Kd.M (Kd.int .u8) _ _ _ ((a0_1 / 256) % 256) [.int .u8 ((a0_1 / 256) % 256)] from rfl) (Reps.one (show Kd.M (Kd.int .u8) _ _ _ ((a0_1) % 256) [.int .u8 ((a0_1) % 256)] from rfl) (Reps.one (show Kd.M (Kd.int .u8) _ _ _ ((a0_0 / 256) % 256) [.int .u8 ((a0_0 / 256) % 256)] from rfl) (Reps.one (show Kd.M (Kd.int .u8) _ _ _ ((a0_0) % 256) [.int .u8 ((a0_0) % 256)] from rfl) (Reps.none _ _)))))); intro v12 w4 ho5 hb hg_ hnew_; clear hg_ hnew_; (first | rw [← Ny10.out] at ho5 | (simp only [Int.reduceToNat] at ho5; rw [← Ny10.out] at ho5)); have n0_ := zA (Kd.R_lower ho5 (zAE (by repeat (first | (with_reducible first | exact HB.out | apply zH | apply zF | apply zG | refine zI ?_ GE11.out) | exact HB.out)))); have n1_ := zA (yE (g := gb11) (o := .cells #[.int .i64 a0_0, .int .i64 a0_1, .int .i64 a0_2] 104 (0, 0)) (by (with_reducible repeat (first | refine zL ?_ _ | refine zN ?_ | refine zM ?_ _)); exact BK11.out) hb); have n2_ := zA (zAD (by repeat (first | (with_reducible first | exact HB.out | apply zH | apply zF | apply zG | refine zI ?_ GE11.out) | exact HB.out)) hb); clear BK11; clear HB; have HO13 := n0_; have BK11 := n1_; have HB := n2_; clear n0_ n1_ n2_; clear hb ho5; have hcv6 := own_string (P := Tryd.prog) Tryd.underlying48 Tryd.underlying5 Tryd.underlying9 (Kd.own_of_R HO13.out))); go_ret; exact ⟨by first | rfl | (simp <;> rfl) | (simp [*] <;> rfl), by repeat (first | (with_reducible first | exact HB.out | apply zH | apply zF | apply zG | refine zI ?_ GE11.out) | exact HB.out)⟩
def spec_l1Feed.l0 : Nat → ByteArray → Int → Int → Int → Int → Option (Int × Int × Int)
 | 0, _, _, _, _, _ => none
 | k + 1, x1, x5, x10, x11, x12 => if x5 < (x1.size : Int) then (if 0 ≤ x5 then (spec_l1Feed.l0 k x1 (wrap64 (x5 + 1)) (Int.tmod (wrap64 (x10 + (wrap64 (bt x1 x5)))) 65521) (Int.tmod (wrap64 (x11 + (Int.tmod (wrap64 (x10 + (wrap64 (bt x1 x5)))) 65521))) 65521) x12) else (none)) else (some (x10, x11, wrap64 (x12 + (x1.size : Int))))
def spec_l1Feed.f (k : Nat) (a0_0 : Int) (a0_1 : Int) (a0_2 : Int) (a1 : ByteArray) : Option (Int × Int × Int) := spec_l1Feed.l0 k a1 0 a0_0 a0_1 a0_2
def spec_l1Feed.T4 : Bool × List (List Nat × List Nat) := (true, [([], []), ([0], [0]), ([], []), ([], []), ([2, 3], [2, 3]), ([4], [4]), ([1, 5], [1, 5]), ([6], [6]), ([0, 1, 2, 3, 4, 5, 6, 7], []), ([8, 7, 0, 1, 2, 3, 4, 5, 6, 7], [7, 8])])
def spec_l1Feed.B4 : List Nat := [0, 1, 0, 0, 12, 28, 63, 127, 255, 511]
theorem spec_l1Feed.tab4 : rtab .any (opsOf Tryd.f83 4) = spec_l1Feed.T4 := by kernel_rfl
theorem spec_l1Feed.bits4 : waitsOk spec_l1Feed.T4.2 spec_l1Feed.B4 = true := by kernel_rfl
theorem spec_l1Feed.calls (k : Nat) (a0_0 : Int) (a0_1 : Int) (a0_2 : Int) (a1 : ByteArray) (r1 : Int) (r2 : Int) (r3 : Int) (w : World) (h : spec_l1Feed.f k a0_0 a0_1 a0_2 a1 = some (r1, r2, r3)) :
  Calls Tryd.prog 83 #[.agg #[.int .i64 a0_0, .int .i64 a0_1, .int .i64 a0_2], .string a1] w fun e w' => e = .returned (.agg #[.int .i64 r1, .int .i64 r2, .int .i64 r3]) ∧ Below w.heap.size w w' := by
 have hu104 := Tryd.underlying104; have HB := zA (Below.refl w.heap.size w); have H : (spec_l1Feed.l0 k a1 0 a0_0 a0_1 a0_2) = some (r1, r2, r3) := h; clear h; have H' := zA H; clear H; go_enter Tryd.func83, Tryd.ntmps83; go_wp2_with (first | ((with_reducible refine gate_dst (N := 2) rfl ?_); refine box_event ?hg (N := 2) ?hd (cs := #[.int .i64 a0_0, .int .i64 a0_1, .int .i64 a0_2]) (t := 104) ?hr ?_; (case hd => rfl); (case hg => rfl); (case hr => first | (go_simp; done) | (go_simp; rfl)); intro gb15 hg w3 hbox hb; have n0_ := zA (zAD (by repeat (first | (with_reducible first | exact HB.out | apply zH | apply zF | apply zG) | exact HB.out)) hb); have n1_ := zA (hbox); have n2_ := zA ((by rw [hg]; exact (zAE (by repeat (first | (with_reducible first | exact HB.out | apply zH | apply zF | apply zG) | exact HB.out))) : w.heap.size ≤ gb15)); have n3_ := zA ((by rw [hg]; exact (zAE (by repeat (first | (with_reducible first | exact HB.out | apply zH | apply zF | apply zG) | exact HB.out))) : w.heap.size ≤ gb15)); clear HB; have HB := n0_; have BK15 := n1_; have GW15 := n2_; have GE15 := n3_; clear n0_ n1_ n2_ n3_; clear hb hbox hg) | ((with_reducible refine gate_dst (N := 4) rfl ?_); refine box_event ?hg (N := 4) ?hd (cs := #[.int .i64 0, .int .i64 0, .int .i64 0]) (t := 104) ?hr ?_; (case hd => rfl); (case hg => rfl); (case hr => first | (go_simp; done) | (go_simp; rfl)); intro gb16 hg w4 hbox hb; have n0_ := zA (yE (g := gb15) (o := .cells #[.int .i64 a0_0, .int .i64 a0_1, .int .i64 a0_2] 104 (0, 0)) (by (with_reducible repeat (first | refine zL ?_ _ | refine zN ?_ | refine zM ?_ _)); exact BK15.out) hb); have n1_ := zA (zAD (by repeat (first | (with_reducible first | exact HB.out | apply zH | apply zF | apply zG | refine zI ?_ GE15.out) | exact HB.out)) hb); have n2_ := zA (hbox); have n3_ := zA ((by rw [hg]; exact (zAE (by repeat (first | (with_reducible first | exact HB.out | apply zH | apply zF | apply zG | refine zI ?_ GE15.out) | exact HB.out))) : w.heap.size ≤ gb16)); have n4_ := zA ((by rw [hg]; exact (zAE (by repeat (first | (with_reducible first | exact HB.out | apply zH | apply zF | apply zG | refine zI ?_ GE15.out) | exact HB.out))) : w.heap.size ≤ gb16)); have n5_ := zA ((by rw [hg]; exact zK (blk_lt (g := gb15) (o := .cells #[.int .i64 a0_0, .int .i64 a0_1, .int .i64 a0_2] 104 (0, 0)) (by (with_reducible repeat (first | refine zL ?_ _ | refine zN ?_ | refine zM ?_ _)); exact BK15.out)) : gb15 ≠ gb16)); have n6_ := zA ((by rw [hg]; exact Nat.ne_of_gt (blk_lt (g := gb15) (o := .cells #[.int .i64 a0_0, .int .i64 a0_1, .int .i64 a0_2] 104 (0, 0)) (by (with_reducible repeat (first | refine zL ?_ _ | refine zN ?_ | refine zM ?_ _)); exact BK15.out)) : gb16 ≠ gb15)); clear BK15; clear HB; have BK15 := n0_; have HB := n1_; have BK16 := n2_; have GW16 := n3_; have GE16 := n4_; have NB15_16 := n5_; have NB16_15 := n6_; clear n0_ n1_ n2_ n3_ n4_ n5_ n6_; clear hb hbox hg)); go_loopg [5] k (fun kq v5 w' => ∃ (x5_1 : Int) (x17_1 : Int) (x18_1 : Int), v5 = .int .i64 x5_1 ∧ Aside0 (spec_l1Feed.l0 kq a1 x5_1 x17_1 x18_1 a0_2 = some (r1, r2, r3)) ∧ Aside0 (kq ≤ k) ∧ Aside0 (w'.heap[gb15]? = some (.cells #[.int .i64 x17_1, .int .i64 x18_1, .int .i64 a0_2] 104 (0, 0))) ∧ Aside0 (w'.heap[gb16]? = some (.cells #[.int .i64 0, .int .i64 0, .int .i64 0] 104 (0, 0))) ∧ Aside0 (Below w.heap.size w w'))
 case atStart => exact ⟨(0), (a0_0), (a0_1), (by first | rfl | (simp; done) | (simp [*]; done) | (simp [bne]; done)), H', ⟨Nat.le_refl _⟩, ⟨by (with_reducible repeat (first | refine zL ?_ _ | refine zN ?_ | refine zM ?_ _)); exact BK15.out⟩, ⟨by (with_reducible repeat (first | refine zL ?_ _ | refine zN ?_ | refine zM ?_ _)); exact BK16.out⟩, ⟨by repeat (first | (with_reducible first | exact HB.out | apply zH | apply zF | apply zG | refine zI ?_ GE15.out | refine zI ?_ GE16.out) | exact HB.out)⟩⟩
 case round =>
  clear H'
  try clear p2
  obtain ⟨x5_1, x17_1, x18_1, rfl, HA, HK1, BK15, BK16, HB⟩ := hrel
  cases gk with
  | zero => exact absurd HA.out (by simp [spec_l1Feed.l0])
  | succ k1 =>
   have H := HA.out; clear HA; simp only [spec_l1Feed.l0] at H
   by_cases c5 : x5_1 < (a1.size : Int)
   ·rw [if_pos c5] at H
    have c5b0 : decide (x5_1 < (a1.size : Int)) = true := zX c5; clear c5
    by_cases c6 : 0 ≤ x5_1
    ·rw [if_pos c6] at H
     have c6b0 : decide (0 ≤ x5_1) = true := zX c6; clear c6; have H' := zA H; clear H
     try go_wp2
     have n0_ := zA (zN BK15.out); have n1_ := zA (zN BK16.out); have n2_ := zA (zG HB.out); clear BK15 BK16 HB; have BK15 := n0_; have BK16 := n1_; have HB := n2_; clear n0_ n1_ n2_; have p7 : 0 ≤ (x5_1 : Int) := zW (by first | (with_reducible assumption) | assumption); have q7 : x5_1 < (a1.size : Int) := zW (by first | (with_reducible assumption) | assumption); have hx7 := bt_at a1 x5_1; replace p7 := eq_true p7; replace q7 := eq_true q7; refine start_ (n := 10) (S := fun w' => w'.cell? ⟨gb15, 0, none⟩ = some (.int .i64 x17_1) ∧ w'.cell? ⟨gb15, 1, none⟩ = some (.int .i64 x18_1) ∧ w'.cell? ⟨gb15, 2, none⟩ = some (.int .i64 a0_2)) (ds := [9]) #[false, false, false, false, false, false, false, false, false, false] (by kernel_rfl) rfl rfl ⟨(zP BK15.out 0).trans rfl, (zP BK15.out 1).trans rfl, (zP BK15.out 2).trans rfl⟩ (fun hHeld => ?_); refine with_tabW spec_l1Feed.tab4 spec_l1Feed.bits4 (fun HT_ HW_ => ?_); generalize wr.drew = w8 at BK15 BK16 HB hHeld ⊢; refine pure_ (i := 0) (N := some 12) (v := ?_) (a' := ?_) #[true, false, false, false, false, false, false, false, false, false] rfl rfl (any_of HT_.out (by kernel_rfl)) (fun _ _ _ h => h) (Or.inl ⟨by rfl, ?_⟩) ?_ ?_; rotate_left
     ·intro w'
      go_simp
      with_reducible rfl
     rotate_left
     ·simp only [Act.put, zC, zD, zE, i64_w, i32_w]
      rfl
     refine pure_ (i := 2) (N := some 14) (v := ?_) (a' := ?_) #[true, false, true, false, false, false, false, false, false, false] rfl rfl (any_of HT_.out (by kernel_rfl)) (fun _ _ _ h => h) (Or.inl ⟨by rfl, ?_⟩) ?_ ?_; rotate_left
     ·intro w'
      go_simp
      with_reducible rfl
     rotate_left
     ·simp only [Act.put, zC, zD, zE, i64_w, i32_w]
      rfl
     refine pure_ (i := 3) (N := some 15) (v := ?_) (a' := ?_) #[true, false, true, true, false, false, false, false, false, false] rfl rfl (any_of HT_.out (by kernel_rfl)) (fun _ _ _ h => h) (Or.inl ⟨by rfl, ?_⟩) ?_ ?_; rotate_left
     ·intro w'
      go_simp
      with_reducible rfl
     rotate_left
     ·simp only [Act.put, zC, zD, zE, i64_w, i32_w]
      rfl
     refine take_ (i := 1) (N := some 13) (v := ?_) (a' := ?_) #[true, true, true, true, false, false, false, false, false, false] rfl rfl (take_ofW HT_.out HW_.out (by kernel_rfl)) (fun _ _ _ h => h) (Or.inl ⟨by rfl, ?_⟩) hHeld ?_ ?_; rotate_left
     ·rintro w' ⟨s0, s1, s2⟩
      go_simp
      with_reducible rfl
     rotate_left
     ·simp only [Act.put, zC, zD, zE, i64_w, i32_w]
      rfl
     refine take_ (i := 4) (N := some 16) (v := ?_) (a' := ?_) #[true, true, true, true, true, false, false, false, false, false] rfl rfl (take_ofW HT_.out HW_.out (by kernel_rfl)) (fun _ _ _ h => h) (Or.inl ⟨by rfl, ?_⟩) hHeld ?_ ?_; rotate_left
     ·rintro w' ⟨s0, s1, s2⟩
      go_simp
      with_reducible rfl
     rotate_left
     ·simp only [Act.put, zC, zD, zE, i64_w, i32_w]
      rfl
     refine pure_ (i := 5) (N := some 17) (v := ?_) (a' := ?_) #[true, true, true, true, true, true, false, false, false, false] rfl rfl (any_of HT_.out (by kernel_rfl)) (fun _ _ _ h => h) (Or.inl ⟨by rfl, ?_⟩) ?_ ?_; rotate_left
     ·intro w'
      go_simp
      with_reducible rfl
     rotate_left
     ·simp only [Act.put, zC, zD, zE, i64_w, i32_w]
      rfl
     refine pure_ (i := 6) (N := some 18) (v := ?_) (a' := ?_) #[true, true, true, true, true, true, true, false, false, false] rfl rfl (any_of HT_.out (by kernel_rfl)) (fun _ _ _ h => h) (Or.inl ⟨by rfl, ?_⟩) ?_ ?_; rotate_left
     ·intro w'
      go_simp
      with_reducible rfl
     rotate_left
     ·simp only [Act.put, zC, zD, zE, i64_w, i32_w]
      rfl
     refine pure_ (i := 7) (N := some 19) (v := ?_) (a' := ?_) #[true, true, true, true, true, true, true, true, false, false] rfl rfl (any_of HT_.out (by kernel_rfl)) (fun _ _ _ h => h) (Or.inl ⟨by rfl, ?_⟩) ?_ ?_; rotate_left
     ·intro w'
      go_simp
      with_reducible rfl
     rotate_left
     ·simp only [Act.put, zC, zD, zE, i64_w, i32_w]
      rfl
     refine pure_ (i := 8) (N := some 20) (v := ?_) (a' := ?_) #[true, true, true, true, true, true, true, true, true, false] rfl rfl (any_of HT_.out (by kernel_rfl)) (fun _ _ _ h => h) (Or.inl ⟨by rfl, ?_⟩) ?_ ?_; rotate_left
     ·intro w'
      go_simp
      with_reducible rfl
     rotate_left
     ·simp only [Act.put, zC, zD, zE, i64_w, i32_w]
      rfl
     refine last_ (i := 9) (N := none) #[true, true, true, true, true, true, true, true, true, true] rfl rfl (one_of HT_.out (by kernel_rfl)) (by decide) (fun K hK => ?_); have hs9 : w8.cell? ⟨gb15, 0, none⟩ = some (.int .i64 x17_1) := (zP BK15.out 0).trans rfl; have hfs9 := zO BK15.out 0; have hns9_1 := NB16_15.out; have hms9_1 := NB15_16.out; refine skip_ (w1 := ?_) (by rfl) rfl ?_ ?_; rotate_left
     ·go_simp
      rfl
     refine hK.out _ _ ?_; clear hK K; refine done_ (done_of HT_.out (by kernel_rfl)) ?_; have hnb10 := NB15_16.out; have hnc10 := NB16_15.out; have hcz11_0 : w8.cell? ⟨gb15, 0, none⟩ = some (.int .i64 x17_1) := (zP BK15.out 0).trans rfl; have hcz11_1 : w8.cell? ⟨gb15, 1, none⟩ = some (.int .i64 x18_1) := (zP BK15.out 1).trans rfl; have hcz11_2 : w8.cell? ⟨gb15, 2, none⟩ = some (.int .i64 a0_2) := (zP BK15.out 2).trans rfl; have hfz11_0 := zO BK15.out 0; have hfz11_1 := zO BK15.out 1; have hfz11_2 := zO BK15.out 2
     try go_wp2
     go_roundg k1
     case measure => have := HK1.out; omega
     case rel => exact ⟨(wrap64 (x5_1 + 1)), (Int.tmod (wrap64 (x17_1 + (wrap64 (bt a1 x5_1)))) 65521), (Int.tmod (wrap64 (x18_1 + (Int.tmod (wrap64 (x17_1 + (wrap64 (bt a1 x5_1)))) 65521))) 65521), (by first | rfl | (simp; done) | (simp [*]; done) | (simp [bne]; done)), H', ⟨by have := HK1.out; omega⟩, ⟨by (with_reducible repeat (first | refine zL ?_ _ | refine zN ?_ | refine zM ?_ _)); refine blk_put (cs := #[.int .i64 (Int.tmod (wrap64 (x17_1 + (wrap64 (bt a1 x5_1)))) 65521), .int .i64 x18_1, .int .i64 a0_2]) ?_ 1 _ rfl; (with_reducible repeat (first | refine zL ?_ _ | refine zN ?_ | refine zM ?_ _)); refine blk_put (cs := #[.int .i64 x17_1, .int .i64 x18_1, .int .i64 a0_2]) ?_ 0 _ rfl; (with_reducible repeat (first | refine zL ?_ _ | refine zN ?_ | refine zM ?_ _)); exact BK15.out⟩, ⟨by (with_reducible repeat (first | refine zL ?_ _ | refine zN ?_ | refine zM ?_ _)); refine blk_far ?_ NB16_15.out _; (with_reducible repeat (first | refine zL ?_ _ | refine zN ?_ | refine zM ?_ _)); refine blk_far ?_ NB16_15.out _; (with_reducible repeat (first | refine zL ?_ _ | refine zN ?_ | refine zM ?_ _)); exact BK16.out⟩, ⟨by repeat (first | (with_reducible first | exact HB.out | apply zH | apply zF | apply zG | refine zI ?_ GE15.out | refine zI ?_ GE16.out) | exact HB.out)⟩⟩
    ·rw [if_neg c6] at H
     exact absurd H (by simp)
   ·rw [if_neg c5] at H
    have c5b0 : decide (x5_1 < (a1.size : Int)) = false := decide_eq_false c5; clear c5; simp only [Option.some.injEq, Prod.mk.injEq] at H; obtain ⟨rfl, rfl, rfl⟩ := H; have hnb12 := NB15_16.out; have hnc12 := NB16_15.out; have hcz13_0 : wr.cell? ⟨gb15, 0, none⟩ = some (.int .i64 x17_1) := (zP BK15.out 0).trans rfl; have hcz13_1 : wr.cell? ⟨gb15, 1, none⟩ = some (.int .i64 x18_1) := (zP BK15.out 1).trans rfl; have hcz13_2 : wr.cell? ⟨gb15, 2, none⟩ = some (.int .i64 a0_2) := (zP BK15.out 2).trans rfl; have hfz13_0 := zO BK15.out 0; have hfz13_1 := zO BK15.out 1; have hfz13_2 := zO BK15.out 2; have hcz14_0 : wr.cell? ⟨gb16, 0, none⟩ = some (.int .i64 0) := (zP BK16.out 0).trans rfl; have hcz14_1 : wr.cell? ⟨gb16, 1, none⟩ = some (.int .i64 0) := (zP BK16.out 1).trans rfl; have hcz14_2 : wr.cell? ⟨gb16, 2, none⟩ = some (.int .i64 0) := (zP BK16.out 2).trans rfl; have hfz14_0 := zO BK16.out 0; have hfz14_1 := zO BK16.out 1; have hfz14_2 := zO BK16.out 2; go_wp2; refine bodyPost_ret (results_cell_row rfl _ _ gb16 104 #[.int .i64 x17_1, .int .i64 x18_1, .int .i64 (wrap64 (a0_2 + (a1.size : Int)))] (0, 0) _ rfl (by (with_reducible repeat (first | refine zL ?_ _ | refine zN ?_ | refine zM ?_ _)); refine blk_put (cs := #[.int .i64 x17_1, .int .i64 x18_1, .int .i64 0]) ?_ 2 _ rfl; (with_reducible repeat (first | refine zL ?_ _ | refine zN ?_ | refine zM ?_ _)); refine blk_put (cs := #[.int .i64 x17_1, .int .i64 0, .int .i64 0]) ?_ 1 _ rfl; (with_reducible repeat (first | refine zL ?_ _ | refine zN ?_ | refine zM ?_ _)); refine blk_put (cs := #[.int .i64 0, .int .i64 0, .int .i64 0]) ?_ 0 _ rfl; (with_reducible repeat (first | refine zL ?_ _ | refine zN ?_ | refine zM ?_ _)); refine blk_far ?_ NB16_15.out _; (with_reducible repeat (first | refine zL ?_ _ | refine zN ?_ | refine zM ?_ _)); exact BK16.out) Tryd.underlying104 rfl (by kernel_rfl)) rfl ?_; exact ⟨by first | rfl | (simp <;> rfl) | (simp [*] <;> rfl), by repeat (first | (with_reducible first | exact HB.out | apply zH | apply zF | apply zG | refine zI ?_ GE15.out | refine zI ?_ GE16.out) | exact HB.out)⟩
def spec_l1Digest.f (k : Nat) (a0 : Int) (a1 : ByteArray) : Option (ByteArray) := (spec_NewMix.f a0).bind fun bt10 => ((spec_l1Feed.f k bt10.1 bt10.2.1 bt10.2.2.1 a1).bind fun bt11 => ((spec_l1End.f bt11.1 bt11.2.1 bt11.2.2).bind fun t12 => (some t12)))
theorem spec_l1Digest.calls (k : Nat) (a0 : Int) (a1 : ByteArray) (r : ByteArray) (w : World) (h : spec_l1Digest.f k a0 a1 = some r) :
  Calls Tryd.prog 61 #[.int .u8 a0, .string a1] w fun e w' => e = .returned (.string r) ∧ Below w.heap.size w w' := by
 have hu104 := Tryd.underlying104; have HB := zA (Below.refl w.heap.size w); have H : ((spec_NewMix.f a0).bind fun bt11 => ((spec_l1Feed.f k bt11.1 bt11.2.1 bt11.2.2.1 a1).bind fun bt12 => ((spec_l1End.f bt12.1 bt12.2.1 bt12.2.2).bind fun t13 => (some t13)))) = some r := h; clear h; replace H := zAF H; obtain ⟨⟨t11, t14, t15, t16⟩, A30, H⟩ := H; replace H : ((spec_l1Feed.f k t11 t14 t15 a1).bind fun bt12 => ((spec_l1End.f bt12.1 bt12.2.1 bt12.2.2).bind fun t13 => (some t13))) = some r := H; have A3 := zA A30; clear A30; replace H := zAF H; obtain ⟨⟨t12, t17, t18⟩, A40, H⟩ := H; replace H : ((spec_l1End.f t12 t17 t18).bind fun t13 => (some t13)) = some r := H; have A4 := zA A40; clear A40; replace H := zAF H; obtain ⟨t13, A50, H⟩ := H; replace H : (some t13) = some r := H; have A5 := zA A50; clear A50; obtain rfl := Option.some.inj H; go_enter Tryd.func61, Tryd.ntmps61; go_wp2_with (first | ((with_reducible refine yB (f := 81) rfl ?_); refine goesL_ (some 9) rfl rfl Tryd.func81 (by kernel_rfl) rfl #[.int .u8 a0] rfl (by (try simp only [zAA, zAB, zAC]); first | done | rfl) ?_; (with_reducible refine (spec_NewMix.calls a0 t11 t14 t15 t16 _ A3.out).mono ?_); rintro e w6 ⟨rfl, hb⟩; refine ⟨_, rfl, ?_⟩; have n0_ := zA (zAD (by repeat (first | (with_reducible first | exact HB.out | apply zH | apply zF | apply zG) | exact HB.out)) hb); clear HB; have HB := n0_; clear n0_; (try clear hb)) | ((with_reducible refine gate_dst (N := 5) rfl ?_); refine box_event ?hg (N := 5) ?hd (cs := #[.int .i64 0, .int .i64 0, .int .i64 0]) (t := 104) ?hr ?_; (case hd => rfl); (case hg => rfl); (case hr => first | (go_simp; done) | (go_simp; rfl)); intro gb19 hg w7 hbox hb; have n0_ := zA (zAD (by repeat (first | (with_reducible first | exact HB.out | apply zH | apply zF | apply zG) | exact HB.out)) hb); have n1_ := zA (hbox); have n2_ := zA ((by rw [hg]; exact (zAE (by repeat (first | (with_reducible first | exact HB.out | apply zH | apply zF | apply zG) | exact HB.out))) : w.heap.size ≤ gb19)); have n3_ := zA ((by rw [hg]; exact (zAE (by repeat (first | (with_reducible first | exact HB.out | apply zH | apply zF | apply zG) | exact HB.out))) : w.heap.size ≤ gb19)); clear HB; have HB := n0_; have BK19 := n1_; have GW19 := n2_; have GE19 := n3_; clear n0_ n1_ n2_ n3_; clear hb hbox hg; have hcz8_0 : w7.cell? ⟨gb19, 0, none⟩ = some (.int .i64 0) := (zP BK19.out 0).trans rfl; have hcz8_1 : w7.cell? ⟨gb19, 1, none⟩ = some (.int .i64 0) := (zP BK19.out 1).trans rfl; have hcz8_2 : w7.cell? ⟨gb19, 2, none⟩ = some (.int .i64 0) := (zP BK19.out 2).trans rfl; have hfz8_0 := zO BK19.out 0; have hfz8_1 := zO BK19.out 1; have hfz8_2 := zO BK19.out 2) | ((with_reducible refine yB (f := 83) rfl ?_); refine goesL_ (some 14) rfl rfl Tryd.func83 (by kernel_rfl) rfl #[.agg #[.int .i64 t11, .int .i64 t14, .int .i64 t15], .string a1] rfl (by (try simp only [zAA, zAB, zAC]); first | done | rfl) ?_; (with_reducible refine (spec_l1Feed.calls k t11 t14 t15 a1 t12 t17 t18 _ A4.out).mono ?_); rintro e w9 ⟨rfl, hb⟩; refine ⟨_, rfl, ?_⟩; have n0_ := zA (yE (g := gb19) (o := .cells #[.int .i64 t11, .int .i64 t14, .int .i64 t15] 104 (0, 0)) (by (with_reducible repeat (first | refine zL ?_ _ | refine zN ?_ | refine zM ?_ _)); refine blk_put (cs := #[.int .i64 t11, .int .i64 t14, .int .i64 0]) ?_ 2 _ rfl; (with_reducible repeat (first | refine zL ?_ _ | refine zN ?_ | refine zM ?_ _)); refine blk_put (cs := #[.int .i64 t11, .int .i64 0, .int .i64 0]) ?_ 1 _ rfl; (with_reducible repeat (first | refine zL ?_ _ | refine zN ?_ | refine zM ?_ _)); refine blk_put (cs := #[.int .i64 0, .int .i64 0, .int .i64 0]) ?_ 0 _ rfl; (with_reducible repeat (first | refine zL ?_ _ | refine zN ?_ | refine zM ?_ _)); exact BK19.out) hb); have n1_ := zA (zAD (by repeat (first | (with_reducible first | exact HB.out | apply zH | apply zF | apply zG | refine zI ?_ GE19.out) | exact HB.out)) hb); clear BK19; clear HB; have BK19 := n0_; have HB := n1_; clear n0_ n1_; (try clear hb)) | ((with_reducible refine yB (f := 82) rfl ?_); refine goesL_ (some 15) rfl rfl Tryd.func82 (by kernel_rfl) rfl #[.agg #[.int .i64 t12, .int .i64 t17, .int .i64 t18]] rfl (by (try simp only [zAA, zAB, zAC]); first | done | rfl) ?_; (with_reducible refine (spec_l1End.calls t12 t17 t18 t13 _ A5.out).mono ?_); rintro e w10 ⟨rfl, hb⟩; refine ⟨_, rfl, ?_⟩; have n0_ := zA (yE (g := gb19) (o := .cells #[.int .i64 t11, .int .i64 t14, .int .i64 t15] 104 (0, 0)) (by (with_reducible repeat (first | refine zL ?_ _ | refine zN ?_ | refine zM ?_ _)); exact BK19.out) hb); have n1_ := zA (zAD (by repeat (first | (with_reducible first | exact HB.out | apply zH | apply zF | apply zG | refine zI ?_ GE19.out) | exact HB.out)) hb); clear BK19; clear HB; have BK19 := n0_; have HB := n1_; clear n0_ n1_; (try clear hb))); go_ret; exact ⟨by first | rfl | (simp <;> rfl) | (simp [*] <;> rfl), by repeat (first | (with_reducible first | exact HB.out | apply zH | apply zF | apply zG | refine zI ?_ GE19.out) | exact HB.out)⟩
def spec_l1Row.l0 : Nat → ByteArray → List ByteArray → Int → Int → Option (ByteArray)
 | 0, _, _, _, _ => none
 | k + 1, x3, x6, x7, x8 => if x8 < x7 then (if 0 ≤ x8 then (if x8 < (x6.length : Int) then ((some (([(((rdOf ByteArray.empty x6 x8).size : Int)) % 256] : List Int) : List Int)).bind fun y10 => (if (strOfNums y10).size + (rdOf ByteArray.empty x6 x8).size ≤ 9223372036854775807 then (if x3.size + ((strOfNums y10) ++ (rdOf ByteArray.empty x6 x8)).size ≤ 9223372036854775807 then (spec_l1Row.l0 k (x3 ++ ((strOfNums y10) ++ (rdOf ByteArray.empty x6 x8))) x6 x7 (wrap64 (x8 + 1))) else (none)) else (none))) else (none)) else (none)) else (some x3)
def spec_l1Row.f (k : Nat) (l0 : List ByteArray) : Option (ByteArray) := spec_l1Row.l0 k (⟨#[]⟩ : ByteArray) l0 (l0.length : Int) 0
theorem spec_l1Row.calls (k : Nat) (A0 : Option Addr) (c0 : Nat) (l0 : List ByteArray) (r : ByteArray) (w : World) (hr0 : Kd.C Kd.string w A0 l0.length l0) (hc0 : l0.length ≤ c0) (h : spec_l1Row.f k l0 = some r) :
  Calls Tryd.prog 84 #[.slice A0 l0.length c0] w fun e w' => e = .returned (.string r) ∧ Below w.heap.size w w' := by
 have HR0 := zA hr0; have HC0 := zA hc0; clear hr0 hc0; have HB := zA (Below.refl w.heap.size w); have H : (spec_l1Row.l0 k (⟨#[]⟩ : ByteArray) l0 (l0.length : Int) 0) = some r := h; clear h; have H' := zA H; clear H; go_enter Tryd.func84, Tryd.ntmps84; go_wp2; go_loopg [3, 8] k (fun kq v3 v8 w' => ∃ (x3_1 : ByteArray) (x8_1 : Int), v3 = .string x3_1 ∧ v8 = .int .i64 x8_1 ∧ Aside0 (spec_l1Row.l0 kq x3_1 l0 (l0.length : Int) x8_1 = some r) ∧ Aside0 (kq ≤ k) ∧ Aside0 (Below w.heap.size w w'))
 case atStart => exact ⟨((⟨#[]⟩ : ByteArray)), (0), (by first | rfl | (simp; done) | (simp [*]; done) | (simp [bne]; done)), (by first | rfl | (simp; done) | (simp [*]; done) | (simp [bne]; done)), H', ⟨Nat.le_refl _⟩, ⟨by repeat (first | (with_reducible first | exact HB.out | apply zH | apply zF | apply zG) | exact HB.out)⟩⟩
 case round =>
  clear H'; obtain ⟨x3_1, x8_1, rfl, rfl, HA, HK1, HB⟩ := hrel
  cases gk with
  | zero => exact absurd HA.out (by simp [spec_l1Row.l0])
  | succ k1 =>
   have H := HA.out; clear HA; simp only [spec_l1Row.l0] at H
   by_cases c2 : x8_1 < (l0.length : Int)
   ·rw [if_pos c2] at H
    have c2b0 : decide (x8_1 < (l0.length : Int)) = true := zX c2; clear c2
    by_cases c3 : 0 ≤ x8_1
    ·rw [if_pos c3] at H
     have c3b0 : decide (0 ≤ x8_1) = true := zX c3; clear c3
     by_cases c4 : x8_1 < (l0.length : Int)
     ·rw [if_pos c4] at H
      have c4b0 : decide (x8_1 < (l0.length : Int)) = true := zX c4; clear c4; obtain ⟨y10, hy10⟩ : ∃ y_ : List Int, y_ = (([(((rdOf ByteArray.empty l0 x8_1).size : Int)) % 256] : List Int)) := ⟨_, rfl⟩; replace H : (if (strOfNums y10).size + (rdOf ByteArray.empty l0 x8_1).size ≤ 9223372036854775807 then (if x3_1.size + ((strOfNums y10) ++ (rdOf ByteArray.empty l0 x8_1)).size ≤ 9223372036854775807 then (spec_l1Row.l0 k1 (x3_1 ++ ((strOfNums y10) ++ (rdOf ByteArray.empty l0 x8_1))) l0 (l0.length : Int) (wrap64 (x8_1 + 1))) else (none)) else (none)) = some r := by first | (rw [hy10]; with_reducible exact H) | (have H2_ := (Option.bind_some _ _).symm.trans H; rw [hy10]; with_reducible exact H2_) | (have H2_ := (Option.bind_some _ _).symm.trans H; with_reducible exact H2_) | with_reducible exact H | (rw [hy10]; exact H) | exact H
      have Ny10 := zA hy10; clear hy10
      by_cases c5 : (strOfNums y10).size + (rdOf ByteArray.empty l0 x8_1).size ≤ 9223372036854775807
      ·rw [if_pos c5] at H
       have c5b0 := eq_true c5; have c5b1 : decide ((strOfNums y10).size + (rdOf ByteArray.empty l0 x8_1).size ≤ 9223372036854775807) = true := zX c5
       try have c5b2 : (9223372036854775807 < (strOfNums y10).size + (rdOf ByteArray.empty l0 x8_1).size) = False := eq_false (Nat.not_lt.2 c5)
       by_cases c6 : x3_1.size + ((strOfNums y10) ++ (rdOf ByteArray.empty l0 x8_1)).size ≤ 9223372036854775807
       ·rw [if_pos c6] at H
        have c6b0 := eq_true c6; have c6b1 : decide (x3_1.size + ((strOfNums y10) ++ (rdOf ByteArray.empty l0 x8_1)).size ≤ 9223372036854775807) = true := zX c6; (try (have c6b3 := (show x3_1.size + ((strOfNums y10) ++ (rdOf ByteArray.empty l0 x8_1)).size ≤ 9223372036854775807 from c6); simp only [ByteArray.size_append, ByteArray.size_extract, Nat.min_self, Nat.sub_zero] at c6b3; have c6b4 := eq_true c6b3; have c6b5 : decide (_) = true := zX c6b3; have c6b6 := eq_false (Nat.not_lt.2 c6b3); clear c6b3))
        try have c6b2 : (9223372036854775807 < x3_1.size + ((strOfNums y10) ++ (rdOf ByteArray.empty l0 x8_1)).size) = False := eq_false (Nat.not_lt.2 c6)
        have H' := zA H; clear H; have p11 : 0 ≤ (x8_1 : Int) := zW (by first | (with_reducible assumption) | assumption); have q11 : x8_1 < (l0.length : Int) := zW (by first | (with_reducible assumption) | assumption); obtain ⟨ad11, e11, hx11_0⟩ := Kd.at_string HR0.out x8_1 p11 q11
        cases e11
        replace hx11_0 := (HB.out.cell (zB w _ hx11_0)).trans hx11_0; replace p11 := eq_true p11; replace q11 := eq_true q11; go_wp2_with (first | ((with_reducible refine gate_dst (N := 16) rfl ?_); refine Kd.R_lit (Kd.int .u8) _ 5 ?hg (N := 16) ?hd (xs := ([(((rdOf ByteArray.empty l0 x8_1).size : Int)) % 256] : List Int)) (inner := [.int .u8 ((((rdOf ByteArray.empty l0 x8_1).size : Int)) % 256)]) (ok := fun _ => True) (okp := fun _ => True) ?hr ?hp (fun _ hk => hk) trivial (Below.refl _ _) (Nat.le_refl _) (by simp) ?_; (case hd => rfl); (case hg => rfl); (case hr => first | (go_simp; done) | (go_simp; rfl)); (case hp => exact (Reps.one (show Kd.M (Kd.int .u8) _ _ _ ((((rdOf ByteArray.empty l0 x8_1).size : Int)) % 256) [.int .u8 ((((rdOf ByteArray.empty l0 x8_1).size : Int)) % 256)] from rfl) (Reps.none _ _))); intro v12 w7 ho8 hb hg_ hnew_; clear hg_ hnew_; (first | rw [← Ny10.out] at ho8 | (simp only [Int.reduceToNat] at ho8; rw [← Ny10.out] at ho8)); have n0_ := zA (Kd.R_lower ho8 (zAE (by repeat (first | (with_reducible first | exact HB.out | apply zH | apply zF | apply zG) | exact HB.out)))); have n1_ := zA (zAD (by repeat (first | (with_reducible first | exact HB.out | apply zH | apply zF | apply zG) | exact HB.out)) hb); clear HB; have HO13 := n0_; have HB := n1_; clear n0_ n1_; clear hb ho8; have hcv9 := own_string (P := Tryd.prog) Tryd.underlying48 Tryd.underlying5 Tryd.underlying9 (Kd.own_of_R HO13.out))); go_roundg k1
        case measure => have := HK1.out; omega
        case rel => exact ⟨(x3_1 ++ ((strOfNums y10) ++ (rdOf ByteArray.empty l0 x8_1))), (wrap64 (x8_1 + 1)), (by first | rfl | (simp; done) | (simp [*]; done) | (simp [bne]; done)), (by first | rfl | (simp; done) | (simp [*]; done) | (simp [bne]; done)), H', ⟨by have := HK1.out; omega⟩, ⟨by repeat (first | (with_reducible first | exact HB.out | apply zH | apply zF | apply zG) | exact HB.out)⟩⟩
       ·rw [if_neg c6] at H
        exact absurd H (by simp)
      ·rw [if_neg c5] at H
       exact absurd H (by simp)
     ·rw [if_neg c4] at H
      exact absurd H (by simp)
    ·rw [if_neg c3] at H
     exact absurd H (by simp)
   ·rw [if_neg c2] at H
    have c2b0 : decide (x8_1 < (l0.length : Int)) = false := decide_eq_false c2; clear c2; obtain rfl := Option.some.inj H; go_wp2; go_ret; exact ⟨by first | rfl | (simp <;> rfl) | (simp [*] <;> rfl), by repeat (first | (with_reducible first | exact HB.out | apply zH | apply zF | apply zG) | exact HB.out)⟩
def spec_l16Bytes.f (k : Nat) (a0_0 : ByteArray) (a0_1 : ByteArray) (l0_2 : List ByteArray) : Option (ByteArray) := if a0_0.size + a0_1.size ≤ 9223372036854775807 then ((spec_l1Row.f k l0_2).bind fun t10 => (if (a0_0 ++ a0_1).size + t10.size ≤ 9223372036854775807 then (some ((a0_0 ++ a0_1) ++ t10)) else (none))) else (none)
def spec_l16Bytes.T1 : Bool × List (List Nat × List Nat) := (true, [([], []), ([0], [0]), ([], []), ([2], [2]), ([1, 3], [1, 3]), ([], []), ([5], [5]), ([6], [6]), ([4, 7], [4, 7]), ([8, 7, 0, 1, 2, 3, 4, 5, 6, 7, 8], [8])])
def spec_l16Bytes.B1 : List Nat := [0, 1, 0, 4, 15, 0, 32, 96, 255, 511]
theorem spec_l16Bytes.tab1 : rtab .any (opsOf Tryd.f62 1) = spec_l16Bytes.T1 := by kernel_rfl
theorem spec_l16Bytes.bits1 : waitsOk spec_l16Bytes.T1.2 spec_l16Bytes.B1 = true := by kernel_rfl
theorem spec_l16Bytes.calls (k : Nat) (a0_0 : ByteArray) (a0_1 : ByteArray) (A0_2 : Option Addr) (c0_2 : Nat) (l0_2 : List ByteArray) (r : ByteArray) (w : World) (hr0_2 : Kd.C Kd.string w A0_2 l0_2.length l0_2) (hc0_2 : l0_2.length ≤ c0_2) (h : spec_l16Bytes.f k a0_0 a0_1 l0_2 = some r) :
  Calls Tryd.prog 62 #[.agg #[.string a0_0, .string a0_1, .slice A0_2 l0_2.length c0_2]] w fun e w' => e = .returned (.string r) ∧ Below w.heap.size w w' := by
 have hu35 := Tryd.underlying35; have HR0_2 := zA hr0_2; have HC0_2 := zA hc0_2; clear hr0_2 hc0_2; have HB := zA (Below.refl w.heap.size w); have H : (if a0_0.size + a0_1.size ≤ 9223372036854775807 then ((spec_l1Row.f k l0_2).bind fun t10 => (if (a0_0 ++ a0_1).size + t10.size ≤ 9223372036854775807 then (some ((a0_0 ++ a0_1) ++ t10)) else (none))) else (none)) = some r := h; clear h
 by_cases c2 : a0_0.size + a0_1.size ≤ 9223372036854775807
 ·rw [if_pos c2] at H
  have c2b0 := eq_true c2; have c2b1 : decide (a0_0.size + a0_1.size ≤ 9223372036854775807) = true := zX c2
  try have c2b2 : (9223372036854775807 < a0_0.size + a0_1.size) = False := eq_false (Nat.not_lt.2 c2)
  replace H := zAF H; obtain ⟨t10, A30, H⟩ := H; replace H : (if (a0_0 ++ a0_1).size + t10.size ≤ 9223372036854775807 then (some ((a0_0 ++ a0_1) ++ t10)) else (none)) = some r := H; have A3 := zA A30; clear A30
  by_cases c4 : (a0_0 ++ a0_1).size + t10.size ≤ 9223372036854775807
  ·rw [if_pos c4] at H
   have c4b0 := eq_true c4; have c4b1 : decide ((a0_0 ++ a0_1).size + t10.size ≤ 9223372036854775807) = true := zX c4; (try (have c4b3 := (show (a0_0 ++ a0_1).size + t10.size ≤ 9223372036854775807 from c4); simp only [ByteArray.size_append, ByteArray.size_extract, Nat.min_self, Nat.sub_zero] at c4b3; have c4b4 := eq_true c4b3; have c4b5 : decide (_) = true := zX c4b3; have c4b6 := eq_false (Nat.not_lt.2 c4b3); clear c4b3))
   try have c4b2 : (9223372036854775807 < (a0_0 ++ a0_1).size + t10.size) = False := eq_false (Nat.not_lt.2 c4)
   obtain rfl := Option.some.inj H; go_enter Tryd.func62, Tryd.ntmps62
   try go_wp2_with (first | ((with_reducible refine gate_dst (N := 1) rfl ?_); refine box_event ?hg (N := 1) ?hd (cs := #[.string a0_0, .string a0_1, .slice A0_2 l0_2.length c0_2]) (t := 35) ?hr ?_; (case hd => rfl); (case hg => rfl); (case hr => first | (go_simp; done) | (go_simp; rfl)); intro gb11 hg w5 hbox hb; have n0_ := zA (zAD (by repeat (first | (with_reducible first | exact HB.out | apply zH | apply zF | apply zG) | exact HB.out)) hb); have n1_ := zA (hbox); have n2_ := zA ((by rw [hg]; exact (zAE (by repeat (first | (with_reducible first | exact HB.out | apply zH | apply zF | apply zG) | exact HB.out))) : w.heap.size ≤ gb11)); have n3_ := zA ((by rw [hg]; exact (zAE (by repeat (first | (with_reducible first | exact HB.out | apply zH | apply zF | apply zG) | exact HB.out))) : w.heap.size ≤ gb11)); clear HB; have HB := n0_; have BK11 := n1_; have GW11 := n2_; have GE11 := n3_; clear n0_ n1_ n2_ n3_; clear hb hbox hg))
   have n0_ := zA (zN BK11.out); have n1_ := zA (zG HB.out); clear BK11 HB; have BK11 := n0_; have HB := n1_; clear n0_ n1_; refine start_ (n := 10) (S := fun w' => w'.cell? ⟨gb11, 0, none⟩ = some (.string a0_0) ∧ w'.cell? ⟨gb11, 1, none⟩ = some (.string a0_1) ∧ w'.cell? ⟨gb11, 2, none⟩ = some (.slice A0_2 l0_2.length c0_2)) (ds := []) #[false, false, false, false, false, false, false, false, false, false] (by kernel_rfl) rfl rfl ⟨(zP BK11.out 0).trans rfl, (zP BK11.out 1).trans rfl, (zP BK11.out 2).trans rfl⟩ (fun hHeld => ?_); refine with_tabW spec_l16Bytes.tab1 spec_l16Bytes.bits1 (fun HT_ HW_ => ?_); generalize w5.drew = w6 at BK11 HB hHeld ⊢; refine pure_ (i := 0) (N := some 3) (v := ?_) (a' := ?_) #[true, false, false, false, false, false, false, false, false, false] rfl rfl (any_of HT_.out (by kernel_rfl)) (fun _ _ _ h => h) (Or.inl ⟨by rfl, ?_⟩) ?_ ?_; rotate_left
   ·intro w'
    go_simp
    with_reducible rfl
   rotate_left
   ·simp only [Act.put, zC, zD, zE, i64_w, i32_w]
    rfl
   refine pure_ (i := 2) (N := some 5) (v := ?_) (a' := ?_) #[true, false, true, false, false, false, false, false, false, false] rfl rfl (any_of HT_.out (by kernel_rfl)) (fun _ _ _ h => h) (Or.inl ⟨by rfl, ?_⟩) ?_ ?_; rotate_left
   ·intro w'
    go_simp
    with_reducible rfl
   rotate_left
   ·simp only [Act.put, zC, zD, zE, i64_w, i32_w]
    rfl
   refine pure_ (i := 5) (N := some 8) (v := ?_) (a' := ?_) #[true, false, true, false, false, true, false, false, false, false] rfl rfl (any_of HT_.out (by kernel_rfl)) (fun _ _ _ h => h) (Or.inl ⟨by rfl, ?_⟩) ?_ ?_; rotate_left
   ·intro w'
    go_simp
    with_reducible rfl
   rotate_left
   ·simp only [Act.put, zC, zD, zE, i64_w, i32_w]
    rfl
   refine take_ (i := 1) (N := some 4) (v := ?_) (a' := ?_) #[true, true, true, false, false, true, false, false, false, false] rfl rfl (take_ofW HT_.out HW_.out (by kernel_rfl)) (fun _ _ _ h => h) (Or.inl ⟨by rfl, ?_⟩) hHeld ?_ ?_; rotate_left
   ·rintro w' ⟨s0, s1, s2⟩
    go_simp
    with_reducible rfl
   rotate_left
   ·simp only [Act.put, zC, zD, zE, i64_w, i32_w]
    rfl
   refine take_ (i := 3) (N := some 6) (v := ?_) (a' := ?_) #[true, true, true, true, false, true, false, false, false, false] rfl rfl (take_ofW HT_.out HW_.out (by kernel_rfl)) (fun _ _ _ h => h) (Or.inl ⟨by rfl, ?_⟩) hHeld ?_ ?_; rotate_left
   ·rintro w' ⟨s0, s1, s2⟩
    go_simp
    with_reducible rfl
   rotate_left
   ·simp only [Act.put, zC, zD, zE, i64_w, i32_w]
    rfl
   refine pure_ (i := 4) (N := some 7) (v := ?_) (a' := ?_) #[true, true, true, true, true, true, false, false, false, false] rfl rfl (any_of HT_.out (by kernel_rfl)) (fun _ _ _ h => h) (Or.inl ⟨by rfl, ?_⟩) ?_ ?_; rotate_left
   ·intro w'
    go_simp
    with_reducible rfl
   rotate_left
   ·simp only [Act.put, zC, zD, zE, i64_w, i32_w]
    rfl
   refine take_ (i := 6) (N := some 9) (v := ?_) (a' := ?_) #[true, true, true, true, true, true, true, false, false, false] rfl rfl (take_ofW HT_.out HW_.out (by kernel_rfl)) (fun _ _ _ h => h) (Or.inl ⟨by rfl, ?_⟩) hHeld ?_ ?_; rotate_left
   ·rintro w' ⟨s0, s1, s2⟩
    go_simp
    with_reducible rfl
   rotate_left
   ·simp only [Act.put, zC, zD, zE, i64_w, i32_w]
    rfl
   refine one_ (i := 7) (N := some 10) #[true, true, true, true, true, true, true, true, false, false] rfl rfl (one_of HT_.out (by kernel_rfl)) (by decide) (fun K hK => ?_); refine goes_ Tryd.func84 (by kernel_rfl) rfl #[.slice A0_2 l0_2.length c0_2] (by rfl) rfl rfl (by (try simp only [zAA, zAB, zAC]); first | done | rfl | (simp only [zZ, zY]; rfl)) ?_
   with_reducible refine (spec_l1Row.calls k _ _ l0_2 t10 _ ?side1 ?side2 A3.out).mono ?_
   (case side1 => repeat (first | exact (Kd.C_below HR0_2.out HB.out) | (with_reducible refine zT ?_ _) | (with_reducible refine zU ?_ _) | (with_reducible refine zV ?_))); (case side2 => exact HC0_2.out); rintro e w7 ⟨rfl, hb⟩; refine ⟨_, rfl, ?_⟩; have n0_ := zA (yE (g := gb11) (o := .cells #[.string a0_0, .string a0_1, .slice A0_2 l0_2.length c0_2] 35 (0, 0)) (by (with_reducible repeat (first | refine zL ?_ _ | refine zN ?_ | refine zM ?_ _)); exact BK11.out) hb); have n1_ := zA (zAD (by repeat (first | (with_reducible first | exact HB.out | apply zH | apply zF | apply zG | refine zI ?_ GE11.out) | exact HB.out)) hb); clear BK11 HB; have BK11 := n0_; have HB := n1_; clear n0_ n1_; (try clear hb); refine hK.out _ _ ⟨(zP BK11.out 0).trans rfl, (zP BK11.out 1).trans rfl, (zP BK11.out 2).trans rfl⟩ (fun hHeld => ?_); clear hK K; refine norm_ (a' := ?_) ?_ ?_; rotate_left
   ·show Act.put _ (some 10) _ = _
    simp only [Act.put, zC, zD, zE, i64_w, i32_w]; rfl
   refine pure_ (i := 8) (N := some 11) (v := ?_) (a' := ?_) #[true, true, true, true, true, true, true, true, true, false] rfl rfl (any_of HT_.out (by kernel_rfl)) (fun _ _ _ h => h) (Or.inl ⟨by rfl, ?_⟩) ?_ ?_; rotate_left
   ·intro w'
    go_simp
    with_reducible rfl
   rotate_left
   ·simp only [Act.put, zC, zD, zE, i64_w, i32_w]
    rfl
   refine pure_ (i := 9) (N := some 2) (v := ?_) (a' := ?_) #[true, true, true, true, true, true, true, true, true, true] rfl rfl (any_of HT_.out (by kernel_rfl)) (fun _ _ _ h => h) (Or.inl ⟨by rfl, ?_⟩) ?_ ?_; rotate_left
   ·intro w'
    go_simp
    with_reducible rfl
   rotate_left
   ·simp only [Act.put, zC, zD, zE, i64_w, i32_w]
    rfl
   refine done_ (done_of HT_.out (by kernel_rfl)) ?_
   try go_wp2
   go_ret; exact ⟨by first | rfl | (simp <;> rfl) | (simp [*] <;> rfl), by repeat (first | (with_reducible first | exact HB.out | apply zH | apply zF | apply zG | refine zI ?_ GE11.out) | exact HB.out)⟩
  ·rw [if_neg c4] at H
   exact absurd H (by simp)
 ·rw [if_neg c2] at H
  exact absurd H (by simp)
def spec_l16Digest.f (k : Nat) (a0_0 : ByteArray) (a0_1 : ByteArray) (l0_2 : List ByteArray) : Option (ByteArray) := (spec_l16Bytes.f k a0_0 a0_1 l0_2).bind fun t10 => ((spec_l1Digest.f k 104 t10).bind fun t11 => (some t11))
theorem spec_l16Digest.calls (k : Nat) (a0_0 : ByteArray) (a0_1 : ByteArray) (A0_2 : Option Addr) (c0_2 : Nat) (l0_2 : List ByteArray) (r : ByteArray) (w : World) (hr0_2 : Kd.C Kd.string w A0_2 l0_2.length l0_2) (hc0_2 : l0_2.length ≤ c0_2) (h : spec_l16Digest.f k a0_0 a0_1 l0_2 = some r) :
  Calls Tryd.prog 40 #[.agg #[.string a0_0, .string a0_1, .slice A0_2 l0_2.length c0_2]] w fun e w' => e = .returned (.string r) ∧ Below w.heap.size w w' := by
 have hu35 := Tryd.underlying35; have HR0_2 := zA hr0_2; have HC0_2 := zA hc0_2; clear hr0_2 hc0_2; have HB := zA (Below.refl w.heap.size w); have H : ((spec_l16Bytes.f k a0_0 a0_1 l0_2).bind fun t10 => ((spec_l1Digest.f k 104 t10).bind fun t11 => (some t11))) = some r := h; clear h; replace H := zAF H; obtain ⟨t10, A20, H⟩ := H; replace H : ((spec_l1Digest.f k 104 t10).bind fun t11 => (some t11)) = some r := H; have A2 := zA A20; clear A20; replace H := zAF H; obtain ⟨t11, A30, H⟩ := H; replace H : (some t11) = some r := H; have A3 := zA A30; clear A30; obtain rfl := Option.some.inj H; go_enter Tryd.func40, Tryd.ntmps40; go_wp2_with (first | ((with_reducible refine gate_dst (N := 1) rfl ?_); refine box_event ?hg (N := 1) ?hd (cs := #[.string a0_0, .string a0_1, .slice A0_2 l0_2.length c0_2]) (t := 35) ?hr ?_; (case hd => rfl); (case hg => rfl); (case hr => first | (go_simp; done) | (go_simp; rfl)); intro gb12 hg w4 hbox hb; have n0_ := zA (zAD (by repeat (first | (with_reducible first | exact HB.out | apply zH | apply zF | apply zG) | exact HB.out)) hb); have n1_ := zA (hbox); have n2_ := zA ((by rw [hg]; exact (zAE (by repeat (first | (with_reducible first | exact HB.out | apply zH | apply zF | apply zG) | exact HB.out))) : w.heap.size ≤ gb12)); have n3_ := zA ((by rw [hg]; exact (zAE (by repeat (first | (with_reducible first | exact HB.out | apply zH | apply zF | apply zG) | exact HB.out))) : w.heap.size ≤ gb12)); clear HB; have HB := n0_; have BK12 := n1_; have GW12 := n2_; have GE12 := n3_; clear n0_ n1_ n2_ n3_; clear hb hbox hg; have hcz5_0 : w4.cell? ⟨gb12, 0, none⟩ = some (.string a0_0) := (zP BK12.out 0).trans rfl; have hcz5_1 : w4.cell? ⟨gb12, 1, none⟩ = some (.string a0_1) := (zP BK12.out 1).trans rfl; have hcz5_2 : w4.cell? ⟨gb12, 2, none⟩ = some (.slice A0_2 l0_2.length c0_2) := (zP BK12.out 2).trans rfl; have hfz5_0 := zO BK12.out 0; have hfz5_1 := zO BK12.out 1; have hfz5_2 := zO BK12.out 2) | ((with_reducible refine yB (f := 62) rfl ?_); refine goesL_ (some 4) rfl rfl Tryd.func62 (by kernel_rfl) rfl #[.agg #[.string a0_0, .string a0_1, .slice A0_2 l0_2.length c0_2]] rfl (by (try simp only [zAA, zAB, zAC]); first | done | rfl | (simp only [zZ, zY]; rfl)) ?_; (with_reducible refine (spec_l16Bytes.calls k a0_0 a0_1 _ _ l0_2 t10 _ ?side1 ?side2 A2.out).mono ?_); (case side1 => repeat (first | exact (Kd.C_below HR0_2.out HB.out) | (with_reducible refine zT ?_ _) | (with_reducible refine zU ?_ _) | (with_reducible refine zV ?_))); (case side2 => exact HC0_2.out); rintro e w6 ⟨rfl, hb⟩; refine ⟨_, rfl, ?_⟩; have n0_ := zA (yE (g := gb12) (o := .cells #[.string a0_0, .string a0_1, .slice A0_2 l0_2.length c0_2] 35 (0, 0)) (by (with_reducible repeat (first | refine zL ?_ _ | refine zN ?_ | refine zM ?_ _)); exact BK12.out) hb); have n1_ := zA (zAD (by repeat (first | (with_reducible first | exact HB.out | apply zH | apply zF | apply zG | refine zI ?_ GE12.out) | exact HB.out)) hb); clear BK12; clear HB; have BK12 := n0_; have HB := n1_; clear n0_ n1_; (try clear hb)) | ((with_reducible refine yB (f := 61) rfl ?_); refine goesL_ (some 5) rfl rfl Tryd.func61 (by kernel_rfl) rfl #[.int .u8 104, .string t10] rfl (by (try simp only [zAA, zAB, zAC]); first | done | rfl) ?_; (with_reducible refine (spec_l1Digest.calls k 104 t10 t11 _ A3.out).mono ?_); rintro e w7 ⟨rfl, hb⟩; refine ⟨_, rfl, ?_⟩; have n0_ := zA (yE (g := gb12) (o := .cells #[.string a0_0, .string a0_1, .slice A0_2 l0_2.length c0_2] 35 (0, 0)) (by (with_reducible repeat (first | refine zL ?_ _ | refine zN ?_ | refine zM ?_ _)); exact BK12.out) hb); have n1_ := zA (zAD (by repeat (first | (with_reducible first | exact HB.out | apply zH | apply zF | apply zG | refine zI ?_ GE12.out) | exact HB.out)) hb); clear BK12; clear HB; have BK12 := n0_; have HB := n1_; clear n0_ n1_; (try clear hb))); go_ret; exact ⟨by first | rfl | (simp <;> rfl) | (simp [*] <;> rfl), by repeat (first | (with_reducible first | exact HB.out | apply zH | apply zF | apply zG | refine zI ?_ GE12.out) | exact HB.out)⟩
def spec_SealedText.j0 : Nat → Int → Bool → ByteArray → ByteArray → List ByteArray → Option (ByteArray × Bool)
 | 0, _, _, _, _, _ => none
 | k + 1, x0, x13, x10, x11, x12 => if x13 = true then (some ((⟨#[]⟩ : ByteArray), false)) else ((spec_l1Num.f k x0).bind fun t14 => (if t14.size + 1 ≤ 9223372036854775807 then ((spec_l16Digest.f k x10 x11 x12).bind fun t15 => (if (t14 ++ (⟨#[58]⟩ : ByteArray)).size + t15.size ≤ 9223372036854775807 then (some ((t14 ++ (⟨#[58]⟩ : ByteArray)) ++ t15, true)) else (none))) else (none)))
def spec_SealedText.f (k : Nat) (a0 : Int) (a1_0 : ByteArray) (a1_1 : ByteArray) (l1_2 : List ByteArray) : Option (ByteArray × Bool) := (spec_l1In.f a0 0 12).bind fun t10 => (if t10 = true then ((spec_GoodBlock.f k a1_0 a1_1 l1_2).bind fun t11 => (spec_SealedText.j0 k a0 (!t11) a1_0 a1_1 l1_2)) else (spec_SealedText.j0 k a0 true a1_0 a1_1 l1_2))
def spec_SealedText.T3 : Bool × List (List Nat × List Nat) := (true, [([], []), ([0], [0]), ([1], [1]), ([], []), ([3, 1], [3]), ([2, 4], [2, 4]), ([5, 4, 0, 1, 2, 3, 4, 5], [5]), ([6, 0, 1, 2, 3, 4, 5, 6], [])])
def spec_SealedText.B3 : List Nat := [0, 1, 3, 0, 11, 31, 63, 127]
theorem spec_SealedText.tab3 : rtab .any (opsOf Tryd.f13 3) = spec_SealedText.T3 := by kernel_rfl
theorem spec_SealedText.bits3 : waitsOk spec_SealedText.T3.2 spec_SealedText.B3 = true := by kernel_rfl
theorem spec_SealedText.calls (k : Nat) (a0 : Int) (a1_0 : ByteArray) (a1_1 : ByteArray) (A1_2 : Option Addr) (c1_2 : Nat) (l1_2 : List ByteArray) (r1 : ByteArray) (r2 : Bool) (w : World) (hr1_2 : Kd.C Kd.string w A1_2 l1_2.length l1_2) (hc1_2 : l1_2.length ≤ c1_2) (h : spec_SealedText.f k a0 a1_0 a1_1 l1_2 = some (r1, r2)) :
  Calls Tryd.prog 13 #[.int .i64 a0, .agg #[.string a1_0, .string a1_1, .slice A1_2 l1_2.length c1_2]] w fun e w' => e = .returned (.tuple #[.string r1, .bool r2]) ∧ Below w.heap.size w w' := by
 have hu35 := Tryd.underlying35; have HR1_2 := zA hr1_2; have HC1_2 := zA hc1_2; clear hr1_2 hc1_2; have HB := zA (Below.refl w.heap.size w); have H : ((spec_l1In.f a0 0 12).bind fun t18 => (if t18 = true then ((spec_GoodBlock.f k a1_0 a1_1 l1_2).bind fun t19 => (spec_SealedText.j0 k a0 (!t19) a1_0 a1_1 l1_2)) else (spec_SealedText.j0 k a0 true a1_0 a1_1 l1_2))) = some (r1, r2) := h; clear h; have HC3 := zA H; clear H; go_enter Tryd.func13, Tryd.ntmps13; go_upto_region 1 with (first | ((with_reducible refine gate_dst (N := 3) rfl ?_); refine box_event ?hg (N := 3) ?hd (cs := #[.string a1_0, .string a1_1, .slice A1_2 l1_2.length c1_2]) (t := 35) ?hr ?_; (case hd => rfl); (case hg => rfl); (case hr => first | (go_simp; done) | (go_simp; rfl)); intro gb20 hg w4 hbox hb; have n0_ := zA (zAD (by repeat (first | (with_reducible first | exact HB.out | apply zH | apply zF | apply zG) | exact HB.out)) hb); have n1_ := zA (hbox); have n2_ := zA ((by rw [hg]; exact (zAE (by repeat (first | (with_reducible first | exact HB.out | apply zH | apply zF | apply zG) | exact HB.out))) : w.heap.size ≤ gb20)); have n3_ := zA ((by rw [hg]; exact (zAE (by repeat (first | (with_reducible first | exact HB.out | apply zH | apply zF | apply zG) | exact HB.out))) : w.heap.size ≤ gb20)); clear HB; have HB := n0_; have BK20 := n1_; have GW20 := n2_; have GE20 := n3_; clear n0_ n1_ n2_ n3_; clear hb hbox hg))
 (try simp only [Act.put, zC, zD, zE]); go_cut [13] (fun v13 wc => ∃ (kq : Nat) (x13_2 : Bool), v13 = .bool x13_2 ∧ Aside0 (spec_SealedText.j0 kq a0 x13_2 a1_0 a1_1 l1_2 = some (r1, r2)) ∧ Aside0 (kq ≤ k) ∧ Aside0 (wc.heap[gb20]? = some (.cells #[.string a1_0, .string a1_1, (.slice A1_2 l1_2.length c1_2)] 35 (0, 0))) ∧ Aside0 (Below w.heap.size w wc))
 case first =>
  have H := HC3.out; clear HC3; replace H := zAF H; obtain ⟨t18, A50, H⟩ := H; replace H : (if t18 = true then ((spec_GoodBlock.f k a1_0 a1_1 l1_2).bind fun t19 => (spec_SealedText.j0 k a0 (!t19) a1_0 a1_1 l1_2)) else (spec_SealedText.j0 k a0 true a1_0 a1_1 l1_2)) = some (r1, r2) := H; have A5 := zA A50; clear A50
  by_cases c6 : t18 = true
  ·subst c6
   have H1 : ((spec_GoodBlock.f k a1_0 a1_1 l1_2).bind fun t19 => (spec_SealedText.j0 k a0 (!t19) a1_0 a1_1 l1_2)) = some (r1, r2) := by rw [if_pos rfl] at H; exact H
   clear H; have H := H1; clear H1; replace H := zAF H; obtain ⟨t19, A70, H⟩ := H; replace H : (spec_SealedText.j0 k a0 (!t19) a1_0 a1_1 l1_2) = some (r1, r2) := H; have A7 := zA A70; clear A70; have H' := zA H; clear H; go_wp2_with (first | ((with_reducible refine yB (f := 37) rfl ?_); refine goesL_ (some 7) rfl rfl Tryd.func37 (by kernel_rfl) rfl #[.int .i64 a0, .int .i64 0, .int .i64 12] rfl (by (try simp only [zAA, zAB, zAC]); first | done | rfl) ?_; (with_reducible refine (spec_l1In.calls a0 0 12 true _ A5.out).mono ?_); rintro e w' ⟨rfl, ⟨nd, rfl⟩⟩; refine ⟨_, rfl, ?_⟩; have hcz8_0 : w4.cell? ⟨gb20, 0, none⟩ = some (.string a1_0) := (zP BK20.out 0).trans rfl; have hcz8_1 : w4.cell? ⟨gb20, 1, none⟩ = some (.string a1_1) := (zP BK20.out 1).trans rfl; have hcz8_2 : w4.cell? ⟨gb20, 2, none⟩ = some (.slice A1_2 l1_2.length c1_2) := (zP BK20.out 2).trans rfl; have hfz8_0 := zO BK20.out 0; have hfz8_1 := zO BK20.out 1; have hfz8_2 := zO BK20.out 2) | (go_at_call 38; (with_reducible refine (spec_GoodBlock.calls k a1_0 a1_1 _ _ l1_2 t19 _ ?side1 ?side2 A7.out).mono ?_); (case side1 => repeat (first | exact (Kd.C_below HR1_2.out (by repeat (first | (with_reducible first | exact HB.out | apply zH | apply zF | apply zG | refine zI ?_ GE20.out) | exact HB.out))) | (with_reducible refine zT ?_ _) | (with_reducible refine zU ?_ _) | (with_reducible refine zV ?_))); (case side2 => exact HC1_2.out); rintro e w9 ⟨rfl, hb⟩; have n0_ := zA (yE (g := gb20) (o := .cells #[.string a1_0, .string a1_1, .slice A1_2 l1_2.length c1_2] 35 (0, 0)) (by (with_reducible repeat (first | refine zL ?_ _ | refine zN ?_ | refine zM ?_ _)); exact BK20.out) hb); have n1_ := zA (zAD (by repeat (first | (with_reducible first | exact HB.out | apply zH | apply zF | apply zG | refine zI ?_ GE20.out) | exact HB.out)) hb); clear BK20; clear HB; have BK20 := n0_; have HB := n1_; clear n0_ n1_; (try clear hb))); go_meet
   case rel => exact ⟨_, (!t19), (by first | rfl | (simp; done) | (simp [*]; done) | (simp [bne]; done)), H', ⟨by first | omega | exact Nat.le_refl _⟩, ⟨by (with_reducible repeat (first | refine zL ?_ _ | refine zN ?_ | refine zM ?_ _)); exact BK20.out⟩, ⟨by repeat (first | (with_reducible first | exact HB.out | apply zH | apply zF | apply zG | refine zI ?_ GE20.out) | exact HB.out)⟩⟩
  ·replace c6 := Bool.eq_false_iff.mpr c6
   subst c6; have H1 : (spec_SealedText.j0 k a0 true a1_0 a1_1 l1_2) = some (r1, r2) := by rw [if_neg (show ¬ (false = true) by decide)] at H; exact H
   clear H; have H := H1; clear H1; have H' := zA H; clear H; go_wp2_with (first | ((with_reducible refine yB (f := 37) rfl ?_); refine goesL_ (some 7) rfl rfl Tryd.func37 (by kernel_rfl) rfl #[.int .i64 a0, .int .i64 0, .int .i64 12] rfl (by (try simp only [zAA, zAB, zAC]); first | done | rfl) ?_; (with_reducible refine (spec_l1In.calls a0 0 12 false _ A5.out).mono ?_); rintro e w' ⟨rfl, ⟨nd, rfl⟩⟩; refine ⟨_, rfl, ?_⟩)); go_meet
   case rel => exact ⟨_, (true), (by first | rfl | (simp; done) | (simp [*]; done) | (simp [bne]; done)), H', ⟨by first | omega | exact Nat.le_refl _⟩, ⟨by (with_reducible repeat (first | refine zL ?_ _ | refine zN ?_ | refine zM ?_ _)); exact BK20.out⟩, ⟨by repeat (first | (with_reducible first | exact HB.out | apply zH | apply zF | apply zG | refine zI ?_ GE20.out) | exact HB.out)⟩⟩
 case rest =>
  clear HC3
  try clear c1
  try clear p2
  try clear c3
  try clear c6
  try clear hcz8_0
  try clear hcz8_1
  try clear hcz8_2
  try clear hfz8_0
  try clear hfz8_1
  try clear hfz8_2
  obtain ⟨kq, x13_2, rfl, HA, HJ2, BK20, HB⟩ := hcut
  cases kq with
  | zero => exact absurd HA.out (by simp [spec_SealedText.j0])
  | succ kj2 =>
   have H := HA.out; clear HA; simp only [spec_SealedText.j0] at H
   by_cases c10 : x13_2 = true
   ·subst c10
    have H1 : (some ((⟨#[]⟩ : ByteArray), false)) = some (r1, r2) := by rw [if_pos rfl] at H; exact H
    clear H; have H := H1; clear H1; simp only [Option.some.injEq, Prod.mk.injEq] at H; obtain ⟨rfl, rfl⟩ := H; go_wp2; go_ret2; exact ⟨by first | rfl | (simp <;> rfl) | (simp [*] <;> rfl), by repeat (first | (with_reducible first | exact HB.out | apply zH | apply zF | apply zG | refine zI ?_ GE20.out) | exact HB.out)⟩
   ·replace c10 := Bool.eq_false_iff.mpr c10
    subst c10; have H1 : ((spec_l1Num.f kj2 a0).bind fun t21 => (if t21.size + 1 ≤ 9223372036854775807 then ((spec_l16Digest.f kj2 a1_0 a1_1 l1_2).bind fun t22 => (if (t21 ++ (⟨#[58]⟩ : ByteArray)).size + t22.size ≤ 9223372036854775807 then (some ((t21 ++ (⟨#[58]⟩ : ByteArray)) ++ t22, true)) else (none))) else (none))) = some (r1, r2) := by rw [if_neg (show ¬ (false = true) by decide)] at H; exact H
    clear H; have H := H1; clear H1; replace H := zAF H; obtain ⟨t21, A23, H⟩ := H; replace H : (if t21.size + 1 ≤ 9223372036854775807 then ((spec_l16Digest.f kj2 a1_0 a1_1 l1_2).bind fun t22 => (if (t21 ++ (⟨#[58]⟩ : ByteArray)).size + t22.size ≤ 9223372036854775807 then (some ((t21 ++ (⟨#[58]⟩ : ByteArray)) ++ t22, true)) else (none))) else (none)) = some (r1, r2) := H; have A11 := zA A23; clear A23
    by_cases c12 : t21.size + 1 ≤ 9223372036854775807
    ·rw [if_pos c12] at H
     have c12b0 := eq_true c12; have c12b1 : decide (t21.size + 1 ≤ 9223372036854775807) = true := zX c12
     try have c12b2 : (9223372036854775807 < t21.size + 1) = False := eq_false (Nat.not_lt.2 c12)
     replace H := zAF H; obtain ⟨t22, A24, H⟩ := H; replace H : (if (t21 ++ (⟨#[58]⟩ : ByteArray)).size + t22.size ≤ 9223372036854775807 then (some ((t21 ++ (⟨#[58]⟩ : ByteArray)) ++ t22, true)) else (none)) = some (r1, r2) := H; have A13 := zA A24; clear A24
     by_cases c14 : (t21 ++ (⟨#[58]⟩ : ByteArray)).size + t22.size ≤ 9223372036854775807
     ·rw [if_pos c14] at H
      have c14b0 := eq_true c14; have c14b1 : decide ((t21 ++ (⟨#[58]⟩ : ByteArray)).size + t22.size ≤ 9223372036854775807) = true := zX c14; (try (have c14b3 := (show (t21 ++ (⟨#[58]⟩ : ByteArray)).size + t22.size ≤ 9223372036854775807 from c14); simp only [ByteArray.size_append, ByteArray.size_extract, Nat.min_self, Nat.sub_zero, show (⟨#[58]⟩ : ByteArray).size = 1 from rfl] at c14b3; have c14b4 := eq_true c14b3; have c14b5 : decide (_) = true := zX c14b3; have c14b6 := eq_false (Nat.not_lt.2 c14b3); clear c14b3))
      try have c14b2 : (9223372036854775807 < (t21 ++ (⟨#[58]⟩ : ByteArray)).size + t22.size) = False := eq_false (Nat.not_lt.2 c14)
      simp only [Option.some.injEq, Prod.mk.injEq] at H; obtain ⟨rfl, rfl⟩ := H
      try go_wp2
      have n0_ := zA (zN BK20.out); have n1_ := zA (zG HB.out); clear BK20 HB; have BK20 := n0_; have HB := n1_; clear n0_ n1_; refine start_ (n := 8) (S := fun w' => w'.cell? ⟨gb20, 0, none⟩ = some (.string a1_0) ∧ w'.cell? ⟨gb20, 1, none⟩ = some (.string a1_1) ∧ w'.cell? ⟨gb20, 2, none⟩ = some (.slice A1_2 l1_2.length c1_2)) (ds := []) #[false, false, false, false, false, false, false, false] (by kernel_rfl) rfl rfl ⟨(zP BK20.out 0).trans rfl, (zP BK20.out 1).trans rfl, (zP BK20.out 2).trans rfl⟩ (fun hHeld => ?_); refine with_tabW spec_SealedText.tab3 spec_SealedText.bits3 (fun HT_ HW_ => ?_); generalize wc.drew = w15 at BK20 HB hHeld ⊢; refine pure_ (i := 0) (N := some 14) (v := ?_) (a' := ?_) #[true, false, false, false, false, false, false, false] rfl rfl (any_of HT_.out (by kernel_rfl)) (fun _ _ _ h => h) (Or.inl ⟨by rfl, ?_⟩) ?_ ?_; rotate_left
      ·intro w'
       go_simp
       with_reducible rfl
      rotate_left
      ·simp only [Act.put, zC, zD, zE, i64_w, i32_w]
       rfl
      refine take_ (i := 3) (N := some 17) (v := ?_) (a' := ?_) #[true, false, false, true, false, false, false, false] rfl rfl (take_ofW HT_.out HW_.out (by kernel_rfl)) (fun _ _ _ h => h) (Or.inl ⟨by rfl, ?_⟩) hHeld ?_ ?_; rotate_left
      ·rintro w' ⟨s0, s1, s2⟩
       go_simp
       with_reducible rfl
      rotate_left
      ·simp only [Act.put, zC, zD, zE, i64_w, i32_w]
       rfl
      refine one_ (i := 1) (N := some 15) #[true, true, false, true, false, false, false, false] rfl rfl (one_of HT_.out (by kernel_rfl)) (by decide) (fun K hK => ?_); refine goes_ Tryd.func39 (by kernel_rfl) rfl #[.int .i64 a0] (by rfl) rfl rfl (by (try simp only [zAA, zAB, zAC]); first | done | rfl) ?_
      with_reducible refine (spec_l1Num.calls kj2 a0 t21 _ A11.out).mono ?_
      rintro e w16 ⟨rfl, hb⟩; refine ⟨_, rfl, ?_⟩; have n0_ := zA (yE (g := gb20) (o := .cells #[.string a1_0, .string a1_1, .slice A1_2 l1_2.length c1_2] 35 (0, 0)) (by (with_reducible repeat (first | refine zL ?_ _ | refine zN ?_ | refine zM ?_ _)); exact BK20.out) hb); have n1_ := zA (zAD (by repeat (first | (with_reducible first | exact HB.out | apply zH | apply zF | apply zG | refine zI ?_ GE20.out) | exact HB.out)) hb); clear BK20 HB; have BK20 := n0_; have HB := n1_; clear n0_ n1_; (try clear hb); refine hK.out _ _ ⟨(zP BK20.out 0).trans rfl, (zP BK20.out 1).trans rfl, (zP BK20.out 2).trans rfl⟩ (fun hHeld => ?_); clear hK K; refine norm_ (a' := ?_) ?_ ?_; rotate_left
      ·show Act.put _ (some 15) _ = _
       simp only [Act.put, zC, zD, zE, i64_w, i32_w]; rfl
      refine pure_ (i := 2) (N := some 16) (v := ?_) (a' := ?_) #[true, true, true, true, false, false, false, false] rfl rfl (any_of HT_.out (by kernel_rfl)) (fun _ _ _ h => h) (Or.inl ⟨by rfl, ?_⟩) ?_ ?_; rotate_left
      ·intro w'
       go_simp
       with_reducible rfl
      rotate_left
      ·simp only [Act.put, zC, zD, zE, i64_w, i32_w]
       rfl
      refine one_ (i := 4) (N := some 18) #[true, true, true, true, true, false, false, false] rfl rfl (one_of HT_.out (by kernel_rfl)) (by decide) (fun K hK => ?_); refine goes_ Tryd.func40 (by kernel_rfl) rfl #[.agg #[.string a1_0, .string a1_1, .slice A1_2 l1_2.length c1_2]] (by rfl) rfl rfl (by (try simp only [zAA, zAB, zAC]); first | done | rfl | (simp only [zZ, zY]; rfl)) ?_
      with_reducible refine (spec_l16Digest.calls kj2 a1_0 a1_1 _ _ l1_2 t22 _ ?side1 ?side2 A13.out).mono ?_
      (case side1 => repeat (first | exact (Kd.C_below HR1_2.out HB.out) | (with_reducible refine zT ?_ _) | (with_reducible refine zU ?_ _) | (with_reducible refine zV ?_))); (case side2 => exact HC1_2.out); rintro e w17 ⟨rfl, hb⟩; refine ⟨_, rfl, ?_⟩; have n0_ := zA (yE (g := gb20) (o := .cells #[.string a1_0, .string a1_1, .slice A1_2 l1_2.length c1_2] 35 (0, 0)) (by (with_reducible repeat (first | refine zL ?_ _ | refine zN ?_ | refine zM ?_ _)); exact BK20.out) hb); have n1_ := zA (zAD (by repeat (first | (with_reducible first | exact HB.out | apply zH | apply zF | apply zG | refine zI ?_ GE20.out) | exact HB.out)) hb); clear BK20 HB; have BK20 := n0_; have HB := n1_; clear n0_ n1_; (try clear hb); refine hK.out _ _ ⟨(zP BK20.out 0).trans rfl, (zP BK20.out 1).trans rfl, (zP BK20.out 2).trans rfl⟩ (fun hHeld => ?_); clear hK K; refine norm_ (a' := ?_) ?_ ?_; rotate_left
      ·show Act.put _ (some 18) _ = _
       simp only [Act.put, zC, zD, zE, i64_w, i32_w]; rfl
      refine pure_ (i := 5) (N := some 19) (v := ?_) (a' := ?_) #[true, true, true, true, true, true, false, false] rfl rfl (any_of HT_.out (by kernel_rfl)) (fun _ _ _ h => h) (Or.inl ⟨by rfl, ?_⟩) ?_ ?_; rotate_left
      ·intro w'
       go_simp
       with_reducible rfl
      rotate_left
      ·simp only [Act.put, zC, zD, zE, i64_w, i32_w]
       rfl
      refine pure_ (i := 6) (N := some 4) (v := ?_) (a' := ?_) #[true, true, true, true, true, true, true, false] rfl rfl (any_of HT_.out (by kernel_rfl)) (fun _ _ _ h => h) (Or.inl ⟨by rfl, ?_⟩) ?_ ?_; rotate_left
      ·intro w'
       go_simp
       with_reducible rfl
      rotate_left
      ·simp only [Act.put, zC, zD, zE, i64_w, i32_w]
       rfl
      refine pure_ (i := 7) (N := some 5) (v := ?_) (a' := ?_) #[true, true, true, true, true, true, true, true] rfl rfl (any_of HT_.out (by kernel_rfl)) (fun _ _ _ h => h) (Or.inl ⟨by rfl, ?_⟩) ?_ ?_; rotate_left
      ·intro w'
       go_simp
       with_reducible rfl
      rotate_left
      ·simp only [Act.put, zC, zD, zE, i64_w, i32_w]
       rfl
      refine done_ (done_of HT_.out (by kernel_rfl)) ?_
      try go_wp2
      go_ret2; exact ⟨by first | rfl | (simp <;> rfl) | (simp [*] <;> rfl), by repeat (first | (with_reducible first | exact HB.out | apply zH | apply zF | apply zG | refine zI ?_ GE20.out) | exact HB.out)⟩
     ·rw [if_neg c14] at H
      exact absurd H (by simp)
    ·rw [if_neg c12] at H
     exact absurd H (by simp)
def laws_toStringS.l0 : Nat → List ByteArray → List ByteArray → Int → Option (List ByteArray)
 | 0, _, _, _ => none
 | k + 1, x0, x3, x4 => if x4 < (x0.length : Int) then (if 0 ≤ x4 then (if x4 < (x3.length : Int) then (laws_toStringS.l0 k x0 (x3.set (x4 : Int).toNat (rdOf ByteArray.empty x0 x4)) (wrap64 (x4 + 1))) else (none)) else (none)) else (some x3)
def laws_toStringS.f (k : Nat) (l0 : List ByteArray) : Option (List ByteArray) := if 0 ≤ (l0.length : Int) then (if ((l0.length : Int) : Int).toNat ≤ 17592186044416 then (laws_toStringS.l0 k l0 (List.replicate ((l0.length : Int) : Int).toNat (⟨#[]⟩ : ByteArray)) 0) else (none)) else (none)
theorem laws_toStringS.calls (k : Nat) (A0 : Option Addr) (c0 : Nat) (l0 : List ByteArray) (r : List ByteArray) (w : World) (hr0 : Kd.C Kd.string w A0 l0.length l0) (hc0 : l0.length ≤ c0) (h : laws_toStringS.f k l0 = some r) :
  Calls Tryd.prog 41 #[.slice A0 l0.length c0] w fun e w' => ∃ v0_ : Value, e = .returned (v0_) ∧ Kd.R Kd.string 9 w' w.heap.size (fun _ => True) v0_ r ∧ Below w.heap.size w w' := by
 have HR0 := zA hr0; have HC0 := zA hc0; clear hr0 hc0; have HB := zA (Below.refl w.heap.size w); have H : (if 0 ≤ (l0.length : Int) then (if ((l0.length : Int) : Int).toNat ≤ 17592186044416 then (laws_toStringS.l0 k l0 (List.replicate ((l0.length : Int) : Int).toNat (⟨#[]⟩ : ByteArray)) 0) else (none)) else (none)) = some r := h; clear h
 by_cases c2 : 0 ≤ (l0.length : Int)
 ·rw [if_pos c2] at H
  have c2b0 := eq_true c2; have c2b1 : decide (0 ≤ (l0.length : Int)) = true := zX c2; clear c2
  by_cases c3 : ((l0.length : Int) : Int).toNat ≤ 17592186044416
  ·rw [if_pos c3] at H
   have c3b0 := eq_true c3; have c3b1 : decide (((l0.length : Int) : Int).toNat ≤ 17592186044416) = true := zX c3; clear c3; obtain ⟨y12, hy12⟩ : ∃ y_ : List ByteArray, y_ = (List.replicate ((l0.length : Int) : Int).toNat (⟨#[]⟩ : ByteArray)) := ⟨_, rfl⟩; replace H : (laws_toStringS.l0 k l0 y12 0) = some r := by first | (rw [hy12]; with_reducible exact H) | (have H2_ := (Option.bind_some _ _).symm.trans H; rw [hy12]; with_reducible exact H2_) | (have H2_ := (Option.bind_some _ _).symm.trans H; with_reducible exact H2_) | with_reducible exact H | (rw [hy12]; exact H) | exact H
   have Ny12 := zA hy12; clear hy12; have H' := zA H; clear H; go_enter Tryd.func41, Tryd.ntmps41; go_wp2_with (first | ((with_reducible refine gate_dst (N := 7) rfl ?_); refine Kd.R_make Kd.string _ 9 rfl (N := 7) rfl 30 _ _ rfl (l0.length : Int) rfl rfl Tryd.underlying30 (.string ⟨#[]⟩) 16 info9 rfl (by decide) (by omega) (⟨#[]⟩ : ByteArray) (ok := fun _ => True) (okp := fun _ => True) rfl (fun _ hk => hk) trivial (zW (by first | (with_reducible assumption) | assumption)) (Nat.le_trans (Nat.mul_le_mul_right _ (zW (by first | (with_reducible assumption) | assumption) : (l0.length : Int).toNat ≤ 17592186044416)) (by omega)) (Below.refl _ _) (Nat.le_refl _) ?_; intro v13 w4 ho5 hb hg_ hnew_; clear hg_ hnew_; (first | rw [← Ny12.out] at ho5 | (simp only [Int.reduceToNat] at ho5; rw [← Ny12.out] at ho5)); have n0_ := zA (Kd.R_lower ho5 (zAE (by repeat (first | (with_reducible first | exact HB.out | apply zH | apply zF | apply zG) | exact HB.out)))); have n1_ := zA (zAD (by repeat (first | (with_reducible first | exact HB.out | apply zH | apply zF | apply zG) | exact HB.out)) hb); clear HB; have HO14 := n0_; have HB := n1_; clear n0_ n1_; clear hb ho5)); go_loopg [4] k (fun kq v4 w' => ∃ (x3_1 : List ByteArray) (x4_1 : Int), v4 = .int .i64 x4_1 ∧ Aside0 (laws_toStringS.l0 kq l0 x3_1 x4_1 = some r) ∧ Aside0 (kq ≤ k) ∧ Aside0 (Kd.R Kd.string 9 w' w.heap.size (fun _ => True) v13 x3_1) ∧ Aside0 (Below w.heap.size w w'))
   case atStart => exact ⟨(y12), (0), (by first | rfl | (simp; done) | (simp [*]; done) | (simp [bne]; done)), H', ⟨Nat.le_refl _⟩, ⟨by (with_reducible repeat (first | apply zQ | apply zR | apply zS)); exact HO14.out⟩, ⟨by repeat (first | (with_reducible first | exact HB.out | apply zH | apply zF | apply zG) | exact HB.out)⟩⟩
   case round =>
    clear H'
    try clear c2
    try clear c2b0
    try clear c2b1
    try clear p2
    try clear c3
    try clear c3b0
    try clear c3b1
    try clear c4
    obtain ⟨x3_1, x4_1, rfl, HA, HK1, HO_3, HB⟩ := hrel
    cases gk with
    | zero => exact absurd HA.out (by simp [laws_toStringS.l0])
    | succ k1 =>
     have H := HA.out; clear HA; simp only [laws_toStringS.l0] at H
     by_cases c6 : x4_1 < (l0.length : Int)
     ·rw [if_pos c6] at H
      have c6b0 : decide (x4_1 < (l0.length : Int)) = true := zX c6; clear c6
      by_cases c7 : 0 ≤ x4_1
      ·rw [if_pos c7] at H
       have c7b0 : decide (0 ≤ x4_1) = true := zX c7; clear c7
       by_cases c8 : x4_1 < (x3_1.length : Int)
       ·rw [if_pos c8] at H
        have c8b0 : decide (x4_1 < (x3_1.length : Int)) = true := zX c8; clear c8; obtain ⟨y15, hy15⟩ : ∃ y_ : List ByteArray, y_ = (x3_1.set (x4_1 : Int).toNat (rdOf ByteArray.empty l0 x4_1)) := ⟨_, rfl⟩; replace H : (laws_toStringS.l0 k1 l0 y15 (wrap64 (x4_1 + 1))) = some r := by first | (rw [hy15]; with_reducible exact H) | (have H2_ := (Option.bind_some _ _).symm.trans H; rw [hy15]; with_reducible exact H2_) | (have H2_ := (Option.bind_some _ _).symm.trans H; with_reducible exact H2_) | with_reducible exact H | (rw [hy15]; exact H) | exact H
        have Ny15 := zA hy15; clear hy15; have H' := zA H; clear H; have p16 : 0 ≤ (x4_1 : Int) := zW (by first | (with_reducible assumption) | assumption); have q16 : x4_1 < (l0.length : Int) := zW (by first | (with_reducible assumption) | assumption); obtain ⟨ad16, e16, hx16_0⟩ := Kd.at_string HR0.out x4_1 p16 q16
        cases e16
        replace hx16_0 := (HB.out.cell (zB w _ hx16_0)).trans hx16_0; replace p16 := eq_true p16; replace q16 := eq_true q16; have p9 : 0 ≤ (x4_1 : Int) := zW (by first | (with_reducible assumption) | assumption); have q9 : (x4_1 : Int) < ((x3_1.length : Int) : Int) := zW (by first | (with_reducible assumption) | assumption); obtain ⟨go9, co9, eo9, gb9, gl9, cl9, HG9⟩ := Kd.R_form HO_3.out (by omega); (first | cases eo9 | (injection eo9 with ea_ en_ ec_; (first | subst ea_ | (injection ea_ with ea_; subst ea_)); subst ec_; clear en_)); have GB9 := zA gb9; have GG9 := zA HG9; clear gb9 gl9 HG9; obtain ⟨hx9_0, hf9_0⟩ := Kd.R_celln (⟨#[]⟩ : ByteArray) HO_3.out (x4_1 : Int) p9 q9; replace p9 := eq_true p9; replace q9 := eq_true q9; have HP10 := Kd.R_putg HO_3.out (x4_1 : Int) (rdOf ByteArray.empty l0 x4_1); go_wp2_with (first | ((with_reducible refine gate_store (t := 9) (p := 20) rfl ?_); refine store_event (t := 9) (p := 20) (v := ?vo_w11) (w1 := (wr.setCell ⟨go9, (x4_1 : Int).toNat, none⟩ (.string (rdOf ByteArray.empty l0 x4_1)))) ?hg ?ho ?hn ?hr ?_; (case ho => rfl); (case hg => rfl); (case hn => rfl); (case hr => first | (go_simp; done) | (go_simp; rfl)); intro w11 hw; have hg : wr.grownBy w11 (some go9) := (by rw [hw]; exact HP10.2); have hp_ : Kd.R Kd.string 9 w11 w.heap.size (fun _ => True) (.slice (some ⟨go9, 0, none⟩) x3_1.length co9) y15 := (by rw [hw, Ny15.out]; exact HP10.1); clear HP10; have n0_ := zA (hp_); have n1_ := zA ((by rw [hw]; exact zI (HB.out) GB9.out : Below w.heap.size w w11)); clear HO_3; clear HB; have HO_3 := n0_; have HB := n1_; clear n0_ n1_; clear hg hw hp_)); go_roundg k1
        case measure => have := HK1.out; omega
        case rel => exact ⟨(y15), (wrap64 (x4_1 + 1)), (by first | rfl | (simp; done) | (simp [*]; done) | (simp [bne]; done)), H', ⟨by have := HK1.out; omega⟩, ⟨by (with_reducible repeat (first | apply zQ | apply zR | apply zS)); exact HO_3.out⟩, ⟨by repeat (first | (with_reducible first | exact HB.out | apply zH | apply zF | apply zG) | exact HB.out)⟩⟩
       ·rw [if_neg c8] at H
        exact absurd H (by simp)
      ·rw [if_neg c7] at H
       exact absurd H (by simp)
     ·rw [if_neg c6] at H
      have c6b0 : decide (x4_1 < (l0.length : Int)) = false := decide_eq_false c6; clear c6; obtain rfl := Option.some.inj H; go_wp2; go_ret; exact ⟨_, by first | rfl | (simp <;> rfl) | (simp [*] <;> rfl), by (with_reducible repeat (first | apply zQ | apply zR | apply zS)); exact HO_3.out, by repeat (first | (with_reducible first | exact HB.out | apply zH | apply zF | apply zG) | exact HB.out)⟩
  ·rw [if_neg c3] at H
   exact absurd H (by simp)
 ·rw [if_neg c2] at H
  exact absurd H (by simp)
def laws_toBlock.f (k : Nat) (a0_0 : ByteArray) (a0_1 : ByteArray) (l0_2 : List ByteArray) : Option (ByteArray × ByteArray × List ByteArray) := (laws_toStringS.f k l0_2).bind fun t10 => (some (a0_0, a0_1, t10))
theorem laws_toBlock.calls (k : Nat) (a0_0 : ByteArray) (a0_1 : ByteArray) (A0_2 : Option Addr) (c0_2 : Nat) (l0_2 : List ByteArray) (r1 : ByteArray) (r2 : ByteArray) (r3 : List ByteArray) (w : World) (hr0_2 : Kd.C Kd.string w A0_2 l0_2.length l0_2) (hc0_2 : l0_2.length ≤ c0_2) (h : laws_toBlock.f k a0_0 a0_1 l0_2 = some (r1, r2, r3)) :
  Calls Tryd.prog 14 #[.agg #[.string a0_0, .string a0_1, .slice A0_2 l0_2.length c0_2]] w fun e w' => ∃ v2_ : Value, e = .returned (.agg #[.string r1, .string r2, v2_]) ∧ Kd.R Kd.string 9 w' w.heap.size (fun _ => True) v2_ r3 ∧ Below w.heap.size w w' := by
 have hu32 := Tryd.underlying32; have hu35 := Tryd.underlying35; have HR0_2 := zA hr0_2; have HC0_2 := zA hc0_2; clear hr0_2 hc0_2; have HB := zA (Below.refl w.heap.size w); have H : ((laws_toStringS.f k l0_2).bind fun t15 => (some (a0_0, a0_1, t15))) = some (r1, r2, r3) := h; clear h; replace H := zAF H; obtain ⟨t15, A20, H⟩ := H; replace H : (some (a0_0, a0_1, t15)) = some (r1, r2, r3) := H; have A2 := zA A20; clear A20; simp only [Option.some.injEq, Prod.mk.injEq] at H; obtain ⟨rfl, rfl, rfl⟩ := H; go_enter Tryd.func14, Tryd.ntmps14; go_wp2_with (first | ((with_reducible refine gate_dst (N := 1) rfl ?_); refine box_event ?hg (N := 1) ?hd (cs := #[.string a0_0, .string a0_1, .slice A0_2 l0_2.length c0_2]) (t := 32) ?hr ?_; (case hd => rfl); (case hg => rfl); (case hr => first | (go_simp; done) | (go_simp; rfl)); intro gb16 hg w3 hbox hb; have n0_ := zA (zAD (by repeat (first | (with_reducible first | exact HB.out | apply zH | apply zF | apply zG) | exact HB.out)) hb); have n1_ := zA (hbox); have n2_ := zA ((by rw [hg]; exact (zAE (by repeat (first | (with_reducible first | exact HB.out | apply zH | apply zF | apply zG) | exact HB.out))) : w.heap.size ≤ gb16)); have n3_ := zA ((by rw [hg]; exact (zAE (by repeat (first | (with_reducible first | exact HB.out | apply zH | apply zF | apply zG) | exact HB.out))) : w.heap.size ≤ gb16)); clear HB; have HB := n0_; have BK16 := n1_; have GW16 := n2_; have GE16 := n3_; clear n0_ n1_ n2_ n3_; clear hb hbox hg) | ((with_reducible refine gate_dst (N := 2) rfl ?_); refine box_event ?hg (N := 2) ?hd (cs := #[.string (⟨#[]⟩ : ByteArray), .string (⟨#[]⟩ : ByteArray), .slice none 0 0]) (t := 35) ?hr ?_; (case hd => rfl); (case hg => rfl); (case hr => first | (go_simp; done) | (go_simp; rfl)); intro gb17 hg w4 hbox hb; have n0_ := zA (yE (g := gb16) (o := .cells #[.string a0_0, .string a0_1, .slice A0_2 l0_2.length c0_2] 32 (0, 0)) (by (with_reducible repeat (first | refine zL ?_ _ | refine zN ?_ | refine zM ?_ _)); exact BK16.out) hb); have n1_ := zA (zAD (by repeat (first | (with_reducible first | exact HB.out | apply zH | apply zF | apply zG | refine zI ?_ GE16.out) | exact HB.out)) hb); have n2_ := zA (hbox); have n3_ := zA ((by rw [hg]; exact (zAE (by repeat (first | (with_reducible first | exact HB.out | apply zH | apply zF | apply zG | refine zI ?_ GE16.out) | exact HB.out))) : w.heap.size ≤ gb17)); have n4_ := zA ((by rw [hg]; exact (zAE (by repeat (first | (with_reducible first | exact HB.out | apply zH | apply zF | apply zG | refine zI ?_ GE16.out) | exact HB.out))) : w.heap.size ≤ gb17)); have n5_ := zA ((by rw [hg]; exact zK (blk_lt (g := gb16) (o := .cells #[.string a0_0, .string a0_1, .slice A0_2 l0_2.length c0_2] 32 (0, 0)) (by (with_reducible repeat (first | refine zL ?_ _ | refine zN ?_ | refine zM ?_ _)); exact BK16.out)) : gb16 ≠ gb17)); have n6_ := zA ((by rw [hg]; exact Nat.ne_of_gt (blk_lt (g := gb16) (o := .cells #[.string a0_0, .string a0_1, .slice A0_2 l0_2.length c0_2] 32 (0, 0)) (by (with_reducible repeat (first | refine zL ?_ _ | refine zN ?_ | refine zM ?_ _)); exact BK16.out)) : gb17 ≠ gb16)); clear BK16; clear HB; have BK16 := n0_; have HB := n1_; have BK17 := n2_; have GW17 := n3_; have GE17 := n4_; have NB16_17 := n5_; have NB17_16 := n6_; clear n0_ n1_ n2_ n3_ n4_ n5_ n6_; clear hb hbox hg) | ((with_reducible refine gate_dst (N := 3) rfl ?_); refine box_event ?hg (N := 3) ?hd (cs := #[.string (⟨#[]⟩ : ByteArray), .string (⟨#[]⟩ : ByteArray), .slice none 0 0]) (t := 35) ?hr ?_; (case hd => rfl); (case hg => rfl); (case hr => first | (go_simp; done) | (go_simp; rfl)); intro gb18 hg w5 hbox hb; have n0_ := zA (yE (g := gb16) (o := .cells #[.string a0_0, .string a0_1, .slice A0_2 l0_2.length c0_2] 32 (0, 0)) (by (with_reducible repeat (first | refine zL ?_ _ | refine zN ?_ | refine zM ?_ _)); exact BK16.out) hb); have n1_ := zA (yE (g := gb17) (o := .cells #[.string (⟨#[]⟩ : ByteArray), .string (⟨#[]⟩ : ByteArray), .slice none 0 0] 35 (0, 0)) (by (with_reducible repeat (first | refine zL ?_ _ | refine zN ?_ | refine zM ?_ _)); exact BK17.out) hb); have n2_ := zA (zAD (by repeat (first | (with_reducible first | exact HB.out | apply zH | apply zF | apply zG | refine zI ?_ GE16.out | refine zI ?_ GE17.out) | exact HB.out)) hb); have n3_ := zA (hbox); have n4_ := zA ((by rw [hg]; exact (zAE (by repeat (first | (with_reducible first | exact HB.out | apply zH | apply zF | apply zG | refine zI ?_ GE16.out | refine zI ?_ GE17.out) | exact HB.out))) : w.heap.size ≤ gb18)); have n5_ := zA ((by rw [hg]; exact (zAE (by repeat (first | (with_reducible first | exact HB.out | apply zH | apply zF | apply zG | refine zI ?_ GE16.out | refine zI ?_ GE17.out) | exact HB.out))) : w.heap.size ≤ gb18)); have n6_ := zA ((by rw [hg]; exact zK (blk_lt (g := gb16) (o := .cells #[.string a0_0, .string a0_1, .slice A0_2 l0_2.length c0_2] 32 (0, 0)) (by (with_reducible repeat (first | refine zL ?_ _ | refine zN ?_ | refine zM ?_ _)); exact BK16.out)) : gb16 ≠ gb18)); have n7_ := zA ((by rw [hg]; exact Nat.ne_of_gt (blk_lt (g := gb16) (o := .cells #[.string a0_0, .string a0_1, .slice A0_2 l0_2.length c0_2] 32 (0, 0)) (by (with_reducible repeat (first | refine zL ?_ _ | refine zN ?_ | refine zM ?_ _)); exact BK16.out)) : gb18 ≠ gb16)); have n8_ := zA ((by rw [hg]; exact zK (blk_lt (g := gb17) (o := .cells #[.string (⟨#[]⟩ : ByteArray), .string (⟨#[]⟩ : ByteArray), .slice none 0 0] 35 (0, 0)) (by (with_reducible repeat (first | refine zL ?_ _ | refine zN ?_ | refine zM ?_ _)); exact BK17.out)) : gb17 ≠ gb18)); have n9_ := zA ((by rw [hg]; exact Nat.ne_of_gt (blk_lt (g := gb17) (o := .cells #[.string (⟨#[]⟩ : ByteArray), .string (⟨#[]⟩ : ByteArray), .slice none 0 0] 35 (0, 0)) (by (with_reducible repeat (first | refine zL ?_ _ | refine zN ?_ | refine zM ?_ _)); exact BK17.out)) : gb18 ≠ gb17)); clear BK16; clear BK17; clear HB; have BK16 := n0_; have BK17 := n1_; have HB := n2_; have BK18 := n3_; have GW18 := n4_; have GE18 := n5_; have NB16_18 := n6_; have NB18_16 := n7_; have NB17_18 := n8_; have NB18_17 := n9_; clear n0_ n1_ n2_ n3_ n4_ n5_ n6_ n7_ n8_ n9_; clear hb hbox hg; have hnb6 := NB16_17.out; have hnc6 := NB17_16.out; have hnb7 := NB16_18.out; have hnc7 := NB18_16.out; have hcz8_0 : w5.cell? ⟨gb16, 0, none⟩ = some (.string a0_0) := (zP BK16.out 0).trans rfl; have hcz8_1 : w5.cell? ⟨gb16, 1, none⟩ = some (.string a0_1) := (zP BK16.out 1).trans rfl; have hcz8_2 : w5.cell? ⟨gb16, 2, none⟩ = some (.slice A0_2 l0_2.length c0_2) := (zP BK16.out 2).trans rfl; have hfz8_0 := zO BK16.out 0; have hfz8_1 := zO BK16.out 1; have hfz8_2 := zO BK16.out 2; have hnb9 := NB18_17.out; have hnc9 := NB17_18.out; have hcz10_0 : w5.cell? ⟨gb18, 0, none⟩ = some (.string (⟨#[]⟩ : ByteArray)) := (zP BK18.out 0).trans rfl; have hcz10_1 : w5.cell? ⟨gb18, 1, none⟩ = some (.string (⟨#[]⟩ : ByteArray)) := (zP BK18.out 1).trans rfl; have hcz10_2 : w5.cell? ⟨gb18, 2, none⟩ = some (.slice none 0 0) := (zP BK18.out 2).trans rfl; have hfz10_0 := zO BK18.out 0; have hfz10_1 := zO BK18.out 1; have hfz10_2 := zO BK18.out 2) | ((with_reducible refine yB (f := 41) rfl ?_); refine goesL_ (some 12) rfl rfl Tryd.func41 (by kernel_rfl) rfl #[.slice A0_2 l0_2.length c0_2] rfl (by (try simp only [zAA, zAB, zAC]); first | done | rfl | (simp only [zZ, zY]; rfl)) ?_; (with_reducible refine (laws_toStringS.calls k _ _ l0_2 t15 _ ?side1 ?side2 A2.out).mono ?_); (case side1 => exact Kd.C_below HR0_2.out (by repeat (first | (with_reducible first | exact HB.out | apply zH | apply zF | apply zG | refine zI ?_ GE16.out | refine zI ?_ GE17.out | refine zI ?_ GE18.out) | exact HB.out))); (case side2 => exact HC0_2.out); rintro e w11 ⟨v19, rfl, ho0, hb⟩; refine ⟨_, rfl, ?_⟩; have n0_ := zA (Kd.R_lower ho0 (zAE (by repeat (first | (with_reducible first | exact HB.out | apply zH | apply zF | apply zG | refine zI ?_ GE16.out | refine zI ?_ GE17.out | refine zI ?_ GE18.out) | exact HB.out)))); have n1_ := zA (yE (g := gb16) (o := .cells #[.string a0_0, .string a0_1, .slice A0_2 l0_2.length c0_2] 32 (0, 0)) (by (with_reducible repeat (first | refine zL ?_ _ | refine zN ?_ | refine zM ?_ _)); refine blk_far ?_ NB16_18.out _; (with_reducible repeat (first | refine zL ?_ _ | refine zN ?_ | refine zM ?_ _)); refine blk_far ?_ NB16_18.out _; (with_reducible repeat (first | refine zL ?_ _ | refine zN ?_ | refine zM ?_ _)); exact BK16.out) hb); have n2_ := zA (yE (g := gb17) (o := .cells #[.string (⟨#[]⟩ : ByteArray), .string (⟨#[]⟩ : ByteArray), .slice none 0 0] 35 (0, 0)) (by (with_reducible repeat (first | refine zL ?_ _ | refine zN ?_ | refine zM ?_ _)); refine blk_far ?_ NB17_18.out _; (with_reducible repeat (first | refine zL ?_ _ | refine zN ?_ | refine zM ?_ _)); refine blk_far ?_ NB17_18.out _; (with_reducible repeat (first | refine zL ?_ _ | refine zN ?_ | refine zM ?_ _)); exact BK17.out) hb); have n3_ := zA (yE (g := gb18) (o := .cells #[.string a0_0, .string a0_1, .slice none 0 0] 35 (0, 0)) (by (with_reducible repeat (first | refine zL ?_ _ | refine zN ?_ | refine zM ?_ _)); refine blk_put (cs := #[.string a0_0, .string (⟨#[]⟩ : ByteArray), .slice none 0 0]) ?_ 1 _ rfl; (with_reducible repeat (first | refine zL ?_ _ | refine zN ?_ | refine zM ?_ _)); refine blk_put (cs := #[.string (⟨#[]⟩ : ByteArray), .string (⟨#[]⟩ : ByteArray), .slice none 0 0]) ?_ 0 _ rfl; (with_reducible repeat (first | refine zL ?_ _ | refine zN ?_ | refine zM ?_ _)); exact BK18.out) hb); have n4_ := zA (zAD (by repeat (first | (with_reducible first | exact HB.out | apply zH | apply zF | apply zG | refine zI ?_ GE16.out | refine zI ?_ GE17.out | refine zI ?_ GE18.out) | exact HB.out)) hb); clear BK16; clear BK17; clear BK18; clear HB; have HO21 := n0_; have BK16 := n1_; have BK17 := n2_; have BK18 := n3_; have HB := n4_; clear n0_ n1_ n2_ n3_ n4_; (try clear hb); (try clear ho0); obtain ⟨Ao12, co12, eo12⟩ := Kd.R_slice HO21.out; subst eo12; have hcz13_0 : w11.cell? ⟨gb18, 0, none⟩ = some (.string a0_0) := (zP BK18.out 0).trans rfl; have hcz13_1 : w11.cell? ⟨gb18, 1, none⟩ = some (.string a0_1) := (zP BK18.out 1).trans rfl; have hcz13_2 : w11.cell? ⟨gb18, 2, none⟩ = some (.slice none 0 0) := (zP BK18.out 2).trans rfl; have hfz13_0 := zO BK18.out 0; have hfz13_1 := zO BK18.out 1; have hfz13_2 := zO BK18.out 2; have hcz14_0 : w11.cell? ⟨gb17, 0, none⟩ = some (.string (⟨#[]⟩ : ByteArray)) := (zP BK17.out 0).trans rfl; have hcz14_1 : w11.cell? ⟨gb17, 1, none⟩ = some (.string (⟨#[]⟩ : ByteArray)) := (zP BK17.out 1).trans rfl; have hcz14_2 : w11.cell? ⟨gb17, 2, none⟩ = some (.slice none 0 0) := (zP BK17.out 2).trans rfl; have hfz14_0 := zO BK17.out 0; have hfz14_1 := zO BK17.out 1; have hfz14_2 := zO BK17.out 2))
 refine bodyPost_ret (results_cell_row rfl _ _ gb17 35 #[.string a0_0, .string a0_1, .slice Ao12 t15.length co12] (0, 0) _ rfl (by (with_reducible repeat (first | refine zL ?_ _ | refine zN ?_ | refine zM ?_ _)); refine blk_put (cs := #[.string a0_0, .string a0_1, .slice none 0 0]) ?_ 2 _ rfl; (with_reducible repeat (first | refine zL ?_ _ | refine zN ?_ | refine zM ?_ _)); refine blk_put (cs := #[.string a0_0, .string (⟨#[]⟩ : ByteArray), .slice none 0 0]) ?_ 1 _ rfl; (with_reducible repeat (first | refine zL ?_ _ | refine zN ?_ | refine zM ?_ _)); refine blk_put (cs := #[.string (⟨#[]⟩ : ByteArray), .string (⟨#[]⟩ : ByteArray), .slice none 0 0]) ?_ 0 _ rfl; (with_reducible repeat (first | refine zL ?_ _ | refine zN ?_ | refine zM ?_ _)); refine blk_far ?_ NB17_18.out _; (with_reducible repeat (first | refine zL ?_ _ | refine zN ?_ | refine zM ?_ _)); exact BK17.out) Tryd.underlying35 rfl (by kernel_rfl)) rfl ?_; exact ⟨_, by first | rfl | (simp <;> rfl) | (simp [*] <;> rfl), by (with_reducible repeat (first | apply zQ | apply zR | apply zS)); exact yC (Kd.R_far (p := ⟨gb17, 2, none⟩) (Kd.R_far (p := ⟨gb17, 1, none⟩) (Kd.R_far (p := ⟨gb17, 0, none⟩) (Kd.R_far (p := ⟨gb18, 2, none⟩) (Kd.R_types (Kd.R_types HO21.out BK18.out (by decide)) BK17.out (by decide)) (fun _ hk => hk.1.2) (.slice Ao12 t15.length co12)) (fun _ hk => hk.2) (.string a0_0)) (fun _ hk => hk.2) (.string a0_1)) (fun _ hk => hk.2) (.slice Ao12 t15.length co12)) (fun _ hk => trivial), by repeat (first | (with_reducible first | exact HB.out | apply zH | apply zF | apply zG | refine zI ?_ GE16.out | refine zI ?_ GE17.out | refine zI ?_ GE18.out) | exact HB.out)⟩
def impl_isDigest.f (a0 : ByteArray) : Option (Bool) := some ((a0.size : Int) == 4)
theorem impl_isDigest.calls (a0 : ByteArray) (r : Bool) (w : World) (h : impl_isDigest.f a0 = some r) :
  Calls Tryd.prog 63 #[.string a0] w fun e w' => e = .returned (.bool r) ∧ Drawn0 w w' := by
 have H : (some ((a0.size : Int) == 4)) = some r := h; clear h; obtain rfl := Option.some.inj H; go_enter Tryd.func63, Tryd.ntmps63; go_wp2; go_ret; exact ⟨by first | rfl | (simp; done) | (simp [*]; done) | (simp [bne]; done), by repeat (first | exact Drawn0.refl _ | apply Drawn0.step)⟩
def impl_GoodBlock_1.f (a0 : ByteArray) : Option (Bool) := some (decide ((a0.size : Int) > 60))
theorem impl_GoodBlock_1.calls (a0 : ByteArray) (r : Bool) (w : World) (h : impl_GoodBlock_1.f a0 = some r) :
  Calls Tryd.prog 65 #[.string a0] w fun e w' => e = .returned (.bool r) ∧ Drawn0 w w' := by
 have H : (some (decide ((a0.size : Int) > 60))) = some r := h; clear h; obtain rfl := Option.some.inj H; go_enter Tryd.func65, Tryd.ntmps65; go_wp2; go_ret; exact ⟨by first | rfl | (simp; done) | (simp [*]; done) | (simp [bne]; done), by repeat (first | exact Drawn0.refl _ | apply Drawn0.step)⟩
def slices_IndexFunc_impl_GoodBlock_1.l0 : Nat → List ByteArray → Int → Int → Option (Int)
 | 0, _, _, _ => none
 | k + 1, x0, x7, x8 => if x8 < x7 then (if 0 ≤ x8 then (if x8 < (x0.length : Int) then ((impl_GoodBlock_1.f (rdOf ByteArray.empty x0 x8)).bind fun t10 => (if t10 = true then (some x8) else (slices_IndexFunc_impl_GoodBlock_1.l0 k x0 x7 (wrap64 (x8 + 1))))) else (none)) else (none)) else (some (-1))
def slices_IndexFunc_impl_GoodBlock_1.f (k : Nat) (l0 : List ByteArray)  : Option (Int) := slices_IndexFunc_impl_GoodBlock_1.l0 k l0 (l0.length : Int) 0
theorem slices_IndexFunc_impl_GoodBlock_1.calls (k : Nat) (A0 : Option Addr) (c0 : Nat) (l0 : List ByteArray)  (r : Int) (w : World) (hr0 : Kd.C Kd.string w A0 l0.length l0) (hc0 : l0.length ≤ c0) (h : slices_IndexFunc_impl_GoodBlock_1.f k l0 = some r) :
  Calls Tryd.prog 85 #[.slice A0 l0.length c0, .func (.func 65) #[] #[]] w fun e w' => e = .returned (.int .i64 r) ∧ Drawn0 w w' := by
 have HR0 := zA hr0; have HC0 := zA hc0; clear hr0 hc0; have H : (slices_IndexFunc_impl_GoodBlock_1.l0 k l0 (l0.length : Int) 0) = some r := h; clear h; have H' := zA H; clear H; go_enter Tryd.func85, Tryd.ntmps85; go_wp2; go_loopg [8] k (fun kq v8 w' => ∃ (x8_1 : Int), v8 = .int .i64 x8_1 ∧ Aside0 (slices_IndexFunc_impl_GoodBlock_1.l0 kq l0 (l0.length : Int) x8_1 = some r) ∧ Aside0 (kq ≤ k) ∧ Drawn0 w w')
 case atStart => exact ⟨(0), (by first | rfl | (simp; done) | (simp [*]; done) | (simp [bne]; done)), H', ⟨Nat.le_refl _⟩, by repeat (first | exact Drawn0.refl _ | apply Drawn0.step)⟩
 case round =>
  clear H'
  try clear p2
  obtain ⟨x8_1, rfl, HA, HK1, ⟨m1, rfl⟩⟩ := hrel
  cases gk with
  | zero => exact absurd HA.out (by simp [slices_IndexFunc_impl_GoodBlock_1.l0])
  | succ k1 =>
   have H := HA.out; clear HA; simp only [slices_IndexFunc_impl_GoodBlock_1.l0] at H
   by_cases c3 : x8_1 < (l0.length : Int)
   ·rw [if_pos c3] at H
    have c3b0 : decide (x8_1 < (l0.length : Int)) = true := zX c3; clear c3
    by_cases c4 : 0 ≤ x8_1
    ·rw [if_pos c4] at H
     have c4b0 : decide (0 ≤ x8_1) = true := zX c4; clear c4
     by_cases c5 : x8_1 < (l0.length : Int)
     ·rw [if_pos c5] at H
      have c5b0 : decide (x8_1 < (l0.length : Int)) = true := zX c5; clear c5; replace H := zAF H; obtain ⟨t10, A60, H⟩ := H; replace H : (if t10 = true then (some x8_1) else (slices_IndexFunc_impl_GoodBlock_1.l0 k1 l0 (l0.length : Int) (wrap64 (x8_1 + 1)))) = some r := H; have A6 := zA A60; clear A60
      by_cases c7 : t10 = true
      ·subst c7
       have H1 : (some x8_1) = some r := by rw [if_pos rfl] at H; exact H
       clear H; have H := H1; clear H1; obtain rfl := Option.some.inj H; have p11 : 0 ≤ (x8_1 : Int) := zW (by first | (with_reducible assumption) | assumption); have q11 : x8_1 < (l0.length : Int) := zW (by first | (with_reducible assumption) | assumption); obtain ⟨ad11, e11, hx11_0⟩ := Kd.at_string HR0.out x8_1 p11 q11
       cases e11
       replace p11 := eq_true p11; replace q11 := eq_true q11; go_wp2_with (first | (go_at_call 65; (with_reducible refine (impl_GoodBlock_1.calls (rdOf ByteArray.empty l0 x8_1) true _ A6.out).mono ?_); rintro e w' ⟨rfl, ⟨nd, rfl⟩⟩)); go_ret; exact ⟨by first | rfl | (simp; done) | (simp [*]; done) | (simp [bne]; done), by repeat (first | exact Drawn0.refl _ | apply Drawn0.step)⟩
      ·replace c7 := Bool.eq_false_iff.mpr c7
       subst c7; have H1 : (slices_IndexFunc_impl_GoodBlock_1.l0 k1 l0 (l0.length : Int) (wrap64 (x8_1 + 1))) = some r := by rw [if_neg (show ¬ (false = true) by decide)] at H; exact H
       clear H; have H := H1; clear H1; have H' := zA H; clear H; have p11 : 0 ≤ (x8_1 : Int) := zW (by first | (with_reducible assumption) | assumption); have q11 : x8_1 < (l0.length : Int) := zW (by first | (with_reducible assumption) | assumption); obtain ⟨ad11, e11, hx11_0⟩ := Kd.at_string HR0.out x8_1 p11 q11
       cases e11
       replace p11 := eq_true p11; replace q11 := eq_true q11; go_wp2_with (first | (go_at_call 65; (with_reducible refine (impl_GoodBlock_1.calls (rdOf ByteArray.empty l0 x8_1) false _ A6.out).mono ?_); rintro e w' ⟨rfl, ⟨nd, rfl⟩⟩)); go_roundg k1
       case measure => have := HK1.out; omega
       case rel => exact ⟨(wrap64 (x8_1 + 1)), (by first | rfl | (simp; done) | (simp [*]; done) | (simp [bne]; done)), H', ⟨by have := HK1.out; omega⟩, by repeat (first | exact Drawn0.refl _ | apply Drawn0.step)⟩
     ·rw [if_neg c5] at H
      exact absurd H (by simp)
    ·rw [if_neg c4] at H
     exact absurd H (by simp)
   ·rw [if_neg c3] at H
    have c3b0 : decide (x8_1 < (l0.length : Int)) = false := decide_eq_false c3; clear c3; obtain rfl := Option.some.inj H; go_wp2; go_ret; exact ⟨by first | rfl | (simp; done) | (simp [*]; done) | (simp [bne]; done), by repeat (first | exact Drawn0.refl _ | apply Drawn0.step)⟩
def slices_ContainsFunc_impl_GoodBlock_1.f (k : Nat) (l0 : List ByteArray)  : Option (Bool) := (slices_IndexFunc_impl_GoodBlock_1.f k l0).bind fun t10 => (some (decide (t10 ≥ 0)))
theorem slices_ContainsFunc_impl_GoodBlock_1.calls (k : Nat) (A0 : Option Addr) (c0 : Nat) (l0 : List ByteArray)  (r : Bool) (w : World) (hr0 : Kd.C Kd.string w A0 l0.length l0) (hc0 : l0.length ≤ c0) (h : slices_ContainsFunc_impl_GoodBlock_1.f k l0 = some r) :
  Calls Tryd.prog 64 #[.slice A0 l0.length c0, .func (.func 65) #[] #[]] w fun e w' => e = .returned (.bool r) ∧ Drawn0 w w' := by
 have HR0 := zA hr0; have HC0 := zA hc0; clear hr0 hc0; have H : ((slices_IndexFunc_impl_GoodBlock_1.f k l0).bind fun t10 => (some (decide (t10 ≥ 0)))) = some r := h; clear h; replace H := zAF H; obtain ⟨t10, A30, H⟩ := H; replace H : (some (decide (t10 ≥ 0))) = some r := H; have A3 := zA A30; clear A30; obtain rfl := Option.some.inj H; go_enter Tryd.func64, Tryd.ntmps64; go_wp2_with (first | ((with_reducible refine yB (f := 85) rfl ?_); refine goesL_ (some 7) rfl rfl Tryd.func85 (by kernel_rfl) rfl #[.slice A0 l0.length c0, .func (.func 65) #[] #[]] rfl (by (try simp only [zAA, zAB, zAC]); first | done | rfl) ?_; (with_reducible refine (slices_IndexFunc_impl_GoodBlock_1.calls k _ _ l0  t10 _ ?side1 ?side2 A3.out).mono ?_); (case side1 => repeat (first | exact HR0.out | (with_reducible refine zT ?_ _) | (with_reducible refine zU ?_ _) | (with_reducible refine zV ?_))); (case side2 => exact HC0.out); rintro e w' ⟨rfl, ⟨nd, rfl⟩⟩; refine ⟨_, rfl, ?_⟩)); go_ret; exact ⟨by first | rfl | (simp; done) | (simp [*]; done) | (simp [bne]; done), by repeat (first | exact Drawn0.refl _ | apply Drawn0.step)⟩
def impl_GoodBlock.f (k : Nat) (a0_0 : ByteArray) (a0_1 : ByteArray) (l0_2 : List ByteArray) : Option (Bool) := (impl_isDigest.f a0_0).bind fun t10 => (if t10 = true then ((impl_isDigest.f a0_1).bind fun t11 => (if t11 = true then (if (l0_2.length : Int) ≤ 6 then ((slices_ContainsFunc_impl_GoodBlock_1.f k l0_2).bind fun t12 => (some (!t12))) else (some false)) else (some false))) else (some false))
theorem impl_GoodBlock.calls (k : Nat) (a0_0 : ByteArray) (a0_1 : ByteArray) (A0_2 : Option Addr) (c0_2 : Nat) (l0_2 : List ByteArray) (r : Bool) (w : World) (hr0_2 : Kd.C Kd.string w A0_2 l0_2.length l0_2) (hc0_2 : l0_2.length ≤ c0_2) (h : impl_GoodBlock.f k a0_0 a0_1 l0_2 = some r) :
  Calls Tryd.prog 43 #[.agg #[.string a0_0, .string a0_1, .slice A0_2 l0_2.length c0_2]] w fun e w' => e = .returned (.bool r) ∧ Below w.heap.size w w' := by
 have hu35 := Tryd.underlying35; have HR0_2 := zA hr0_2; have HC0_2 := zA hc0_2; clear hr0_2 hc0_2; have HB := zA (Below.refl w.heap.size w); have H : ((impl_isDigest.f a0_0).bind fun t16 => (if t16 = true then ((impl_isDigest.f a0_1).bind fun t17 => (if t17 = true then (if (l0_2.length : Int) ≤ 6 then ((slices_ContainsFunc_impl_GoodBlock_1.f k l0_2).bind fun t18 => (some (!t18))) else (some false)) else (some false))) else (some false))) = some r := h; clear h; replace H := zAF H; obtain ⟨t16, A20, H⟩ := H; replace H : (if t16 = true then ((impl_isDigest.f a0_1).bind fun t17 => (if t17 = true then (if (l0_2.length : Int) ≤ 6 then ((slices_ContainsFunc_impl_GoodBlock_1.f k l0_2).bind fun t18 => (some (!t18))) else (some false)) else (some false))) else (some false)) = some r := H; have A2 := zA A20; clear A20
 by_cases c3 : t16 = true
 ·subst c3
  have H1 : ((impl_isDigest.f a0_1).bind fun t17 => (if t17 = true then (if (l0_2.length : Int) ≤ 6 then ((slices_ContainsFunc_impl_GoodBlock_1.f k l0_2).bind fun t18 => (some (!t18))) else (some false)) else (some false))) = some r := by rw [if_pos rfl] at H; exact H
  clear H; have H := H1; clear H1; replace H := zAF H; obtain ⟨t17, A40, H⟩ := H; replace H : (if t17 = true then (if (l0_2.length : Int) ≤ 6 then ((slices_ContainsFunc_impl_GoodBlock_1.f k l0_2).bind fun t18 => (some (!t18))) else (some false)) else (some false)) = some r := H; have A4 := zA A40; clear A40
  by_cases c5 : t17 = true
  ·subst c5
   have H1 : (if (l0_2.length : Int) ≤ 6 then ((slices_ContainsFunc_impl_GoodBlock_1.f k l0_2).bind fun t18 => (some (!t18))) else (some false)) = some r := by rw [if_pos rfl] at H; exact H
   clear H; have H := H1; clear H1
   by_cases c6 : (l0_2.length : Int) ≤ 6
   ·rw [if_pos c6] at H
    have c6b0 : decide ((l0_2.length : Int) ≤ 6) = true := zX c6; have c6b1 : decide (l0_2.length ≤ 6) = true := zX (by omega); clear c6; replace H := zAF H; obtain ⟨t18, A70, H⟩ := H; replace H : (some (!t18)) = some r := H; have A7 := zA A70; clear A70; obtain rfl := Option.some.inj H; go_enter Tryd.func43, Tryd.ntmps43; go_wp2_with (first | ((with_reducible refine gate_dst (N := 1) rfl ?_); (try (refine gate_guard (by rfl) ?_; dsimp only)); refine box_event ?hg (N := 1) ?hd (cs := #[.string a0_0, .string a0_1, .slice A0_2 l0_2.length c0_2]) (t := 35) ?hr ?_; (case hd => rfl); (case hg => rfl); (case hr => first | (go_simp; done) | (go_simp; rfl)); intro gb19 hg w8 hbox hb; have n0_ := zA (zAD (by repeat (first | (with_reducible first | exact HB.out | apply zH | apply zF | apply zG) | exact HB.out)) hb); have n1_ := zA (hbox); have n2_ := zA ((by rw [hg]; exact (zAE (by repeat (first | (with_reducible first | exact HB.out | apply zH | apply zF | apply zG) | exact HB.out))) : w.heap.size ≤ gb19)); have n3_ := zA ((by rw [hg]; exact (zAE (by repeat (first | (with_reducible first | exact HB.out | apply zH | apply zF | apply zG) | exact HB.out))) : w.heap.size ≤ gb19)); clear HB; have HB := n0_; have BK19 := n1_; have GW19 := n2_; have GE19 := n3_; clear n0_ n1_ n2_ n3_; clear hb hbox hg; have hcz9_0 : w8.cell? ⟨gb19, 0, none⟩ = some (.string a0_0) := (zP BK19.out 0).trans rfl; have hcz9_1 : w8.cell? ⟨gb19, 1, none⟩ = some (.string a0_1) := (zP BK19.out 1).trans rfl; have hcz9_2 : w8.cell? ⟨gb19, 2, none⟩ = some (.slice A0_2 l0_2.length c0_2) := (zP BK19.out 2).trans rfl; have hfz9_0 := zO BK19.out 0; have hfz9_1 := zO BK19.out 1; have hfz9_2 := zO BK19.out 2) | ((with_reducible refine yB (f := 63) rfl ?_); refine goesL_ (some 5) rfl rfl Tryd.func63 (by kernel_rfl) rfl #[.string a0_0] rfl (by (try simp only [zAA, zAB, zAC]); first | done | rfl) ?_; (with_reducible refine (impl_isDigest.calls a0_0 true _ A2.out).mono ?_); rintro e w' ⟨rfl, ⟨nd, rfl⟩⟩; refine ⟨_, rfl, ?_⟩) | (go_at_call 63; (with_reducible refine (impl_isDigest.calls a0_1 true _ A4.out).mono ?_); rintro e w' ⟨rfl, ⟨nd, rfl⟩⟩) | (go_at_call 64; (with_reducible refine (slices_ContainsFunc_impl_GoodBlock_1.calls k _ _ l0_2  t18 _ ?side1 ?side2 A7.out).mono ?_); (case side1 => repeat (first | exact (Kd.C_below HR0_2.out (by repeat (first | (with_reducible first | exact HB.out | apply zH | apply zF | apply zG | refine zI ?_ GE19.out) | exact HB.out))) | (with_reducible refine zT ?_ _) | (with_reducible refine zU ?_ _) | (with_reducible refine zV ?_))); (case side2 => exact HC0_2.out); rintro e w' ⟨rfl, ⟨nd, rfl⟩⟩)); go_ret; exact ⟨by first | rfl | (simp <;> rfl) | (simp [*] <;> rfl), by repeat (first | (with_reducible first | exact HB.out | apply zH | apply zF | apply zG | refine zI ?_ GE19.out) | exact HB.out)⟩
   ·rw [if_neg c6] at H
    have c6b0 : decide ((l0_2.length : Int) ≤ 6) = false := decide_eq_false c6; have c6b1 : decide (l0_2.length ≤ 6) = false := decide_eq_false (by omega); clear c6; obtain rfl := Option.some.inj H; go_enter Tryd.func43, Tryd.ntmps43; go_wp2_with (first | ((with_reducible refine gate_dst (N := 1) rfl ?_); (try (refine gate_guard (by rfl) ?_; dsimp only)); refine box_event ?hg (N := 1) ?hd (cs := #[.string a0_0, .string a0_1, .slice A0_2 l0_2.length c0_2]) (t := 35) ?hr ?_; (case hd => rfl); (case hg => rfl); (case hr => first | (go_simp; done) | (go_simp; rfl)); intro gb19 hg w10 hbox hb; have n0_ := zA (zAD (by repeat (first | (with_reducible first | exact HB.out | apply zH | apply zF | apply zG) | exact HB.out)) hb); have n1_ := zA (hbox); have n2_ := zA ((by rw [hg]; exact (zAE (by repeat (first | (with_reducible first | exact HB.out | apply zH | apply zF | apply zG) | exact HB.out))) : w.heap.size ≤ gb19)); have n3_ := zA ((by rw [hg]; exact (zAE (by repeat (first | (with_reducible first | exact HB.out | apply zH | apply zF | apply zG) | exact HB.out))) : w.heap.size ≤ gb19)); clear HB; have HB := n0_; have BK19 := n1_; have GW19 := n2_; have GE19 := n3_; clear n0_ n1_ n2_ n3_; clear hb hbox hg; have hcz11_0 : w10.cell? ⟨gb19, 0, none⟩ = some (.string a0_0) := (zP BK19.out 0).trans rfl; have hcz11_1 : w10.cell? ⟨gb19, 1, none⟩ = some (.string a0_1) := (zP BK19.out 1).trans rfl; have hcz11_2 : w10.cell? ⟨gb19, 2, none⟩ = some (.slice A0_2 l0_2.length c0_2) := (zP BK19.out 2).trans rfl; have hfz11_0 := zO BK19.out 0; have hfz11_1 := zO BK19.out 1; have hfz11_2 := zO BK19.out 2) | ((with_reducible refine yB (f := 63) rfl ?_); refine goesL_ (some 5) rfl rfl Tryd.func63 (by kernel_rfl) rfl #[.string a0_0] rfl (by (try simp only [zAA, zAB, zAC]); first | done | rfl) ?_; (with_reducible refine (impl_isDigest.calls a0_0 true _ A2.out).mono ?_); rintro e w' ⟨rfl, ⟨nd, rfl⟩⟩; refine ⟨_, rfl, ?_⟩) | (go_at_call 63; (with_reducible refine (impl_isDigest.calls a0_1 true _ A4.out).mono ?_); rintro e w' ⟨rfl, ⟨nd, rfl⟩⟩)); go_ret; exact ⟨by first | rfl | (simp <;> rfl) | (simp [*] <;> rfl), by repeat (first | (with_reducible first | exact HB.out | apply zH | apply zF | apply zG | refine zI ?_ GE19.out) | exact HB.out)⟩
  ·replace c5 := Bool.eq_false_iff.mpr c5
   subst c5; have H1 : (some false) = some r := by rw [if_neg (show ¬ (false = true) by decide)] at H; exact H
   clear H; have H := H1; clear H1; obtain rfl := Option.some.inj H; go_enter Tryd.func43, Tryd.ntmps43; go_wp2_with (first | ((with_reducible refine gate_dst (N := 1) rfl ?_); (try (refine gate_guard (by rfl) ?_; dsimp only)); refine box_event ?hg (N := 1) ?hd (cs := #[.string a0_0, .string a0_1, .slice A0_2 l0_2.length c0_2]) (t := 35) ?hr ?_; (case hd => rfl); (case hg => rfl); (case hr => first | (go_simp; done) | (go_simp; rfl)); intro gb19 hg w12 hbox hb; have n0_ := zA (zAD (by repeat (first | (with_reducible first | exact HB.out | apply zH | apply zF | apply zG) | exact HB.out)) hb); have n1_ := zA (hbox); have n2_ := zA ((by rw [hg]; exact (zAE (by repeat (first | (with_reducible first | exact HB.out | apply zH | apply zF | apply zG) | exact HB.out))) : w.heap.size ≤ gb19)); have n3_ := zA ((by rw [hg]; exact (zAE (by repeat (first | (with_reducible first | exact HB.out | apply zH | apply zF | apply zG) | exact HB.out))) : w.heap.size ≤ gb19)); clear HB; have HB := n0_; have BK19 := n1_; have GW19 := n2_; have GE19 := n3_; clear n0_ n1_ n2_ n3_; clear hb hbox hg; have hcz13_0 : w12.cell? ⟨gb19, 0, none⟩ = some (.string a0_0) := (zP BK19.out 0).trans rfl; have hcz13_1 : w12.cell? ⟨gb19, 1, none⟩ = some (.string a0_1) := (zP BK19.out 1).trans rfl; have hcz13_2 : w12.cell? ⟨gb19, 2, none⟩ = some (.slice A0_2 l0_2.length c0_2) := (zP BK19.out 2).trans rfl; have hfz13_0 := zO BK19.out 0; have hfz13_1 := zO BK19.out 1; have hfz13_2 := zO BK19.out 2) | ((with_reducible refine yB (f := 63) rfl ?_); refine goesL_ (some 5) rfl rfl Tryd.func63 (by kernel_rfl) rfl #[.string a0_0] rfl (by (try simp only [zAA, zAB, zAC]); first | done | rfl) ?_; (with_reducible refine (impl_isDigest.calls a0_0 true _ A2.out).mono ?_); rintro e w' ⟨rfl, ⟨nd, rfl⟩⟩; refine ⟨_, rfl, ?_⟩) | (go_at_call 63; (with_reducible refine (impl_isDigest.calls a0_1 false _ A4.out).mono ?_); rintro e w' ⟨rfl, ⟨nd, rfl⟩⟩)); go_ret; exact ⟨by first | rfl | (simp <;> rfl) | (simp [*] <;> rfl), by repeat (first | (with_reducible first | exact HB.out | apply zH | apply zF | apply zG | refine zI ?_ GE19.out) | exact HB.out)⟩
 ·replace c3 := Bool.eq_false_iff.mpr c3
  subst c3; have H1 : (some false) = some r := by rw [if_neg (show ¬ (false = true) by decide)] at H; exact H
  clear H; have H := H1; clear H1; obtain rfl := Option.some.inj H; go_enter Tryd.func43, Tryd.ntmps43; go_wp2_with (first | ((with_reducible refine gate_dst (N := 1) rfl ?_); (try (refine gate_guard (by rfl) ?_; dsimp only)); refine box_event ?hg (N := 1) ?hd (cs := #[.string a0_0, .string a0_1, .slice A0_2 l0_2.length c0_2]) (t := 35) ?hr ?_; (case hd => rfl); (case hg => rfl); (case hr => first | (go_simp; done) | (go_simp; rfl)); intro gb19 hg w14 hbox hb; have n0_ := zA (zAD (by repeat (first | (with_reducible first | exact HB.out | apply zH | apply zF | apply zG) | exact HB.out)) hb); have n1_ := zA (hbox); have n2_ := zA ((by rw [hg]; exact (zAE (by repeat (first | (with_reducible first | exact HB.out | apply zH | apply zF | apply zG) | exact HB.out))) : w.heap.size ≤ gb19)); have n3_ := zA ((by rw [hg]; exact (zAE (by repeat (first | (with_reducible first | exact HB.out | apply zH | apply zF | apply zG) | exact HB.out))) : w.heap.size ≤ gb19)); clear HB; have HB := n0_; have BK19 := n1_; have GW19 := n2_; have GE19 := n3_; clear n0_ n1_ n2_ n3_; clear hb hbox hg; have hcz15_0 : w14.cell? ⟨gb19, 0, none⟩ = some (.string a0_0) := (zP BK19.out 0).trans rfl; have hcz15_1 : w14.cell? ⟨gb19, 1, none⟩ = some (.string a0_1) := (zP BK19.out 1).trans rfl; have hcz15_2 : w14.cell? ⟨gb19, 2, none⟩ = some (.slice A0_2 l0_2.length c0_2) := (zP BK19.out 2).trans rfl; have hfz15_0 := zO BK19.out 0; have hfz15_1 := zO BK19.out 1; have hfz15_2 := zO BK19.out 2) | ((with_reducible refine yB (f := 63) rfl ?_); refine goesL_ (some 5) rfl rfl Tryd.func63 (by kernel_rfl) rfl #[.string a0_0] rfl (by (try simp only [zAA, zAB, zAC]); first | done | rfl) ?_; (with_reducible refine (impl_isDigest.calls a0_0 false _ A2.out).mono ?_); rintro e w' ⟨rfl, ⟨nd, rfl⟩⟩; refine ⟨_, rfl, ?_⟩)); go_ret; exact ⟨by first | rfl | (simp <;> rfl) | (simp [*] <;> rfl), by repeat (first | (with_reducible first | exact HB.out | apply zH | apply zF | apply zG | refine zI ?_ GE19.out) | exact HB.out)⟩
def strconv_Itoa_66.f (a0 : Int) : Option ByteArray := if 0 ≤ a0 ∧ a0 < 100 then some ⟨(Go.Lib.decDigits a0.toNat).toArray⟩ else none
theorem strconv_Itoa_66.calls (a0 : Int) (r : ByteArray) (w : World) (h : strconv_Itoa_66.f a0 = some r) :
  Calls Tryd.prog 66 #[.int .i64 a0] w fun e w' => e = .returned (.string r) ∧ Below w.heap.size w w' := by
 unfold strconv_Itoa_66.f at h
 by_cases hc : 0 ≤ a0 ∧ a0 < 100
 ·rw [if_pos hc] at h
  obtain rfl := Option.some.inj h; obtain ⟨i, rfl⟩ := Int.eq_ofNat_of_zero_le hc.1; refine (Go.Proofs.Any.strconv_Itoa_small Go.Proofs.YthhkkhnjkoacnaaDoor.QS.lays171 i (by omega) w).mono fun e w' ⟨h1, h2⟩ => ⟨h1, h2 ▸ Below.refl _ _⟩
 ·rw [if_neg hc] at h
  cases h
def impl_newMix.f (a0 : Int) : Option (Int × Int × Int) := some (wrap64 ((wrap64 (a0)) + 1), wrap64 ((wrap64 (a0)) + 1), 0)
theorem impl_newMix.calls (a0 : Int) (r1 : Int) (r2 : Int) (r3 : Int) (w : World) (h : impl_newMix.f a0 = some (r1, r2, r3)) :
  Calls Tryd.prog 100 #[.int .u8 a0] w fun e w' => e = .returned (.agg #[.int .i64 r1, .int .i64 r2, .int .i64 r3]) ∧ Below w.heap.size w w' := by
 have hu104 := Tryd.underlying104; have HB := zA (Below.refl w.heap.size w); have H : (some (wrap64 ((wrap64 (a0)) + 1), wrap64 ((wrap64 (a0)) + 1), 0)) = some (r1, r2, r3) := h; clear h; simp only [Option.some.injEq, Prod.mk.injEq] at H; obtain ⟨rfl, rfl, rfl⟩ := H; go_enter Tryd.func100, Tryd.ntmps100; go_wp2_with (first | ((with_reducible refine gate_dst (N := 2) rfl ?_); refine box_event ?hg (N := 2) ?hd (cs := #[.int .i64 0, .int .i64 0, .int .i64 0]) (t := 104) ?hr ?_; (case hd => rfl); (case hg => rfl); (case hr => first | (go_simp; done) | (go_simp; rfl)); intro gb10 hg w2 hbox hb; have n0_ := zA (zAD (by repeat (first | (with_reducible first | exact HB.out | apply zH | apply zF | apply zG) | exact HB.out)) hb); have n1_ := zA (hbox); have n2_ := zA ((by rw [hg]; exact (zAE (by repeat (first | (with_reducible first | exact HB.out | apply zH | apply zF | apply zG) | exact HB.out))) : w.heap.size ≤ gb10)); have n3_ := zA ((by rw [hg]; exact (zAE (by repeat (first | (with_reducible first | exact HB.out | apply zH | apply zF | apply zG) | exact HB.out))) : w.heap.size ≤ gb10)); clear HB; have HB := n0_; have BK10 := n1_; have GW10 := n2_; have GE10 := n3_; clear n0_ n1_ n2_ n3_; clear hb hbox hg; have hcz3_0 : w2.cell? ⟨gb10, 0, none⟩ = some (.int .i64 0) := (zP BK10.out 0).trans rfl; have hcz3_1 : w2.cell? ⟨gb10, 1, none⟩ = some (.int .i64 0) := (zP BK10.out 1).trans rfl; have hcz3_2 : w2.cell? ⟨gb10, 2, none⟩ = some (.int .i64 0) := (zP BK10.out 2).trans rfl; have hfz3_0 := zO BK10.out 0; have hfz3_1 := zO BK10.out 1; have hfz3_2 := zO BK10.out 2)); refine bodyPost_ret (results_cell_row rfl _ _ gb10 104 #[.int .i64 (wrap64 ((wrap64 (a0)) + 1)), .int .i64 (wrap64 ((wrap64 (a0)) + 1)), .int .i64 0] (0, 0) _ rfl (by (with_reducible repeat (first | refine zL ?_ _ | refine zN ?_ | refine zM ?_ _)); refine blk_put (cs := #[.int .i64 (wrap64 ((wrap64 (a0)) + 1)), .int .i64 (wrap64 ((wrap64 (a0)) + 1)), .int .i64 0]) ?_ 2 _ rfl; (with_reducible repeat (first | refine zL ?_ _ | refine zN ?_ | refine zM ?_ _)); refine blk_put (cs := #[.int .i64 (wrap64 ((wrap64 (a0)) + 1)), .int .i64 0, .int .i64 0]) ?_ 1 _ rfl; (with_reducible repeat (first | refine zL ?_ _ | refine zN ?_ | refine zM ?_ _)); refine blk_put (cs := #[.int .i64 0, .int .i64 0, .int .i64 0]) ?_ 0 _ rfl; (with_reducible repeat (first | refine zL ?_ _ | refine zN ?_ | refine zM ?_ _)); exact BK10.out) Tryd.underlying104 rfl (by kernel_rfl)) rfl ?_; exact ⟨by first | rfl | (simp <;> rfl) | (simp [*] <;> rfl), by repeat (first | (with_reducible first | exact HB.out | apply zH | apply zF | apply zG | refine zI ?_ GE10.out) | exact HB.out)⟩
end Go.Proofs.YthhkkhnjkoacnaaDoor.PA
end
