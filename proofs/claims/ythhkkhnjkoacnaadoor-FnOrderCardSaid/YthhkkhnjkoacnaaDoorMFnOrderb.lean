/- For the law FnOrder (laid by merge.py). -/
import Derived.Test.YthhkkhnjkoacnaaDoorMFnOrdera
import Derived.Shelf.Strings.Replace
import Derived.Shelf.Small.Strs
import Derived.Shelf.Strconv.Itoa3
import Derived.Test.YthhkkhnjkoacnaaDoorProg
import Derived.Below
import Derived.Deep.Draws
import Derived.Deep.AppendLies
import Derived.Maps.AppendAt
import Derived.OwnWalk
import Derived.Laws.BytesArg
import Derived.Laws.MakeOwn
import Derived.Laws.OwnMore
import Derived.Deep.OwnRows
import Derived.Tactics
import Derived.Lib.ConvBytes
import Derived.Laws.Slices
import Derived.WalkKit
import Derived.KernelRfl
import Derived.RowKit3
import Derived.Deep.LoopGhost
import Derived.Deep.QuietTactic
import Derived.BigQuiet
import Derived.WideLaws
import Derived.Deep.DeepCutAuto
import Derived.Deep.CutBlock
import Derived.Deep.RegionHeld3
import Derived.Laws.Rows
import Derived.Lib.AppendStr
import Derived.ArgAppend
import Derived.Laws.IdiomCopy
import Derived.OrdersHeld
import Derived.Laws.BitsLemmas
import Derived.RowKit
import Derived.WalkLawsBesides
section
namespace Go.Proofs.YthhkkhnjkoacnaaDoor.QR
open Go Go.Shelf Go.RowKit Go.Lib Go.Proofs
set_option linter.unusedVariables false
def rep (c : UInt8) (new l : List UInt8) : List UInt8 := l.flatMap fun b => if b = c then new else [b]
theorem rep_cons (c : UInt8) (new : List UInt8) (b : UInt8) (l : List UInt8) : rep c new (b :: l) = (if b = c then new else [b]) ++ rep c new l := by simp [rep]
theorem rep_hit (c : UInt8) (new : List UInt8) : ∀ (l : List UInt8) (j : Nat), Lib.indexByte l c = (j : Int) → j < l.length ∧ rep c new l = l.take j ++ new ++ rep c new (l.drop (j + 1)) ∧ l.count c = (l.drop (j + 1)).count c + 1 := by
 intro l
 induction l with
 | nil => intro j h; simp only [Lib.indexByte] at h; omega
 | cons b l ih =>
  intro j h
  by_cases hb : b = c
  ·subst hb
   have : j = 0 := by simp only [Lib.indexByte, beq_self_eq_true, if_true] at h; omega
   subst this
   refine ⟨by simp, ?_, by simp⟩
   rw [rep_cons, if_pos rfl]
   rfl
  ·have hb' : (b == c) = false := beq_eq_false_iff_ne.2 hb
   simp only [Lib.indexByte, hb'] at h
   by_cases hm : Lib.indexByte l c = -1
   ·rw [hm] at h; simp at h
   ·have hm' : (Lib.indexByte l c == -1) = false := beq_eq_false_iff_ne.2 hm
    rw [hm'] at h
    simp at h
    have hge := Lib.indexByte_ge l c
    obtain ⟨i, hi⟩ : ∃ i : Nat, Lib.indexByte l c = (i : Int) := ⟨(Lib.indexByte l c).toNat, by omega⟩
    have hj : j = i + 1 := by omega
    subst hj
    obtain ⟨h1, h2, h3⟩ := ih i hi
    refine ⟨by simp; omega, ?_, ?_⟩
    ·rw [rep_cons, if_neg hb, h2]
     simp
    ·rw [List.count_cons_of_ne hb, h3]
     simp
theorem rep_miss (c : UInt8) (new : List UInt8) : ∀ l : List UInt8, l.count c = 0 → rep c new l = l := by
 intro l
 induction l with
 | nil => intro _; rfl
 | cons b l ih =>
  intro h
  by_cases hb : b = c
  ·subst hb; simp at h
  ·rw [List.count_cons_of_ne hb] at h
   rw [rep_cons, if_neg hb, ih h]
   rfl
theorem hit_of_count (c : UInt8) : ∀ l : List UInt8, 0 < l.count c → ∃ j : Nat, Lib.indexByte l c = (j : Int) := by
 intro l
 induction l with
 | nil => intro h; simp at h
 | cons b l ih =>
  intro h
  by_cases hb : b = c
  ·subst hb; exact ⟨0, by simp [Lib.indexByte]⟩
  ·rw [List.count_cons_of_ne hb] at h
   obtain ⟨j, hj⟩ := ih h
   refine ⟨j + 1, ?_⟩
   have hb' : (b == c) = false := beq_eq_false_iff_ne.2 hb
   have hm' : (Lib.indexByte l c == -1) = false := beq_eq_false_iff_ne.2 (by omega)
   simp only [Lib.indexByte, hb', hm', hj]
   simp
theorem hid {p : Prop} (h : p) : Hid p := h
variable {P : Program} {ρ : Ren}
set_option maxHeartbeats 16000000 in
set_option maxRecDepth 1000000 in
theorem some_hit (L : Lays.n154 P ρ) (X : Builder.Extra P ρ) (s old new : ByteArray) (c : UInt8) (w : World) (ho : old = ⟨#[c]⟩) (hne : old ≠ new) (hc0 : s.data.toList.count c ≠ 0) (hs : s.size ≤ 1000000) (hn : new.size ≤ 1000000) :
  Calls P (ρ.f 154) #[.string s, .string old, .string new, .int .i64 (-1)] w fun e w' => e = .returned (.string ⟨(rep c new.data.toList s.data.toList).toArray⟩) ∧ Below w.heap.size w w' := by
 have hC : Calls P (ρ.f 138) #[.string s, .string old] w fun e w' => e = .returned (.int .i64 (Lib.countByte s.data.toList c)) ∧ w' = w := by rw [ho]; exact Any.strings_Count_one { L with } s c w
 have hI : ∀ (t : ByteArray) (W : World), Calls P (ρ.f 143) #[.string t, .string old] W fun e w' => e = .returned (.int .i64 (Lib.indexByte t.data.toList c)) ∧ w' = W := by intro t W; rw [ho]; exact Any.strings_Index_one { L with } t c W
 have h1 : old.size = 1 := by rw [ho]; rfl
 clear ho
 obtain ⟨K, hK⟩ : ∃ K : Nat, Lib.countByte s.data.toList c = K := ⟨_, rfl⟩
 have hKc : s.data.toList.count c = K := hK
 rw [hK] at hC
 rw [hKc] at hc0
 have hlenL : s.data.toList.length = s.size := (Lib.size_eq s).symm
 have hKs : K ≤ s.size := by rw [← hKc, ← hlenL]; exact List.count_le_length
 have hbeq : (old.toList == new.toList) = false := (Lib.bytes_beq_false_iff old new).2 hne
 have hcz : ((K : Int) == 0) = false := beq_eq_false_iff_ne.2 (by omega)
 have hmul : K * new.size ≤ 1000000000000 := Nat.le_trans (Nat.mul_le_mul hKs (Nat.le_refl _)) (Nat.le_trans (Nat.mul_le_mul hs hn) (by omega))
 have hga := Lib.grow_arg s.size K new.size old.size (by omega) (by rw [h1]; omega) (by omega)
 have hod : decide (0 < old.size) = true := decide_eq_true (by omega)
 have ho0 : (0 : Int) < (old.size : Int) := by omega
 have hone := hid h1
 have hroom : s.size + K * new.size - K * old.size ≤ 1000001000000 := by omega
 clear h1
 have mixed := L.mixed
 have t72 := L.t72; have a72 := L.a72; have z72 := L.z72; have v72 := L.v72; have u72 := run_underlying L.t72
 have t70 := L.t70; have a70 := L.a70; have z70 := L.z70; have v70 := L.v70; have u70 := run_underlying L.t70
 have t37 := L.t37; have a37 := L.a37; have z37 := L.z37; have v37 := L.v37; have u37 := run_underlying L.t37
 have t3 := L.t3; have a3 := L.a3; have z3 := L.z3; have v3 := L.v3; have u3 := run_underlying L.t3
 have t9 := L.t9; have a9 := L.a9; have z9 := L.z9; have v9 := L.v9; have u9 := run_underlying L.t9
 have t4 := L.t4; have a4 := L.a4; have z4 := L.z4; have v4 := L.v4; have u4 := run_underlying L.t4
 have e138 : ∀ args w, (callFunc (ρ.f 138) args).run P w = .ok (.enter (ρ.f 138) args) w := enters_of L.f138 (by kernel_rfl) rfl
 have e143 : ∀ args w, (callFunc (ρ.f 143) args).run P w = .ok (.enter (ρ.f 143) args) w := enters_of L.f143 (by kernel_rfl) rfl
 have e165 : ∀ args w, (callFunc (ρ.f 165) args).run P w = .ok (.enter (ρ.f 165) args) w := enters_of L.f165 (by kernel_rfl) rfl
 have e166 : ∀ args w, (callFunc (ρ.f 166) args).run P w = .ok (.enter (ρ.f 166) args) w := enters_of L.f166 (by kernel_rfl) rfl
 have e169 : ∀ args w, (callFunc (ρ.f 169) args).run P w = .ok (.enter (ρ.f 169) args) w := enters_of L.f169 (by kernel_rfl) rfl
 go_enter L.f154, Body.n154_ntmps ρ
 go_wp2_with (first | (go_at_fn (ρ.f 138); refine hC.mono ?_; rintro e w' ⟨rfl, hw⟩; rw [hw]))
 clear hC
 try rw [hga]
 refine (Any.Builder_Grow_fresh { L with } X w.heap.size w.heap.size _ _ (Nat.le_refl _) (heap_alloc_new w _) (by simp) (by omega)).mono ?_
 rintro e w1 ⟨rfl, hb0, hb1⟩
 have H1 := hid (Or.inr hb0 : Lib.IsBuilder (ρ.t 72) (ρ.t 5) w.heap.size w.heap.size (Lib.byteCells []) w1)
 have Hb1 := hid (((Below.refl w.heap.size w).alloc (Nat.le_refl _) _).trans hb1)
 clear hb0 hb1 hga
 go_wp2_with fail
 go_loopg [11, 53] K (fun g s11 s53 wx => ∃ (i start : Nat) (acc : List UInt8), s53 = .int .i64 i ∧ s11 = .int .i64 start ∧ i + g = K ∧ start ≤ s.size ∧ Hid (Lib.IsBuilder (ρ.t 72) (ρ.t 5) w.heap.size w.heap.size (Lib.byteCells acc) wx) ∧ Hid (Below w.heap.size w wx) ∧
  Hid (acc ++ rep c new.data.toList (s.data.toList.drop start) = rep c new.data.toList s.data.toList) ∧ (s.data.toList.drop start).count c = g ∧ acc.length ≤ start + i * new.size)
 case atStart => exact ⟨0, 0, [], rfl, rfl, by omega, Nat.zero_le _, H1, Hb1, hid (by simp), by simpa using hKc, by simp⟩
 case round =>
  obtain ⟨i, start, acc, rfl, rfl, hig, hst, HB, HW, HR, hgc, hbd⟩ := hrel
  have hBw : w.heap.size ≤ wr.heap.size := HW.out.size
  have c1 : (0 : Int) ≤ (start : Int) := by omega
  have c2 : (start : Int) ≤ (s.size : Int) := by omega
  have hin : i * new.size ≤ 1000000000000 := Nat.le_trans (Nat.mul_le_mul (show i ≤ K by omega) (Nat.le_refl _)) hmul
  cases gk with
  | zero =>
   have hiK : ¬ ((i : Int) < (K : Int)) := by omega
   go_wp2_with fail
   refine (Any.Builder_WriteString { L with } X w.heap.size w.heap.size _ _ wr HB.out (by rw [Lib.byteCells_length, ByteArray.size_extract]; omega) hBw).mono ?_
   rintro e w3 ⟨rfl, h3, hb3⟩
   rw [Lib.strCells_eq, Lib.extract_to_end, ← Lib.byteCells_append] at h3
   have hfin : acc ++ s.data.toList.drop start = rep c new.data.toList s.data.toList := by
    rw [← HR.out, rep_miss c _ _ hgc]
   rw [hfin] at h3
   have H3 := hid (Or.inr h3 : Lib.IsBuilder (ρ.t 72) (ρ.t 5) w.heap.size w.heap.size _ w3)
   have Hb3 := hid (HW.out.trans hb3)
   have hBw3 : w.heap.size ≤ w3.heap.size := Hb3.out.size
   clear h3 hb3 hfin
   go_wp2_with fail
   refine (Any.Builder_String_any { L with } X w.heap.size w.heap.size _ w3 H3.out hBw3).mono ?_
   rintro e w5 ⟨rfl, hb5⟩
   have Hb5 := hid (Hb3.out.trans hb5)
   clear hb5
   go_wp2
   go_ret
   exact ⟨rfl, Hb5.out⟩
  | succ g =>
   have hiK : (i : Int) < (K : Int) := by omega
   obtain ⟨j, hj⟩ := hit_of_count c (s.data.toList.drop start) (by omega)
   obtain ⟨hr1, hr2, hr3⟩ := rep_hit c new.data.toList _ j hj
   rw [List.length_drop, hlenL] at hr1
   have hsucc : (i + 1) * new.size = i * new.size + new.size := Nat.succ_mul _ _
   have c3 : (start : Int) ≤ (start : Int) + (j : Int) := by omega
   have c4 : (start : Int) + (j : Int) ≤ (s.size : Int) := by omega
   have hnext : Lib.byteCells acc ++ Lib.strCells (s.extract start (start + j)) ++ Lib.strCells new = Lib.byteCells (acc ++ (s.data.toList.drop start).take j ++ new.data.toList) := by
    rw [Lib.strCells_eq, Lib.strCells_eq, Lib.extract_data, Nat.add_sub_cancel_left, ← Lib.byteCells_append, ← Lib.byteCells_append]
   have hdd : (s.data.toList.drop start).drop (j + 1) = s.data.toList.drop (start + j + old.size) := by rw [List.drop_drop, hone.out, Nat.add_assoc]
   rw [hdd] at hr2 hr3
   have hrep : (acc ++ (s.data.toList.drop start).take j ++ new.data.toList) ++ rep c new.data.toList (s.data.toList.drop (start + j + old.size)) = rep c new.data.toList s.data.toList := by
    rw [← HR.out, hr2]
    simp only [List.append_assoc]
   have h1 := hone.out
   have hcnt : (s.data.toList.drop (start + j + old.size)).count c = g := by omega
   have htl : ((s.data.toList.drop start).take j).length = j := by rw [List.length_take, List.length_drop, hlenL]; omega
   have Hn := hid hnext
   have Hrep := hid hrep
   have hI2 := hid (hI (s.extract start s.size) wr)
   have hst2 : start + j + old.size ≤ s.size := by omega
   clear hnext hrep HR hr2 hr3 hdd h1
   go_wp2_with (first | (go_at_fn (ρ.f 143); refine (hI _ _).mono ?_; rintro e w' ⟨rfl, hw⟩; rw [hw, Lib.extract_to_end, hj]))
   refine (Any.Builder_WriteString { L with } X w.heap.size w.heap.size _ (s.extract start (start + j)) wr HB.out (by rw [Lib.byteCells_length, ByteArray.size_extract]; omega) hBw).mono ?_
   rintro e w3 ⟨rfl, h3, hb3⟩
   have hBw3 : w.heap.size ≤ w3.heap.size := Nat.le_trans hBw hb3.size
   have H3 := hid h3
   have Hb3 := hid hb3
   clear h3 hb3
   go_wp2_with fail
   refine (Any.Builder_WriteString { L with } X w.heap.size w.heap.size _ new w3 (Or.inr H3.out) (by rw [List.length_append, Lib.byteCells_length, Lib.strCells_length, ByteArray.size_extract]; omega) hBw3).mono ?_
   rintro e w4 ⟨rfl, h4, hb4⟩
   rw [Hn.out] at h4
   have H4 := hid (Or.inr h4 : Lib.IsBuilder (ρ.t 72) (ρ.t 5) w.heap.size w.heap.size _ w4)
   have Hb4 := hid ((HW.out.trans Hb3.out).trans hb4)
   clear h4 hb4
   go_wp2
   go_roundg g
   case measure => omega
   case rel => exact ⟨i + 1, start + j + old.size, _, by first | rfl | (simp; unfold wrap64; omega), by first | rfl | simp | (simp; unfold wrap64; omega), by omega, by omega, H4, Hb4, Hrep, hcnt, by simp only [List.length_append, htl, ← Lib.size_eq]; omega⟩
set_option maxHeartbeats 4000000 in
set_option maxRecDepth 1000000 in
theorem no_hit (L : Lays.n154 P ρ) (s old new : ByteArray) (c : UInt8) (w : World) (ho : old = ⟨#[c]⟩) (hne : old ≠ new) (hc0 : s.data.toList.count c = 0) :
  Calls P (ρ.f 154) #[.string s, .string old, .string new, .int .i64 (-1)] w fun e w' => e = .returned (.string s) ∧ w' = w := by
 have hC : Calls P (ρ.f 138) #[.string s, .string old] w fun e w' => e = .returned (.int .i64 ((0 : Nat) : Int)) ∧ w' = w := by
  have := Any.strings_Count_one { L with } s c w
  rw [show Lib.countByte s.data.toList c = 0 from hc0] at this
  rw [ho]; exact this
 have hbeq : (old.toList == new.toList) = false := (Lib.bytes_beq_false_iff old new).2 hne
 have t3 := L.t3; have a3 := L.a3; have z3 := L.z3; have v3 := L.v3
 have t9 := L.t9; have a9 := L.a9; have z9 := L.z9; have v9 := L.v9
 have t4 := L.t4; have a4 := L.a4; have z4 := L.z4; have v4 := L.v4
 have e138 : ∀ args w, (callFunc (ρ.f 138) args).run P w = .ok (.enter (ρ.f 138) args) w := enters_of L.f138 (by kernel_rfl) rfl
 clear ho
 go_enter L.f154, Body.n154_ntmps ρ
 go_wp2_with (first | (go_at_fn (ρ.f 138); refine hC.mono ?_; rintro e w' ⟨rfl, hw⟩; rw [hw]))
 go_ret
 exact ⟨rfl, rfl⟩
set_option maxHeartbeats 4000000 in
set_option maxRecDepth 1000000 in
theorem all (L : Lays.n155 P ρ) (X : Builder.Extra P ρ) (s old new : ByteArray) (c : UInt8) (w : World) (ho : old = ⟨#[c]⟩) (hne : old ≠ new) (hs : s.size ≤ 1000000) (hn : new.size ≤ 1000000) :
  Calls P (ρ.f 155) #[.string s, .string old, .string new] w fun e w' => e = .returned (.string ⟨(rep c new.data.toList s.data.toList).toArray⟩) ∧ Below w.heap.size w w' := by
 have hR : Calls P (ρ.f 154) #[.string s, .string old, .string new, .int .i64 (-1)] w fun e w' => e = .returned (.string ⟨(rep c new.data.toList s.data.toList).toArray⟩) ∧ Below w.heap.size w w' := by
  by_cases h0 : s.data.toList.count c = 0
  ·refine (no_hit { L with } s old new c w ho hne h0).mono fun e w' ⟨h1, h2⟩ => ⟨?_, h2 ▸ Below.refl _ _⟩
   rw [h1, rep_miss c _ _ h0, Lib.mk_data]
  ·exact some_hit { L with } X s old new c w ho hne h0 hs hn
 have t3 := L.t3; have a3 := L.a3; have z3 := L.z3; have v3 := L.v3
 have t9 := L.t9; have a9 := L.a9; have z9 := L.z9; have v9 := L.v9
 have e154 : ∀ args w, (callFunc (ρ.f 154) args).run P w = .ok (.enter (ρ.f 154) args) w := enters_of L.f154 (by kernel_rfl) rfl
 clear ho
 go_enter L.f155, Body.n155_ntmps ρ
 go_wp2_with (go_at_fn (ρ.f 154); refine hR.mono ?_; rintro e w' ⟨rfl, hw⟩)
 go_ret
 exact ⟨rfl, hw⟩
end Go.Proofs.YthhkkhnjkoacnaaDoor.QR
end
section
namespace Go.Proofs.YthhkkhnjkoacnaaDoor.QS
open Go.Shelf
def lays155_ren : Go.Shelf.Ren := ⟨fun | 155 => 60 | 154 => 80 | 138 => 92 | 165 => 93 | 143 => 94 | 166 => 95 | 197 => 96 | 169 => 97 | 195 => 104 | 218 => 105 | 240 => 106 | 241 => 107 | 219 => 108 | 260 => 109 | 276 => 114 | 277 => 115 | 217 => 116 | 225 => 117 | 224 => 118 | 267 => 119 | 266 => 125 | 314 => 126 | n => n, fun | 9 => 9 | 3 => 3 | 4 => 4 | 72 => 113 | 0 => 0 | 76 => 117 | 105 => 119 | 21 => 21 | 5 => 5 | 70 => 111 | 20 => 20 | 37 => 48 | 75 => 116 | 127 => 127 | 164 => 133 | 46 => 86 | 119 => 136 | 139 => 139 | 138 => 138 | 146 => 145 | 51 => 142 | 80 => 62 | n => n, fun | 1 => 0 | 3 => 1 | 4 => 2 | n => n⟩
theorem lays155 : Go.Proofs.Lays.n155 Tryd.prog lays155_ren := {
 mixed := by kernel_rfl
 f138 := Tryd.func92.trans (congrArg some (by kernel_rfl))
 f143 := Tryd.func94.trans (congrArg some (by kernel_rfl))
 f154 := Tryd.func80.trans (congrArg some (by kernel_rfl))
 f155 := Tryd.func60.trans (congrArg some (by kernel_rfl))
 f165 := Tryd.func93.trans (congrArg some (by kernel_rfl))
 f166 := Tryd.func95.trans (congrArg some (by kernel_rfl))
 f169 := Tryd.func97.trans (congrArg some (by kernel_rfl))
 f195 := Tryd.func104.trans (congrArg some (by kernel_rfl))
 f197 := Tryd.func96.trans (congrArg some (by kernel_rfl))
 f217 := Tryd.func116.trans (congrArg some (by kernel_rfl))
 f218 := Tryd.func105.trans (congrArg some (by kernel_rfl))
 f219 := Tryd.func108.trans (congrArg some (by kernel_rfl))
 f224 := Tryd.func118.trans (congrArg some (by kernel_rfl))
 f225 := Tryd.func117.trans (congrArg some (by kernel_rfl))
 f240 := Tryd.func106.trans (congrArg some (by kernel_rfl))
 f241 := Tryd.func107.trans (congrArg some (by kernel_rfl))
 f260 := Tryd.func109.trans (congrArg some (by kernel_rfl))
 f266 := Tryd.func125.trans (congrArg some (by kernel_rfl))
 f267 := Tryd.func119.trans (congrArg some (by kernel_rfl))
 f276 := Tryd.func114.trans (congrArg some (by kernel_rfl))
 f277 := Tryd.func115.trans (congrArg some (by kernel_rfl))
 f314 := Tryd.func126.trans (congrArg some (by kernel_rfl))
 t0 := Tryd.underlying0
 a0 := Tryd.isAgg0
 z0 := Tryd.sizeOf0
 v0 := Tryd.zeroValue0
 t3 := Tryd.underlying3
 a3 := Tryd.isAgg3
 z3 := Tryd.sizeOf3
 v3 := Tryd.zeroValue3
 t4 := Tryd.underlying4
 a4 := Tryd.isAgg4
 z4 := Tryd.sizeOf4
 v4 := Tryd.zeroValue4
 t5 := Tryd.underlying5
 a5 := Tryd.isAgg5
 z5 := Tryd.sizeOf5
 v5 := Tryd.zeroValue5
 t9 := Tryd.underlying9
 a9 := Tryd.isAgg9
 z9 := Tryd.sizeOf9
 v9 := Tryd.zeroValue9
 t20 := Tryd.underlying20
 a20 := Tryd.isAgg20
 z20 := Tryd.sizeOf20
 v20 := Tryd.zeroValue20
 t21 := Tryd.underlying21
 a21 := Tryd.isAgg21
 z21 := Tryd.sizeOf21
 v21 := Tryd.zeroValue21
 t37 := Tryd.underlying48
 a37 := Tryd.isAgg48
 z37 := Tryd.sizeOf48
 v37 := Tryd.zeroValue48
 t46 := Tryd.underlying86
 a46 := Tryd.isAgg86
 z46 := Tryd.sizeOf86
 v46 := Tryd.zeroValue86
 t51 := Tryd.underlying142
 a51 := Tryd.isAgg142
 z51 := Tryd.sizeOf142
 v51 := Tryd.zeroValue142
 t70 := Tryd.underlying111
 a70 := Tryd.isAgg111
 z70 := Tryd.sizeOf111
 v70 := Tryd.zeroValue111
 t72 := Tryd.underlying113
 a72 := Tryd.isAgg113
 z72 := Tryd.sizeOf113
 v72 := Tryd.zeroValue113
 t75 := Tryd.underlying116
 a75 := Tryd.isAgg116
 z75 := Tryd.sizeOf116
 v75 := Tryd.zeroValue116
 t76 := Tryd.underlying117
 a76 := Tryd.isAgg117
 z76 := Tryd.sizeOf117
 v76 := Tryd.zeroValue117
 t105 := Tryd.underlying119
 a105 := Tryd.isAgg119
 z105 := Tryd.sizeOf119
 v105 := Tryd.zeroValue119
 t119 := Tryd.underlying136
 a119 := Tryd.isAgg136
 z119 := Tryd.sizeOf136
 t127 := Tryd.underlying127
 a127 := Tryd.isAgg127
 z127 := Tryd.sizeOf127
 v127 := Tryd.zeroValue127
 t138 := Tryd.underlying138
 a138 := Tryd.isAgg138
 z138 := Tryd.sizeOf138
 v138 := Tryd.zeroValue138
 t139 := Tryd.underlying139
 a139 := Tryd.isAgg139
 z139 := Tryd.sizeOf139
 v139 := Tryd.zeroValue139
 t146 := Tryd.underlying145
 a146 := Tryd.isAgg145
 z146 := Tryd.sizeOf145
 v146 := Tryd.zeroValue145
 t164 := Tryd.underlying133
 a164 := Tryd.isAgg133
 z164 := Tryd.sizeOf133
 v164 := Tryd.zeroValue133
 g1 := by kernel_rfl
 g3 := by kernel_rfl
 g4 := by kernel_rfl }
theorem Builder_Extra_155 : Builder.Extra Tryd.prog lays155_ren := {
 sizeBuilder := by kernel_rfl
 liesBuilder := by kernel_rfl
 t5 := Tryd.underlying5
 a5 := Tryd.isAgg5
 z5 := Tryd.sizeOf5
 v5 := Tryd.zeroValue5
 infoByte := by kernel_rfl
 cellsByte := by kernel_rfl
 sizeByte := by kernel_rfl
 neB5 := by decide }
def lays106_ren : Go.Shelf.Ren := ⟨fun | 106 => 74 | 213 => 91 | 265 => 103 | n => n, fun | 9 => 9 | 3 => 3 | n => n, fun | n => n⟩
theorem lays106 : Go.Proofs.Lays.n106 Tryd.prog lays106_ren := {
 mixed := by kernel_rfl
 f106 := Tryd.func74.trans (congrArg some (by kernel_rfl))
 f213 := Tryd.func91.trans (congrArg some (by kernel_rfl))
 f265 := Tryd.func103.trans (congrArg some (by kernel_rfl))
 t3 := Tryd.underlying3
 a3 := Tryd.isAgg3
 z3 := Tryd.sizeOf3
 v3 := Tryd.zeroValue3
 t9 := Tryd.underlying9
 a9 := Tryd.isAgg9
 z9 := Tryd.sizeOf9
 v9 := Tryd.zeroValue9 }
end Go.Proofs.YthhkkhnjkoacnaaDoor.QS
end
section
namespace Go.Proofs.YthhkkhnjkoacnaaDoor.PA
open Go.RowKit Go.Proofs.YthhkkhnjkoacnaaDoorW.PrintWords Go.Proofs.YthhkkhnjkoacnaaDoorW.PrintLast Go.Proofs.YthhkkhnjkoacnaaDoorW.PrintMore
attribute [local go_sem] max2_int min2_int max_two min_two max_three min_three max_four min_four
set_option linter.unusedVariables false
set_option linter.unusedSimpArgs false
set_option maxHeartbeats 60000000
set_option maxRecDepth 100000
theorem less_none : ∀ a : List UInt8, Op.bytesLess a a = false := by
 intro a
 induction a with
 | nil => rfl
 | cons x a ih => simp [Op.bytesLess, ih]
theorem less_three : ∀ a b : List UInt8, Op.bytesLess a b = false → Op.bytesLess b a = false → a = b := by
 intro a
 induction a with
 | nil => intro b h1 h2; cases b with
  | nil => rfl
  | cons y b => simp [Op.bytesLess] at h1
 | cons x a ih => intro b h1 h2; cases b with
  | nil => simp [Op.bytesLess] at h2
  | cons y b =>
   simp only [Op.bytesLess, Bool.or_eq_false_iff, decide_eq_false_iff_not] at h1 h2
   have e : x = y := UInt8.le_antisymm (UInt8.not_lt.1 h2.1) (UInt8.not_lt.1 h1.1)
   subst e
   simp only [beq_self_eq_true, Bool.true_and] at h1 h2
   rw [ih b h1.2 h2.2]
theorem less_both : ∀ a b : List UInt8, Op.bytesLess b a = true → Op.bytesLess a b = false := by
 intro a
 induction a with
 | nil => intro b h; cases b <;> simp [Op.bytesLess] at h
 | cons x a ih => intro b h; cases b with
  | nil => rfl
  | cons y b =>
   simp only [Op.bytesLess, Bool.or_eq_true, Bool.and_eq_true, decide_eq_true_eq, beq_iff_eq] at h
   simp only [Op.bytesLess, Bool.or_eq_false_iff, decide_eq_false_iff_not]
   rcases h with h | ⟨e, h⟩
   ·exact ⟨fun h2 => UInt8.lt_irrefl _ (UInt8.lt_trans h h2), by rw [beq_eq_false_iff_ne.2 (fun e => by subst e; exact UInt8.lt_irrefl _ h)]; rfl⟩
   ·subst e; exact ⟨UInt8.lt_irrefl _, by rw [ih b h]; simp⟩
theorem gtr_eq (a b : List UInt8) : (!Op.bytesLess a b && !(a == b)) = Op.bytesLess b a := by
 cases h : Op.bytesLess b a with
 | true =>
  rw [less_both a b h, beq_eq_false_iff_ne.2 (fun e => by subst e; rw [less_none] at h; cases h)]
  rfl
 | false =>
  cases h2 : Op.bytesLess a b with
  | true => rfl
  | false => rw [less_three a b h2 h]; simp
theorem ne_of_less {a b : List UInt8} (h : Op.bytesLess b a = true) : (a == b) = false := beq_eq_false_iff_ne.2 (fun e => by subst e; rw [less_none] at h; cases h)
theorem eq_of_not {a b : List UInt8} (h1 : Op.bytesLess a b = false) (h2 : Op.bytesLess b a = false) : (a == b) = true := by rw [less_three a b h1 h2]; simp
theorem zA : ∀ {p : Prop}, p → Aside0 p := @Aside0.mk
theorem zB : ∀ (w : World) (a : Addr) {u : Value}, World.cell? w a = some u → Addr.block a < w.heap.size := @World.block_lt_of_cell?
theorem zC : ∀ {α : Type _} (l : List α) (i : Nat) (a : α), Array.setIfInBounds (List.toArray l) i a = List.toArray (List.set l i a) := @List.setIfInBounds_toArray
theorem zD : ∀ {α : Type _} {x : α} {xs : List α} {a : α}, List.set (x :: xs) 0 a = a :: xs := @List.set_cons_zero
theorem zE : ∀ {α : Type _} {x : α} {xs : List α} {i : Nat} {a : α}, List.set (x :: xs) (i + 1) a = x :: List.set xs i a := @List.set_cons_succ
theorem zF : ∀ {B : Nat} {w W : World}, Below B w W → ∀ (n : Nat), Below B w (World.drewN W n) := @pw_below_drewN
theorem zG : ∀ {base : Nat} {w W : World}, Below base w W → Below base w (World.drew W) := @below_drew1
theorem zH : ∀ {w W : World}, Below (w.heap.size) w W → ∀ (o : Obj), Below (w.heap.size) w (World.alloc W o) := @below_alloc
theorem zI : ∀ {w W : World} {g j : Nat} {v : Value}, Below (w.heap.size) w W → w.heap.size ≤ g → Below (w.heap.size) w (World.setCell W { block := g, off := j } v) := @below_set
theorem zK : ∀ {a b : Nat}, a < b → a ≠ b := @Nat.ne_of_lt
theorem zL : ∀ {w : World} {g : Nat} {o : Obj}, w.heap[g]? = some o → ∀ (n : Nat), (World.heap (World.drewN w n))[g]? = some o := @blk_drewN
theorem zM : ∀ {w : World} {g : Nat} {o : Obj}, w.heap[g]? = some o → ∀ (o' : Obj), (World.heap (World.alloc w o'))[g]? = some o := @blk_alloc
theorem zN : ∀ {w : World} {g : Nat} {o : Obj}, w.heap[g]? = some o → (World.heap (World.drew w))[g]? = some o := @blk_drew
theorem zO : ∀ {w : World} {g : Nat} {t : TypeId} {cs : Array Value}, w.heap[g]? = some (Obj.cells cs t) → ∀ (i : Nat), World.frozen? w { block := g, off := i } = false := @blk_frozen
theorem zP : ∀ {w : World} {g : Nat} {t : TypeId} {cs : Array Value}, w.heap[g]? = some (Obj.cells cs t) → ∀ (i : Nat), World.cell? w { block := g, off := i } = cs[i]? := @blk_cell
theorem zQ : ∀ {α : Type} {d : Kd α} {e : Nat} {w : World} {base : Nat} {ok : Nat → Prop} {v : Value} {xs : List α}, Kd.R d e w base ok v xs → ∀ (o : Obj), Kd.R d e (World.alloc w o) base ok v xs := @Kd.R_alloc
theorem zR : ∀ {α : Type} {d : Kd α} {e : Nat} {w : World} {base : Nat} {ok : Nat → Prop} {v : Value} {xs : List α}, Kd.R d e w base ok v xs → ∀ (m : Nat), Kd.R d e (World.drewN w m) base ok v xs := @Kd.R_drewN
theorem zS : ∀ {α : Type} {d : Kd α} {e : Nat} {w : World} {base : Nat} {ok : Nat → Prop} {v : Value} {xs : List α}, Kd.R d e w base ok v xs → Kd.R d e (World.drew w) base ok v xs := @Kd.R_drew
theorem zT : ∀ {α : Type} {d : Kd α} {w : World} {xs : List α} {A : Option Addr} {n : Nat}, Kd.C d w A n xs → ∀ (o : Obj), Kd.C d (World.alloc w o) A n xs := @Kd.C_alloc
theorem zU : ∀ {α : Type} {d : Kd α} {w : World} {xs : List α} {A : Option Addr} {n : Nat}, Kd.C d w A n xs → ∀ (m : Nat), Kd.C d (World.drewN w m) A n xs := @Kd.C_drewN
theorem zV : ∀ {α : Type} {d : Kd α} {w : World} {xs : List α} {A : Option Addr} {n : Nat}, Kd.C d w A n xs → Kd.C d (World.drew w) A n xs := @Kd.C_drew
theorem zW : ∀ {p : Prop} [inst : Decidable p], decide p = true → p := @of_decide_eq_true
theorem zX : ∀ {p : Prop} [inst : Decidable p], p → decide p = true := @decide_eq_true
theorem zY : ∀ {α : Type _} {i : Nat} {l : List α}, List.length (List.take i l) = Min.min i (List.length l) := @List.length_take
theorem zZ : ∀ {α : Type _} {i : Nat} {l : List α}, List.length (List.drop i l) = List.length l - i := @List.length_drop
theorem zAA : ∀ {α : Type _} {β : Type _} {f : α → β} {l : List α}, Array.map f (List.toArray l) = List.toArray (List.map f l) := @List.map_toArray
theorem zAB : ∀ {α : Type _} {β : Type _} {f : α → β} {a : α} {l : List α}, List.map f (a :: l) = f a :: List.map f l := @List.map_cons
theorem zAC : ∀ {α : Type _} {β : Type _} {f : α → β}, List.map f [] = [] := @List.map_nil
theorem zAD : ∀ {w W w2 : World}, Below (w.heap.size) w W → Below (W.heap.size) W w2 → Below (w.heap.size) w w2 := @below_step
theorem zAE : ∀ {w W : World}, Below (w.heap.size) w W → w.heap.size ≤ W.heap.size := @below_size
theorem zAF {α β : Type} {o : Option α} {f : α → Option β} {b : β} (h : o.bind f = some b) : ∃ a, o = some a ∧ f a = some b := Option.bind_eq_some_iff.mp h
def errW : Option Int → Value
 | none => .nilIface
 | some c => .iface 0 (.int .i64 c)
theorem errW_none : errW none = .nilIface := rfl
theorem errW_some (c : Int) : errW (some c) = .iface 0 (.int .i64 c) := rfl
theorem info5 : (Tryd.prog.info? 5).map (fun i => (i.zero, i.size, i.bytes)) = some (some (.int .u8 0), 1, 1) := by kernel_rfl
theorem info27 : (Tryd.prog.info? 27).map (fun i => (i.zero, i.size, i.bytes)) = some (some (.agg #[(.int .i64 0), (.int .i64 0), (.string ⟨#[]⟩)]), 3, 32) := by kernel_rfl
structure S27 where
 f0 : Int
 f1 : Int
 f2 : ByteArray
def z27 : S27 := ⟨(0 : Int), (0 : Int), (⟨#[]⟩ : ByteArray)⟩
def k27 : Kd S27 := Kd.iso (Kd.pair (Kd.int .i64) (Kd.pair (Kd.int .i64) Kd.string)) (fun x : S27 => (x.f0, x.f1, x.f2))
theorem k27_open {w : World} {x : S27} {cs : List Value} (h : k27.K w x cs) : cs = [.int .i64 x.f0, .int .i64 x.f1, .string x.f2] := by
 obtain ⟨_, _, rfl, rfl, ⟨_, _, rfl, rfl, rfl⟩⟩ := h
 exact rfl
theorem k27_mkM (w : World) (base : Nat) (ok : Nat → Prop) (x : S27)  : k27.M w base ok x [.int .i64 x.f0, .int .i64 x.f1, .string x.f2] := ⟨[.int .i64 x.f0], [.int .i64 x.f1, .string x.f2], rfl, rfl, ⟨[.int .i64 x.f1], [.string x.f2], rfl, rfl, rfl⟩⟩
def rd_T27 (xs : List S27) (i : Int) : S27 := xs.getD i.toNat z27
theorem at_T27 {w : World} {A : Option Addr} {n : Nat} {xs : List S27} (h : Kd.C k27 w A n xs) (i : Int) (h0 : 0 ≤ i) (h1 : i < n) : ∃ ad , A = some ad ∧ w.cell? (ad.add (i.toNat * 3)) = some (.int .i64 (rd_T27 xs i).f0) ∧ w.cell? ⟨(ad.add (i.toNat * 3)).block, (ad.add (i.toNat * 3)).off + 1, none⟩ = some (.int .i64 (rd_T27 xs i).f1) ∧ w.cell? ⟨(ad.add (i.toNat * 3)).block, (ad.add (i.toNat * 3)).off + 2, none⟩ = some (.string (rd_T27 xs i).f2) := by
 obtain ⟨ad, c, e, _, hK, hc0⟩ := Kd.C_get h z27 i h0 h1
 have hc : ∀ j u, c[j]? = some u → w.cell? (ad.add (i.toNat * 3 + j)) = some u := hc0
 obtain rfl := k27_open hK
 exact ⟨ad, e, hc 0 _ rfl, by rw [← add_field _ _ 1 (by omega)]; exact hc 1 _ rfl, by rw [← add_field _ _ 2 (by omega)]; exact hc 2 _ rfl⟩
theorem yA : ∀ (a : Addr) (i : Nat), Addr.block (Addr.add a i) = Addr.block a := @add_block
theorem yB : ∀ {P : Program} {ops : Array Oper} {rest : List Oper} {o : Oper} {a : Act} {Q : Exit → Act → World → Prop} {W : World} {f : FuncId} {«as» : Array Operand} {ts : Array TypeId}, Oper.op o = Op.call { callee := Callee.value (Operand.func f), args := «as», argTypes := ts } → wpList P ops Q (o :: rest) a W → wpList P ops Q (o :: rest) a W := @gate_callee
theorem yC : ∀ {α : Type} {d : Kd α} {e : Nat} {w : World} {base : Nat} {ok ok' : Nat → Prop} {v : Value} {xs : List α}, Kd.R d e w base ok v xs → (∀ (k : Nat), ok k → ok' k) → Kd.R d e w base ok' v xs := @Kd.R_mono
theorem yD : ∀ {α : Type} {d : Kd α} {e : Nat} {w : World} {base : Nat} {ok : Nat → Prop} {xs : List α} {A : Option Addr} {n c : Nat}, Kd.R d e w base ok (Value.slice A n c) xs → n = List.length xs ∧ n ≤ c ∧ Kd.C d w A (List.length xs) xs := @Kd.R_reads'
theorem yE : ∀ {w w1 : World} {g : Nat} {o : Obj}, w.heap[g]? = some o → Below (w.heap.size) w w1 → w1.heap[g]? = some o := @blk_below
theorem yF : ∀ {W : World} {p a : Addr}, Addr.block a ≠ Addr.block p → ∀ (u : Value), World.cell? (World.setCell W p u) a = World.cell? W a := @cell_far
theorem yG : ∀ {α : Type} {d : Kd α} {e : Nat} {w w1 : World} {base : Nat} {ok : Nat → Prop} {v : Value} {xs : List α}, Kd.R d e w base ok v xs → ∀ {g : Nat}, KeepBut w w1 g Option.none → (∀ (k : Nat), ok k → k ≠ g) → Kd.R d e w1 base ok v xs := @Kd.R_keep
theorem yH : ∀ {w w1 w2 : World} {g : Nat} {row row1 : Option Nat}, KeepBut w w1 g row → KeepBut w1 w2 g row1 → (row1 = row ∨ ∃ b, row1 = some b ∧ w.heap.size ≤ b) → KeepBut w w2 g row := @KeepBut.trans
theorem yI : ∀ {w w1 : World}, Below (w.heap.size) w w1 → ∀ (g : Nat) (row : Option Nat), KeepBut w w1 g row := @KeepBut.of_below
theorem yJ : ∀ {α : Type} {d : Kd α} {e : Nat} {w1 W : World} {base : Nat} {ok : Nat → Prop} {u v : Value} {xs : List α}, Kd.R d e W base ok u xs → (∀ (k : Nat), Value.ownBlock v = some k → W.heap.size ≤ k) → Below (W.heap.size) W w1 → Kd.R d e w1 base (fun k => ok k ∧ some k ≠ Value.ownBlock v) u xs := @Kd.R_elder'
theorem yK : ∀ {α : Type} {d : Kd α} {e : Nat} {w1 W : World} {ok : Nat → Prop} {u v : Value} {xs : List α}, Kd.R d e w1 (W.heap.size) ok v xs → (∀ (k : Nat), Value.ownBlock u = some k → k < W.heap.size) → Kd.R d e w1 (W.heap.size) (fun k => ok k ∧ some k ≠ Value.ownBlock u) v xs := @Kd.R_new'
theorem eqA27 (d : Nat) (w : World) (x0 y0 : Int) (x1 y1 : Int) (x2 y2 : ByteArray) :
  (Op.equalIn (d + 2) 27 (.agg #[.int .i64 x0, .int .i64 x1, .string x2]) (.agg #[.int .i64 y0, .int .i64 y1, .string y2])).run Tryd.prog w = .ok (x0 == y0 && (x1 == y1 && (x2.toList == y2.toList))) w := by
 refine eqA_of Tryd.underlying27 (by kernel_rfl) ?_
 refine eqf_cons (by rfl) (by go_simp; rfl) (by go_simp; rfl) (by go_simp) ?_
 refine eqf_cons (by rfl) (by go_simp; rfl) (by go_simp; rfl) (by go_simp) ?_
 exact eqf_last (by rfl) (by go_simp; rfl) (by go_simp; rfl) (by go_simp)
def spec_l1In.f (a0 : Int) (a1 : Int) (a2 : Int) : Option (Bool) := if a0 ≥ a1 then (some (decide (a0 ≤ a2))) else (some false)
theorem spec_l1In.calls (a0 : Int) (a1 : Int) (a2 : Int) (r : Bool) (w : World) (h : spec_l1In.f a0 a1 a2 = some r) :
  Calls Tryd.prog 37 #[.int .i64 a0, .int .i64 a1, .int .i64 a2] w fun e w' => e = .returned (.bool r) ∧ Drawn0 w w' := by
 have H : (if a0 ≥ a1 then (some (decide (a0 ≤ a2))) else (some false)) = some r := h; clear h
 by_cases c4 : a0 ≥ a1
 ·rw [if_pos c4] at H
  have c4b0 : decide (a1 ≤ a0) = true := zX c4; clear c4; obtain rfl := Option.some.inj H; go_enter Tryd.func37, Tryd.ntmps37; go_wp2; go_ret; exact ⟨by first | rfl | (simp; done) | (simp [*]; done) | (simp [bne]; done), by repeat (first | exact Drawn0.refl _ | apply Drawn0.step)⟩
 ·rw [if_neg c4] at H
  have c4b0 : decide (a1 ≤ a0) = false := decide_eq_false c4; clear c4; obtain rfl := Option.some.inj H; go_enter Tryd.func37, Tryd.ntmps37; go_wp2; go_ret; exact ⟨by first | rfl | (simp; done) | (simp [*]; done) | (simp [bne]; done), by repeat (first | exact Drawn0.refl _ | apply Drawn0.step)⟩
def spec_GoodValue.f (a0_0 : Int) (a0_1 : Int) (a0_2 : ByteArray) : Option (Bool) := if a0_0 = 1 then (if a0_1 = 0 then (some (a0_2.toList == ([] : List UInt8))) else (some false)) else (if a0_0 = 2 then ((spec_l1In.f a0_1 0 1).bind fun t10 => (if t10 = true then (some (a0_2.toList == ([] : List UInt8))) else (some false))) else (if a0_0 = 3 then ((spec_l1In.f a0_1 (-1000000000) 1000000000).bind fun t11 => (if t11 = true then (some (a0_2.toList == ([] : List UInt8))) else (some false))) else (if a0_0 = 4 then (if a0_1 = 0 then (some (decide ((a0_2.size : Int) ≤ 12))) else (some false)) else (some false))))
theorem spec_GoodValue.calls (a0_0 : Int) (a0_1 : Int) (a0_2 : ByteArray) (r : Bool) (w : World) (h : spec_GoodValue.f a0_0 a0_1 a0_2 = some r) :
  Calls Tryd.prog 28 #[.agg #[.int .i64 a0_0, .int .i64 a0_1, .string a0_2]] w fun e w' => e = .returned (.bool r) ∧ Below w.heap.size w w' := by
 have hu27 := Tryd.underlying27; have HB := zA (Below.refl w.heap.size w); have H : (if a0_0 = 1 then (if a0_1 = 0 then (some (a0_2.toList == ([] : List UInt8))) else (some false)) else (if a0_0 = 2 then ((spec_l1In.f a0_1 0 1).bind fun t30 => (if t30 = true then (some (a0_2.toList == ([] : List UInt8))) else (some false))) else (if a0_0 = 3 then ((spec_l1In.f a0_1 (-1000000000) 1000000000).bind fun t31 => (if t31 = true then (some (a0_2.toList == ([] : List UInt8))) else (some false))) else (if a0_0 = 4 then (if a0_1 = 0 then (some (decide ((a0_2.size : Int) ≤ 12))) else (some false)) else (some false))))) = some r := h; clear h
 by_cases c2 : a0_0 = 1
 ·rw [if_pos c2] at H
  have c2b0 : (a0_0 == 1) = true := beq_iff_eq.mpr c2; have c2b1 : (a0_0 != 1) = false := bne_eq_false_iff_eq.mpr c2; clear c2
  by_cases c3 : a0_1 = 0
  ·rw [if_pos c3] at H
   have c3b0 : (a0_1 == 0) = true := beq_iff_eq.mpr c3; have c3b1 : (a0_1 != 0) = false := bne_eq_false_iff_eq.mpr c3; clear c3; obtain rfl := Option.some.inj H; go_enter Tryd.func28, Tryd.ntmps28; go_wp2_with (first | ((with_reducible refine gate_dst (N := 1) rfl ?_); (try (refine gate_guard (by rfl) ?_; dsimp only)); refine box_event ?hg (N := 1) ?hd (cs := #[.int .i64 a0_0, .int .i64 a0_1, .string a0_2]) (t := 27) ?hr ?_; (case hd => rfl); (case hg => rfl); (case hr => first | (go_simp; done) | (go_simp; rfl)); intro gb32 hg w4 hbox hb; have n0_ := zA (zAD (by (with_reducible repeat first | exact HB.out | apply zH | apply zF | apply zG) <;> exact HB.out) hb); have n1_ := zA (hbox); have n2_ := zA ((by rw [hg]; exact (zAE (by (with_reducible repeat first | exact HB.out | apply zH | apply zF | apply zG) <;> exact HB.out)) : w.heap.size ≤ gb32)); have n3_ := zA ((by rw [hg]; exact (zAE (by (with_reducible repeat first | exact HB.out | apply zH | apply zF | apply zG) <;> exact HB.out)) : w.heap.size ≤ gb32)); clear HB; have HB := n0_; have BK32 := n1_; have GW32 := n2_; have GE32 := n3_; clear n0_ n1_ n2_ n3_; clear hb hbox hg; have hcz5_0 : w4.cell? ⟨gb32, 0, none⟩ = some (.int .i64 a0_0) := (zP BK32.out 0).trans rfl; have hcz5_1 : w4.cell? ⟨gb32, 1, none⟩ = some (.int .i64 a0_1) := (zP BK32.out 1).trans rfl; have hcz5_2 : w4.cell? ⟨gb32, 2, none⟩ = some (.string a0_2) := (zP BK32.out 2).trans rfl; have hfz5_0 := zO BK32.out 0; have hfz5_1 := zO BK32.out 1; have hfz5_2 := zO BK32.out 2)); go_ret; exact ⟨by first | rfl | (simp <;> rfl) | (simp [*] <;> rfl), by repeat (first | (with_reducible first | exact HB.out | apply zH | apply zF | apply zG | refine zI ?_ GE32.out) | exact HB.out)⟩
  ·rw [if_neg c3] at H
   have c3b0 : (a0_1 == 0) = false := beq_eq_false_iff_ne.mpr c3; have c3b1 : (a0_1 != 0) = true := bne_iff_ne.mpr c3; obtain rfl := Option.some.inj H; go_enter Tryd.func28, Tryd.ntmps28; go_wp2_with (first | ((with_reducible refine gate_dst (N := 1) rfl ?_); (try (refine gate_guard (by rfl) ?_; dsimp only)); refine box_event ?hg (N := 1) ?hd (cs := #[.int .i64 a0_0, .int .i64 a0_1, .string a0_2]) (t := 27) ?hr ?_; (case hd => rfl); (case hg => rfl); (case hr => first | (go_simp; done) | (go_simp; rfl)); intro gb32 hg w6 hbox hb; have n0_ := zA (zAD (by (with_reducible repeat first | exact HB.out | apply zH | apply zF | apply zG) <;> exact HB.out) hb); have n1_ := zA (hbox); have n2_ := zA ((by rw [hg]; exact (zAE (by (with_reducible repeat first | exact HB.out | apply zH | apply zF | apply zG) <;> exact HB.out)) : w.heap.size ≤ gb32)); have n3_ := zA ((by rw [hg]; exact (zAE (by (with_reducible repeat first | exact HB.out | apply zH | apply zF | apply zG) <;> exact HB.out)) : w.heap.size ≤ gb32)); clear HB; have HB := n0_; have BK32 := n1_; have GW32 := n2_; have GE32 := n3_; clear n0_ n1_ n2_ n3_; clear hb hbox hg; have hcz7_0 : w6.cell? ⟨gb32, 0, none⟩ = some (.int .i64 a0_0) := (zP BK32.out 0).trans rfl; have hcz7_1 : w6.cell? ⟨gb32, 1, none⟩ = some (.int .i64 a0_1) := (zP BK32.out 1).trans rfl; have hcz7_2 : w6.cell? ⟨gb32, 2, none⟩ = some (.string a0_2) := (zP BK32.out 2).trans rfl; have hfz7_0 := zO BK32.out 0; have hfz7_1 := zO BK32.out 1; have hfz7_2 := zO BK32.out 2)); go_ret; exact ⟨by first | rfl | (simp <;> rfl) | (simp [*] <;> rfl), by repeat (first | (with_reducible first | exact HB.out | apply zH | apply zF | apply zG | refine zI ?_ GE32.out) | exact HB.out)⟩
 ·rw [if_neg c2] at H
  have c2b0 : (a0_0 == 1) = false := beq_eq_false_iff_ne.mpr c2; have c2b1 : (a0_0 != 1) = true := bne_iff_ne.mpr c2
  by_cases c8 : a0_0 = 2
  ·rw [if_pos c8] at H
   have c8b0 : (a0_0 == 2) = true := beq_iff_eq.mpr c8; have c8b1 : (a0_0 != 2) = false := bne_eq_false_iff_eq.mpr c8; clear c8; replace H := zAF H; obtain ⟨t30, A90, H⟩ := H; replace H : (if t30 = true then (some (a0_2.toList == ([] : List UInt8))) else (some false)) = some r := H; have A9 := zA A90; clear A90
   by_cases c10 : t30 = true
   ·subst c10
    have H1 : (some (a0_2.toList == ([] : List UInt8))) = some r := by rw [if_pos rfl] at H; exact H
    clear H; have H := H1; clear H1; obtain rfl := Option.some.inj H; go_enter Tryd.func28, Tryd.ntmps28; go_wp2_with (first | ((with_reducible refine gate_dst (N := 1) rfl ?_); (try (refine gate_guard (by rfl) ?_; dsimp only)); refine box_event ?hg (N := 1) ?hd (cs := #[.int .i64 a0_0, .int .i64 a0_1, .string a0_2]) (t := 27) ?hr ?_; (case hd => rfl); (case hg => rfl); (case hr => first | (go_simp; done) | (go_simp; rfl)); intro gb32 hg w11 hbox hb; have n0_ := zA (zAD (by (with_reducible repeat first | exact HB.out | apply zH | apply zF | apply zG) <;> exact HB.out) hb); have n1_ := zA (hbox); have n2_ := zA ((by rw [hg]; exact (zAE (by (with_reducible repeat first | exact HB.out | apply zH | apply zF | apply zG) <;> exact HB.out)) : w.heap.size ≤ gb32)); have n3_ := zA ((by rw [hg]; exact (zAE (by (with_reducible repeat first | exact HB.out | apply zH | apply zF | apply zG) <;> exact HB.out)) : w.heap.size ≤ gb32)); clear HB; have HB := n0_; have BK32 := n1_; have GW32 := n2_; have GE32 := n3_; clear n0_ n1_ n2_ n3_; clear hb hbox hg; have hcz12_0 : w11.cell? ⟨gb32, 0, none⟩ = some (.int .i64 a0_0) := (zP BK32.out 0).trans rfl; have hcz12_1 : w11.cell? ⟨gb32, 1, none⟩ = some (.int .i64 a0_1) := (zP BK32.out 1).trans rfl; have hcz12_2 : w11.cell? ⟨gb32, 2, none⟩ = some (.string a0_2) := (zP BK32.out 2).trans rfl; have hfz12_0 := zO BK32.out 0; have hfz12_1 := zO BK32.out 1; have hfz12_2 := zO BK32.out 2) | ((with_reducible refine yB (f := 37) rfl ?_); refine goesL_ (some 19) rfl rfl Tryd.func37 (by kernel_rfl) rfl #[.int .i64 a0_1, .int .i64 0, .int .i64 1] rfl (by (try simp only [zAA, zAB, zAC]); first | done | rfl) ?_; (with_reducible refine (spec_l1In.calls a0_1 0 1 true _ A9.out).mono ?_); rintro e w' ⟨rfl, ⟨nd, rfl⟩⟩; refine ⟨_, rfl, ?_⟩)); go_ret; exact ⟨by first | rfl | (simp <;> rfl) | (simp [*] <;> rfl), by repeat (first | (with_reducible first | exact HB.out | apply zH | apply zF | apply zG | refine zI ?_ GE32.out) | exact HB.out)⟩
   ·replace c10 := Bool.eq_false_iff.mpr c10
    subst c10; have H1 : (some false) = some r := by rw [if_neg (show ¬ (false = true) by decide)] at H; exact H
    clear H; have H := H1; clear H1; obtain rfl := Option.some.inj H; go_enter Tryd.func28, Tryd.ntmps28; go_wp2_with (first | ((with_reducible refine gate_dst (N := 1) rfl ?_); (try (refine gate_guard (by rfl) ?_; dsimp only)); refine box_event ?hg (N := 1) ?hd (cs := #[.int .i64 a0_0, .int .i64 a0_1, .string a0_2]) (t := 27) ?hr ?_; (case hd => rfl); (case hg => rfl); (case hr => first | (go_simp; done) | (go_simp; rfl)); intro gb32 hg w13 hbox hb; have n0_ := zA (zAD (by (with_reducible repeat first | exact HB.out | apply zH | apply zF | apply zG) <;> exact HB.out) hb); have n1_ := zA (hbox); have n2_ := zA ((by rw [hg]; exact (zAE (by (with_reducible repeat first | exact HB.out | apply zH | apply zF | apply zG) <;> exact HB.out)) : w.heap.size ≤ gb32)); have n3_ := zA ((by rw [hg]; exact (zAE (by (with_reducible repeat first | exact HB.out | apply zH | apply zF | apply zG) <;> exact HB.out)) : w.heap.size ≤ gb32)); clear HB; have HB := n0_; have BK32 := n1_; have GW32 := n2_; have GE32 := n3_; clear n0_ n1_ n2_ n3_; clear hb hbox hg; have hcz14_0 : w13.cell? ⟨gb32, 0, none⟩ = some (.int .i64 a0_0) := (zP BK32.out 0).trans rfl; have hcz14_1 : w13.cell? ⟨gb32, 1, none⟩ = some (.int .i64 a0_1) := (zP BK32.out 1).trans rfl; have hcz14_2 : w13.cell? ⟨gb32, 2, none⟩ = some (.string a0_2) := (zP BK32.out 2).trans rfl; have hfz14_0 := zO BK32.out 0; have hfz14_1 := zO BK32.out 1; have hfz14_2 := zO BK32.out 2) | ((with_reducible refine yB (f := 37) rfl ?_); refine goesL_ (some 19) rfl rfl Tryd.func37 (by kernel_rfl) rfl #[.int .i64 a0_1, .int .i64 0, .int .i64 1] rfl (by (try simp only [zAA, zAB, zAC]); first | done | rfl) ?_; (with_reducible refine (spec_l1In.calls a0_1 0 1 false _ A9.out).mono ?_); rintro e w' ⟨rfl, ⟨nd, rfl⟩⟩; refine ⟨_, rfl, ?_⟩)); go_ret; exact ⟨by first | rfl | (simp <;> rfl) | (simp [*] <;> rfl), by repeat (first | (with_reducible first | exact HB.out | apply zH | apply zF | apply zG | refine zI ?_ GE32.out) | exact HB.out)⟩
  ·rw [if_neg c8] at H
   have c8b0 : (a0_0 == 2) = false := beq_eq_false_iff_ne.mpr c8; have c8b1 : (a0_0 != 2) = true := bne_iff_ne.mpr c8
   by_cases c15 : a0_0 = 3
   ·rw [if_pos c15] at H
    have c15b0 : (a0_0 == 3) = true := beq_iff_eq.mpr c15; have c15b1 : (a0_0 != 3) = false := bne_eq_false_iff_eq.mpr c15; clear c15; replace H := zAF H; obtain ⟨t31, A33, H⟩ := H; replace H : (if t31 = true then (some (a0_2.toList == ([] : List UInt8))) else (some false)) = some r := H; have A16 := zA A33; clear A33
    by_cases c17 : t31 = true
    ·subst c17
     have H1 : (some (a0_2.toList == ([] : List UInt8))) = some r := by rw [if_pos rfl] at H; exact H
     clear H; have H := H1; clear H1; obtain rfl := Option.some.inj H; go_enter Tryd.func28, Tryd.ntmps28; go_wp2_with (first | ((with_reducible refine gate_dst (N := 1) rfl ?_); (try (refine gate_guard (by rfl) ?_; dsimp only)); refine box_event ?hg (N := 1) ?hd (cs := #[.int .i64 a0_0, .int .i64 a0_1, .string a0_2]) (t := 27) ?hr ?_; (case hd => rfl); (case hg => rfl); (case hr => first | (go_simp; done) | (go_simp; rfl)); intro gb32 hg w18 hbox hb; have n0_ := zA (zAD (by (with_reducible repeat first | exact HB.out | apply zH | apply zF | apply zG) <;> exact HB.out) hb); have n1_ := zA (hbox); have n2_ := zA ((by rw [hg]; exact (zAE (by (with_reducible repeat first | exact HB.out | apply zH | apply zF | apply zG) <;> exact HB.out)) : w.heap.size ≤ gb32)); have n3_ := zA ((by rw [hg]; exact (zAE (by (with_reducible repeat first | exact HB.out | apply zH | apply zF | apply zG) <;> exact HB.out)) : w.heap.size ≤ gb32)); clear HB; have HB := n0_; have BK32 := n1_; have GW32 := n2_; have GE32 := n3_; clear n0_ n1_ n2_ n3_; clear hb hbox hg; have hcz19_0 : w18.cell? ⟨gb32, 0, none⟩ = some (.int .i64 a0_0) := (zP BK32.out 0).trans rfl; have hcz19_1 : w18.cell? ⟨gb32, 1, none⟩ = some (.int .i64 a0_1) := (zP BK32.out 1).trans rfl; have hcz19_2 : w18.cell? ⟨gb32, 2, none⟩ = some (.string a0_2) := (zP BK32.out 2).trans rfl; have hfz19_0 := zO BK32.out 0; have hfz19_1 := zO BK32.out 1; have hfz19_2 := zO BK32.out 2) | ((with_reducible refine yB (f := 37) rfl ?_); refine goesL_ (some 29) rfl rfl Tryd.func37 (by kernel_rfl) rfl #[.int .i64 a0_1, .int .i64 (-1000000000), .int .i64 1000000000] rfl (by (try simp only [zAA, zAB, zAC]); first | done | rfl) ?_; (with_reducible refine (spec_l1In.calls a0_1 (-1000000000) 1000000000 true _ A16.out).mono ?_); rintro e w' ⟨rfl, ⟨nd, rfl⟩⟩; refine ⟨_, rfl, ?_⟩)); go_ret; exact ⟨by first | rfl | (simp <;> rfl) | (simp [*] <;> rfl), by repeat (first | (with_reducible first | exact HB.out | apply zH | apply zF | apply zG | refine zI ?_ GE32.out) | exact HB.out)⟩
    ·replace c17 := Bool.eq_false_iff.mpr c17
     subst c17; have H1 : (some false) = some r := by rw [if_neg (show ¬ (false = true) by decide)] at H; exact H
     clear H; have H := H1; clear H1; obtain rfl := Option.some.inj H; go_enter Tryd.func28, Tryd.ntmps28; go_wp2_with (first | ((with_reducible refine gate_dst (N := 1) rfl ?_); (try (refine gate_guard (by rfl) ?_; dsimp only)); refine box_event ?hg (N := 1) ?hd (cs := #[.int .i64 a0_0, .int .i64 a0_1, .string a0_2]) (t := 27) ?hr ?_; (case hd => rfl); (case hg => rfl); (case hr => first | (go_simp; done) | (go_simp; rfl)); intro gb32 hg w20 hbox hb; have n0_ := zA (zAD (by (with_reducible repeat first | exact HB.out | apply zH | apply zF | apply zG) <;> exact HB.out) hb); have n1_ := zA (hbox); have n2_ := zA ((by rw [hg]; exact (zAE (by (with_reducible repeat first | exact HB.out | apply zH | apply zF | apply zG) <;> exact HB.out)) : w.heap.size ≤ gb32)); have n3_ := zA ((by rw [hg]; exact (zAE (by (with_reducible repeat first | exact HB.out | apply zH | apply zF | apply zG) <;> exact HB.out)) : w.heap.size ≤ gb32)); clear HB; have HB := n0_; have BK32 := n1_; have GW32 := n2_; have GE32 := n3_; clear n0_ n1_ n2_ n3_; clear hb hbox hg; have hcz21_0 : w20.cell? ⟨gb32, 0, none⟩ = some (.int .i64 a0_0) := (zP BK32.out 0).trans rfl; have hcz21_1 : w20.cell? ⟨gb32, 1, none⟩ = some (.int .i64 a0_1) := (zP BK32.out 1).trans rfl; have hcz21_2 : w20.cell? ⟨gb32, 2, none⟩ = some (.string a0_2) := (zP BK32.out 2).trans rfl; have hfz21_0 := zO BK32.out 0; have hfz21_1 := zO BK32.out 1; have hfz21_2 := zO BK32.out 2) | ((with_reducible refine yB (f := 37) rfl ?_); refine goesL_ (some 29) rfl rfl Tryd.func37 (by kernel_rfl) rfl #[.int .i64 a0_1, .int .i64 (-1000000000), .int .i64 1000000000] rfl (by (try simp only [zAA, zAB, zAC]); first | done | rfl) ?_; (with_reducible refine (spec_l1In.calls a0_1 (-1000000000) 1000000000 false _ A16.out).mono ?_); rintro e w' ⟨rfl, ⟨nd, rfl⟩⟩; refine ⟨_, rfl, ?_⟩)); go_ret; exact ⟨by first | rfl | (simp <;> rfl) | (simp [*] <;> rfl), by repeat (first | (with_reducible first | exact HB.out | apply zH | apply zF | apply zG | refine zI ?_ GE32.out) | exact HB.out)⟩
   ·rw [if_neg c15] at H
    have c15b0 : (a0_0 == 3) = false := beq_eq_false_iff_ne.mpr c15; have c15b1 : (a0_0 != 3) = true := bne_iff_ne.mpr c15
    by_cases c22 : a0_0 = 4
    ·rw [if_pos c22] at H
     have c22b0 : (a0_0 == 4) = true := beq_iff_eq.mpr c22; have c22b1 : (a0_0 != 4) = false := bne_eq_false_iff_eq.mpr c22; clear c22
     by_cases c23 : a0_1 = 0
     ·rw [if_pos c23] at H
      have c23b0 : (a0_1 == 0) = true := beq_iff_eq.mpr c23; have c23b1 : (a0_1 != 0) = false := bne_eq_false_iff_eq.mpr c23; clear c23; obtain rfl := Option.some.inj H; go_enter Tryd.func28, Tryd.ntmps28; go_wp2_with (first | ((with_reducible refine gate_dst (N := 1) rfl ?_); (try (refine gate_guard (by rfl) ?_; dsimp only)); refine box_event ?hg (N := 1) ?hd (cs := #[.int .i64 a0_0, .int .i64 a0_1, .string a0_2]) (t := 27) ?hr ?_; (case hd => rfl); (case hg => rfl); (case hr => first | (go_simp; done) | (go_simp; rfl)); intro gb32 hg w24 hbox hb; have n0_ := zA (zAD (by (with_reducible repeat first | exact HB.out | apply zH | apply zF | apply zG) <;> exact HB.out) hb); have n1_ := zA (hbox); have n2_ := zA ((by rw [hg]; exact (zAE (by (with_reducible repeat first | exact HB.out | apply zH | apply zF | apply zG) <;> exact HB.out)) : w.heap.size ≤ gb32)); have n3_ := zA ((by rw [hg]; exact (zAE (by (with_reducible repeat first | exact HB.out | apply zH | apply zF | apply zG) <;> exact HB.out)) : w.heap.size ≤ gb32)); clear HB; have HB := n0_; have BK32 := n1_; have GW32 := n2_; have GE32 := n3_; clear n0_ n1_ n2_ n3_; clear hb hbox hg; have hcz25_0 : w24.cell? ⟨gb32, 0, none⟩ = some (.int .i64 a0_0) := (zP BK32.out 0).trans rfl; have hcz25_1 : w24.cell? ⟨gb32, 1, none⟩ = some (.int .i64 a0_1) := (zP BK32.out 1).trans rfl; have hcz25_2 : w24.cell? ⟨gb32, 2, none⟩ = some (.string a0_2) := (zP BK32.out 2).trans rfl; have hfz25_0 := zO BK32.out 0; have hfz25_1 := zO BK32.out 1; have hfz25_2 := zO BK32.out 2)); go_ret; exact ⟨by first | rfl | (simp <;> rfl) | (simp [*] <;> rfl), by repeat (first | (with_reducible first | exact HB.out | apply zH | apply zF | apply zG | refine zI ?_ GE32.out) | exact HB.out)⟩
     ·rw [if_neg c23] at H
      have c23b0 : (a0_1 == 0) = false := beq_eq_false_iff_ne.mpr c23; have c23b1 : (a0_1 != 0) = true := bne_iff_ne.mpr c23; obtain rfl := Option.some.inj H; go_enter Tryd.func28, Tryd.ntmps28; go_wp2_with (first | ((with_reducible refine gate_dst (N := 1) rfl ?_); (try (refine gate_guard (by rfl) ?_; dsimp only)); refine box_event ?hg (N := 1) ?hd (cs := #[.int .i64 a0_0, .int .i64 a0_1, .string a0_2]) (t := 27) ?hr ?_; (case hd => rfl); (case hg => rfl); (case hr => first | (go_simp; done) | (go_simp; rfl)); intro gb32 hg w26 hbox hb; have n0_ := zA (zAD (by (with_reducible repeat first | exact HB.out | apply zH | apply zF | apply zG) <;> exact HB.out) hb); have n1_ := zA (hbox); have n2_ := zA ((by rw [hg]; exact (zAE (by (with_reducible repeat first | exact HB.out | apply zH | apply zF | apply zG) <;> exact HB.out)) : w.heap.size ≤ gb32)); have n3_ := zA ((by rw [hg]; exact (zAE (by (with_reducible repeat first | exact HB.out | apply zH | apply zF | apply zG) <;> exact HB.out)) : w.heap.size ≤ gb32)); clear HB; have HB := n0_; have BK32 := n1_; have GW32 := n2_; have GE32 := n3_; clear n0_ n1_ n2_ n3_; clear hb hbox hg; have hcz27_0 : w26.cell? ⟨gb32, 0, none⟩ = some (.int .i64 a0_0) := (zP BK32.out 0).trans rfl; have hcz27_1 : w26.cell? ⟨gb32, 1, none⟩ = some (.int .i64 a0_1) := (zP BK32.out 1).trans rfl; have hcz27_2 : w26.cell? ⟨gb32, 2, none⟩ = some (.string a0_2) := (zP BK32.out 2).trans rfl; have hfz27_0 := zO BK32.out 0; have hfz27_1 := zO BK32.out 1; have hfz27_2 := zO BK32.out 2)); go_ret; exact ⟨by first | rfl | (simp <;> rfl) | (simp [*] <;> rfl), by repeat (first | (with_reducible first | exact HB.out | apply zH | apply zF | apply zG | refine zI ?_ GE32.out) | exact HB.out)⟩
    ·rw [if_neg c22] at H
     have c22b0 : (a0_0 == 4) = false := beq_eq_false_iff_ne.mpr c22; have c22b1 : (a0_0 != 4) = true := bne_iff_ne.mpr c22; obtain rfl := Option.some.inj H; go_enter Tryd.func28, Tryd.ntmps28; go_wp2_with (first | ((with_reducible refine gate_dst (N := 1) rfl ?_); (try (refine gate_guard (by rfl) ?_; dsimp only)); refine box_event ?hg (N := 1) ?hd (cs := #[.int .i64 a0_0, .int .i64 a0_1, .string a0_2]) (t := 27) ?hr ?_; (case hd => rfl); (case hg => rfl); (case hr => first | (go_simp; done) | (go_simp; rfl)); intro gb32 hg w28 hbox hb; have n0_ := zA (zAD (by (with_reducible repeat first | exact HB.out | apply zH | apply zF | apply zG) <;> exact HB.out) hb); have n1_ := zA (hbox); have n2_ := zA ((by rw [hg]; exact (zAE (by (with_reducible repeat first | exact HB.out | apply zH | apply zF | apply zG) <;> exact HB.out)) : w.heap.size ≤ gb32)); have n3_ := zA ((by rw [hg]; exact (zAE (by (with_reducible repeat first | exact HB.out | apply zH | apply zF | apply zG) <;> exact HB.out)) : w.heap.size ≤ gb32)); clear HB; have HB := n0_; have BK32 := n1_; have GW32 := n2_; have GE32 := n3_; clear n0_ n1_ n2_ n3_; clear hb hbox hg; have hcz29_0 : w28.cell? ⟨gb32, 0, none⟩ = some (.int .i64 a0_0) := (zP BK32.out 0).trans rfl; have hcz29_1 : w28.cell? ⟨gb32, 1, none⟩ = some (.int .i64 a0_1) := (zP BK32.out 1).trans rfl; have hcz29_2 : w28.cell? ⟨gb32, 2, none⟩ = some (.string a0_2) := (zP BK32.out 2).trans rfl; have hfz29_0 := zO BK32.out 0; have hfz29_1 := zO BK32.out 1; have hfz29_2 := zO BK32.out 2)); go_ret; exact ⟨by first | rfl | (simp <;> rfl) | (simp [*] <;> rfl), by repeat (first | (with_reducible first | exact HB.out | apply zH | apply zF | apply zG | refine zI ?_ GE32.out) | exact HB.out)⟩
def spec_l4Bytes.l0 : Nat → List Int → Int → Int → Int → ByteArray → Option (ByteArray)
 | 0, _, _, _, _, _ => none
 | k + 1, x3, x5, x10, x11, x12 => if x5 < (x12.size : Int) then (if 0 ≤ x5 then (if x3.length < 140737488355328 then ((some (x3 ++ [bt x12 x5] : List Int)).bind fun y13 => (if (bt x12 x5) = 0 then (if y13.length < 140737488355328 then (spec_l4Bytes.l0 k (y13 ++ [255]) (wrap64 (x5 + 1)) x10 x11 x12) else (none)) else (spec_l4Bytes.l0 k y13 (wrap64 (x5 + 1)) x10 x11 x12))) else (none)) else (none)) else ((some (([0, 0] : List Int) : List Int)).bind fun y14 => (if x3.length + y14.length < 140737488355328 then (some (strOfNums (x3 ++ y14))) else (none)))
def spec_l4Bytes.f (k : Nat) (a0_0 : Int) (a0_1 : Int) (a0_2 : ByteArray) : Option (ByteArray) := (some (([(a0_0) % 256] : List Int) : List Int)).bind fun y10 => (if a0_0 = 2 then (if y10.length < 140737488355328 then (some (strOfNums (y10 ++ [(a0_1) % 256]))) else (none)) else (if a0_0 = 3 then ((some (([((wrap64 (a0_1 + 1000000000)) / 16777216) % 256, ((wrap64 (a0_1 + 1000000000)) / 65536) % 256, ((wrap64 (a0_1 + 1000000000)) / 256) % 256, (wrap64 (a0_1 + 1000000000)) % 256] : List Int) : List Int)).bind fun y11 => (if y10.length + y11.length < 140737488355328 then (some (strOfNums (y10 ++ y11))) else (none))) else (if a0_0 = 4 then (spec_l4Bytes.l0 k y10 0 a0_0 a0_1 a0_2) else (some (strOfNums y10)))))
theorem spec_l4Bytes.calls (k : Nat) (a0_0 : Int) (a0_1 : Int) (a0_2 : ByteArray) (r : ByteArray) (w : World) (h : spec_l4Bytes.f k a0_0 a0_1 a0_2 = some r) :
  Calls Tryd.prog 34 #[.agg #[.int .i64 a0_0, .int .i64 a0_1, .string a0_2]] w fun e w' => e = .returned (.string r) ∧ Below w.heap.size w w' := by
 have hu27 := Tryd.underlying27; have HB := zA (Below.refl w.heap.size w); have H : ((some (([(a0_0) % 256] : List Int) : List Int)).bind fun y56 => (if a0_0 = 2 then (if y56.length < 140737488355328 then (some (strOfNums (y56 ++ [(a0_1) % 256]))) else (none)) else (if a0_0 = 3 then ((some (([((wrap64 (a0_1 + 1000000000)) / 16777216) % 256, ((wrap64 (a0_1 + 1000000000)) / 65536) % 256, ((wrap64 (a0_1 + 1000000000)) / 256) % 256, (wrap64 (a0_1 + 1000000000)) % 256] : List Int) : List Int)).bind fun y57 => (if y56.length + y57.length < 140737488355328 then (some (strOfNums (y56 ++ y57))) else (none))) else (if a0_0 = 4 then (spec_l4Bytes.l0 k y56 0 a0_0 a0_1 a0_2) else (some (strOfNums y56)))))) = some r := h; clear h; obtain ⟨y56, hy56⟩ : ∃ y_ : List Int, y_ = (([(a0_0) % 256] : List Int)) := ⟨_, rfl⟩; replace H : (if a0_0 = 2 then (if y56.length < 140737488355328 then (some (strOfNums (y56 ++ [(a0_1) % 256]))) else (none)) else (if a0_0 = 3 then ((some (([((wrap64 (a0_1 + 1000000000)) / 16777216) % 256, ((wrap64 (a0_1 + 1000000000)) / 65536) % 256, ((wrap64 (a0_1 + 1000000000)) / 256) % 256, (wrap64 (a0_1 + 1000000000)) % 256] : List Int) : List Int)).bind fun y57 => (if y56.length + y57.length < 140737488355328 then (some (strOfNums (y56 ++ y57))) else (none))) else (if a0_0 = 4 then (spec_l4Bytes.l0 k y56 0 a0_0 a0_1 a0_2) else (some (strOfNums y56))))) = some r := by first | (rw [hy56]; with_reducible exact H) | (have H2_ := (Option.bind_some _ _).symm.trans H; rw [hy56]; with_reducible exact H2_) | (have H2_ := (Option.bind_some _ _).symm.trans H; with_reducible exact H2_) | with_reducible exact H | (rw [hy56]; exact H) | exact H
 have Ny56 := zA hy56; clear hy56
 by_cases c2 : a0_0 = 2
 ·rw [if_pos c2] at H
  have c2b0 : (a0_0 == 2) = true := beq_iff_eq.mpr c2; have c2b1 : (a0_0 != 2) = false := bne_eq_false_iff_eq.mpr c2; clear c2
  by_cases c3 : y56.length < 140737488355328
  ·rw [if_pos c3] at H
   have LMc3 := zA c3; clear c3; obtain ⟨y58, hy58⟩ : ∃ y_ : List Int, y_ = (y56 ++ [(a0_1) % 256]) := ⟨_, rfl⟩; replace H : (some (strOfNums y58)) = some r := by first | (rw [hy58]; with_reducible exact H) | (have H2_ := (Option.bind_some _ _).symm.trans H; rw [hy58]; with_reducible exact H2_) | (have H2_ := (Option.bind_some _ _).symm.trans H; with_reducible exact H2_) | with_reducible exact H | (rw [hy58]; exact H) | exact H
   have Ny58 := zA hy58; clear hy58; obtain rfl := Option.some.inj H; go_enter Tryd.func34, Tryd.ntmps34; go_wp2_with (first | ((with_reducible refine gate_dst (N := 1) rfl ?_); refine box_event ?hg (N := 1) ?hd (cs := #[.int .i64 a0_0, .int .i64 a0_1, .string a0_2]) (t := 27) ?hr ?_; (case hd => rfl); (case hg => rfl); (case hr => first | (go_simp; done) | (go_simp; rfl)); intro gb59 hg w4 hbox hb; have n0_ := zA (zAD (by (with_reducible repeat first | exact HB.out | apply zH | apply zF | apply zG) <;> exact HB.out) hb); have n1_ := zA (hbox); have n2_ := zA ((by rw [hg]; exact (zAE (by (with_reducible repeat first | exact HB.out | apply zH | apply zF | apply zG) <;> exact HB.out)) : w.heap.size ≤ gb59)); have n3_ := zA ((by rw [hg]; exact (zAE (by (with_reducible repeat first | exact HB.out | apply zH | apply zF | apply zG) <;> exact HB.out)) : w.heap.size ≤ gb59)); clear HB; have HB := n0_; have BK59 := n1_; have GW59 := n2_; have GE59 := n3_; clear n0_ n1_ n2_ n3_; clear hb hbox hg; have hcz5_0 : w4.cell? ⟨gb59, 0, none⟩ = some (.int .i64 a0_0) := (zP BK59.out 0).trans rfl; have hcz5_1 : w4.cell? ⟨gb59, 1, none⟩ = some (.int .i64 a0_1) := (zP BK59.out 1).trans rfl; have hcz5_2 : w4.cell? ⟨gb59, 2, none⟩ = some (.string a0_2) := (zP BK59.out 2).trans rfl; have hfz5_0 := zO BK59.out 0; have hfz5_1 := zO BK59.out 1; have hfz5_2 := zO BK59.out 2) | ((with_reducible refine gate_dst (N := 9) rfl ?_); refine Kd.R_lit (Kd.int .u8) _ 5 ?hg (N := 9) ?hd (xs := ([(a0_0) % 256] : List Int)) (inner := [.int .u8 ((a0_0) % 256)]) (ok := fun _ => True) (okp := fun _ => True) ?hr ?hp (fun _ hk => hk) trivial (Below.refl _ _) (Nat.le_refl _) (by simp) ?_; (case hd => rfl); (case hg => rfl); (case hr => first | (go_simp; done) | (go_simp; rfl)); (case hp => exact (Reps.one (show Kd.M (Kd.int .u8) _ _ _ ((a0_0) % 256) [.int .u8 ((a0_0) % 256)] from rfl) (Reps.none _ _))); intro v60 w6 ho7 hb hg_ hnew_; clear hg_ hnew_; (first | rw [← Ny56.out] at ho7 | (simp only [Int.reduceToNat] at ho7; rw [← Ny56.out] at ho7)); have n0_ := zA (Kd.R_lower ho7 (zAE (by repeat (first | (with_reducible first | exact HB.out | apply zH | apply zF | apply zG | refine zI ?_ GE59.out) | exact HB.out)))); have n1_ := zA (yE (g := gb59) (o := .cells #[.int .i64 a0_0, .int .i64 a0_1, .string a0_2] 27 (0, 0)) (by (with_reducible repeat (first | refine zL ?_ _ | refine zN ?_ | refine zM ?_ _)); exact BK59.out) hb); have n2_ := zA (zAD (by repeat (first | (with_reducible first | exact HB.out | apply zH | apply zF | apply zG | refine zI ?_ GE59.out) | exact HB.out)) hb); clear BK59; clear HB; have HO61 := n0_; have BK59 := n1_; have HB := n2_; clear n0_ n1_ n2_; clear hb ho7; have hcz8_0 : w6.cell? ⟨gb59, 0, none⟩ = some (.int .i64 a0_0) := (zP BK59.out 0).trans rfl; have hcz8_1 : w6.cell? ⟨gb59, 1, none⟩ = some (.int .i64 a0_1) := (zP BK59.out 1).trans rfl; have hcz8_2 : w6.cell? ⟨gb59, 2, none⟩ = some (.string a0_2) := (zP BK59.out 2).trans rfl; have hfz8_0 := zO BK59.out 0; have hfz8_1 := zO BK59.out 1; have hfz8_2 := zO BK59.out 2) | ((with_reducible refine gate_builtin (b := .append) (xs := #[.tmp 14, .tmp 18]) rfl ?_); at_builtin; refine Kd.R_append (Kd.int .u8) (w0 := w) w.heap.size rfl (.tmp 14) (.tmp 18) 48 5 (.int .u8 0) 1 rfl Tryd.underlying48 info5 rfl (by decide) (by omega) v60 y56 ((a0_1) % 256) [.int .u8 ((a0_1) % 256)] (fun _ => True) (fun _ => False) rfl rfl ?aP (fun _ hk => hk.elim) ?aF ?aO ?aB ?aS ?aL ?_; (case aP => exact rfl); (case aB => exact (by repeat (first | (with_reducible first | exact HB.out | apply zH | apply zF | apply zG | refine zI ?_ GE59.out) | exact HB.out))); (case aF => exact (fun _ _ => trivial)); (case aO => exact (by (with_reducible repeat first | apply zQ | apply zR | apply zS); exact HO61.out)); (case aS => exact (zAE (by repeat (first | (with_reducible first | exact HB.out | apply zH | apply zF | apply zG | refine zI ?_ GE59.out) | exact HB.out)))); (case aL => have := LMc3.out; omega); intro v62 w9 ho hb hg hat; rw [← Ny58.out] at ho; have n0_ := zA (blk_grown (g := gb59) (o := .cells #[.int .i64 a0_0, .int .i64 a0_1, .string a0_2] 27 (0, 0)) (by (with_reducible repeat (first | refine zL ?_ _ | refine zN ?_ | refine zM ?_ _)); exact BK59.out) hg (Kd.R_ne HO61.out BK59.out (by decide))); have n1_ := zA (hb); have n2_ := zA (ho); clear BK59; clear HB; clear HO61; have BK59 := n0_; have HB := n1_; have HO63 := n2_; clear n0_ n1_ n2_; clear ho hb hg hat; have hcv10 := own_string (P := Tryd.prog) Tryd.underlying48 Tryd.underlying5 Tryd.underlying9 (Kd.own_of_R HO63.out))); go_ret; exact ⟨by first | rfl | (simp <;> rfl) | (simp [*] <;> rfl), by repeat (first | (with_reducible first | exact HB.out | apply zH | apply zF | apply zG | refine zI ?_ GE59.out) | exact HB.out)⟩
  ·rw [if_neg c3] at H
   exact absurd H (by simp)
 ·rw [if_neg c2] at H
  have c2b0 : (a0_0 == 2) = false := beq_eq_false_iff_ne.mpr c2; have c2b1 : (a0_0 != 2) = true := bne_iff_ne.mpr c2
  by_cases c11 : a0_0 = 3
  ·rw [if_pos c11] at H
   have c11b0 : (a0_0 == 3) = true := beq_iff_eq.mpr c11; have c11b1 : (a0_0 != 3) = false := bne_eq_false_iff_eq.mpr c11; clear c11; obtain ⟨y57, hy57⟩ : ∃ y_ : List Int, y_ = (([((wrap64 (a0_1 + 1000000000)) / 16777216) % 256, ((wrap64 (a0_1 + 1000000000)) / 65536) % 256, ((wrap64 (a0_1 + 1000000000)) / 256) % 256, (wrap64 (a0_1 + 1000000000)) % 256] : List Int)) := ⟨_, rfl⟩; replace H : (if y56.length + y57.length < 140737488355328 then (some (strOfNums (y56 ++ y57))) else (none)) = some r := by first | (rw [hy57]; with_reducible exact H) | (have H2_ := (Option.bind_some _ _).symm.trans H; rw [hy57]; with_reducible exact H2_) | (have H2_ := (Option.bind_some _ _).symm.trans H; with_reducible exact H2_) | with_reducible exact H | (rw [hy57]; exact H) | exact H
   have Ny57 := zA hy57; clear hy57
   by_cases c12 : y56.length + y57.length < 140737488355328
   ·rw [if_pos c12] at H
    have LMc12 := zA c12; clear c12; obtain ⟨y65, hy65⟩ : ∃ y_ : List Int, y_ = (y56 ++ y57) := ⟨_, rfl⟩; replace H : (some (strOfNums y65)) = some r := by first | (rw [hy65]; with_reducible exact H) | (have H2_ := (Option.bind_some _ _).symm.trans H; rw [hy65]; with_reducible exact H2_) | (have H2_ := (Option.bind_some _ _).symm.trans H; with_reducible exact H2_) | with_reducible exact H | (rw [hy65]; exact H) | exact H
    have Ny65 := zA hy65; clear hy65; obtain rfl := Option.some.inj H; go_enter Tryd.func34, Tryd.ntmps34; go_wp2_with (first | ((with_reducible refine gate_dst (N := 1) rfl ?_); refine box_event ?hg (N := 1) ?hd (cs := #[.int .i64 a0_0, .int .i64 a0_1, .string a0_2]) (t := 27) ?hr ?_; (case hd => rfl); (case hg => rfl); (case hr => first | (go_simp; done) | (go_simp; rfl)); intro gb59 hg w13 hbox hb; have n0_ := zA (zAD (by (with_reducible repeat first | exact HB.out | apply zH | apply zF | apply zG) <;> exact HB.out) hb); have n1_ := zA (hbox); have n2_ := zA ((by rw [hg]; exact (zAE (by (with_reducible repeat first | exact HB.out | apply zH | apply zF | apply zG) <;> exact HB.out)) : w.heap.size ≤ gb59)); have n3_ := zA ((by rw [hg]; exact (zAE (by (with_reducible repeat first | exact HB.out | apply zH | apply zF | apply zG) <;> exact HB.out)) : w.heap.size ≤ gb59)); clear HB; have HB := n0_; have BK59 := n1_; have GW59 := n2_; have GE59 := n3_; clear n0_ n1_ n2_ n3_; clear hb hbox hg; have hcz14_0 : w13.cell? ⟨gb59, 0, none⟩ = some (.int .i64 a0_0) := (zP BK59.out 0).trans rfl; have hcz14_1 : w13.cell? ⟨gb59, 1, none⟩ = some (.int .i64 a0_1) := (zP BK59.out 1).trans rfl; have hcz14_2 : w13.cell? ⟨gb59, 2, none⟩ = some (.string a0_2) := (zP BK59.out 2).trans rfl; have hfz14_0 := zO BK59.out 0; have hfz14_1 := zO BK59.out 1; have hfz14_2 := zO BK59.out 2) | ((with_reducible refine gate_dst (N := 9) rfl ?_); refine Kd.R_lit (Kd.int .u8) _ 5 ?hg (N := 9) ?hd (xs := ([(a0_0) % 256] : List Int)) (inner := [.int .u8 ((a0_0) % 256)]) (ok := fun _ => True) (okp := fun _ => True) ?hr ?hp (fun _ hk => hk) trivial (Below.refl _ _) (Nat.le_refl _) (by simp) ?_; (case hd => rfl); (case hg => rfl); (case hr => first | (go_simp; done) | (go_simp; rfl)); (case hp => exact (Reps.one (show Kd.M (Kd.int .u8) _ _ _ ((a0_0) % 256) [.int .u8 ((a0_0) % 256)] from rfl) (Reps.none _ _))); intro v60 w15 ho16 hb hg_ hnew_; clear hg_ hnew_; (first | rw [← Ny56.out] at ho16 | (simp only [Int.reduceToNat] at ho16; rw [← Ny56.out] at ho16)); have n0_ := zA (Kd.R_lower ho16 (zAE (by repeat (first | (with_reducible first | exact HB.out | apply zH | apply zF | apply zG | refine zI ?_ GE59.out) | exact HB.out)))); have n1_ := zA (yE (g := gb59) (o := .cells #[.int .i64 a0_0, .int .i64 a0_1, .string a0_2] 27 (0, 0)) (by (with_reducible repeat (first | refine zL ?_ _ | refine zN ?_ | refine zM ?_ _)); exact BK59.out) hb); have n2_ := zA (zAD (by repeat (first | (with_reducible first | exact HB.out | apply zH | apply zF | apply zG | refine zI ?_ GE59.out) | exact HB.out)) hb); clear BK59; clear HB; have HO61 := n0_; have BK59 := n1_; have HB := n2_; clear n0_ n1_ n2_; clear hb ho16; have hcz17_0 : w15.cell? ⟨gb59, 0, none⟩ = some (.int .i64 a0_0) := (zP BK59.out 0).trans rfl; have hcz17_1 : w15.cell? ⟨gb59, 1, none⟩ = some (.int .i64 a0_1) := (zP BK59.out 1).trans rfl; have hcz17_2 : w15.cell? ⟨gb59, 2, none⟩ = some (.string a0_2) := (zP BK59.out 2).trans rfl; have hfz17_0 := zO BK59.out 0; have hfz17_1 := zO BK59.out 1; have hfz17_2 := zO BK59.out 2) | ((with_reducible refine gate_dst (N := 37) rfl ?_); refine Kd.R_lit (Kd.int .u8) _ 5 ?hg (N := 37) ?hd (xs := ([((wrap64 (a0_1 + 1000000000)) / 16777216) % 256, ((wrap64 (a0_1 + 1000000000)) / 65536) % 256, ((wrap64 (a0_1 + 1000000000)) / 256) % 256, (wrap64 (a0_1 + 1000000000)) % 256] : List Int)) (inner := [.int .u8 (((wrap64 (a0_1 + 1000000000)) / 16777216) % 256), .int .u8 (((wrap64 (a0_1 + 1000000000)) / 65536) % 256), .int .u8 (((wrap64 (a0_1 + 1000000000)) / 256) % 256), .int .u8 ((wrap64 (a0_1 + 1000000000)) % 256)]) (ok := fun _ => True) (okp := fun _ => True) ?hr ?hp (fun _ hk => hk) trivial (Below.refl _ _) (Nat.le_refl _) (by simp) ?_; (case hd => rfl); (case hg => rfl); (case hr => first | (go_simp; done) | (go_simp; rfl)); (case hp => exact (Reps.one (show Kd.M (Kd.int .u8) _ _ _ (((wrap64 (a0_1 + 1000000000)) / 16777216) % 256) [.int .u8 (((wrap64 (a0_1 + 1000000000)) / 16777216) % 256)] from rfl) (Reps.one (show Kd.M (Kd.int .u8) _ _ _ (((wrap64 (a0_1 + 1000000000)) / 65536) % 256) [.int .u8 (((wrap64 (a0_1 + 1000000000)) / 65536) % 256)] from rfl) (Reps.one (show Kd.M (Kd.int .u8) _ _ _ (((wrap64 (a0_1 + 1000000000)) / 256) % 256) [.int .u8 (((wrap64 (a0_1 + 1000000000)) / 256) % 256)] from rfl) (Reps.one (show Kd.M (Kd.int .u8) _ _ _ ((wrap64 (a0_1 + 1000000000)) % 256) [.int .u8 ((wrap64 (a0_1 + 1000000000)) % 256)] from rfl) (Reps.none _ _)))))); intro v66 w18 ho19 hb hg_ hnew_; clear hg_ hnew_; (first | rw [← Ny57.out] at ho19 | (simp only [Int.reduceToNat] at ho19; rw [← Ny57.out] at ho19)); have n0_ := zA (yJ (by (with_reducible repeat first | apply zQ | apply zR | apply zS); exact HO61.out) (Kd.R_base ho19) hb); have n1_ := zA (Kd.R_lower (yK ho19 (Kd.R_lt (by (with_reducible repeat first | apply zQ | apply zR | apply zS); exact HO61.out))) (zAE (by repeat (first | (with_reducible first | exact HB.out | apply zH | apply zF | apply zG | refine zI ?_ GE59.out) | exact HB.out)))); have n2_ := zA (yE (g := gb59) (o := .cells #[.int .i64 a0_0, .int .i64 a0_1, .string a0_2] 27 (0, 0)) (by (with_reducible repeat (first | refine zL ?_ _ | refine zN ?_ | refine zM ?_ _)); exact BK59.out) hb); have n3_ := zA (zAD (by repeat (first | (with_reducible first | exact HB.out | apply zH | apply zF | apply zG | refine zI ?_ GE59.out) | exact HB.out)) hb); clear HO61; clear BK59; clear HB; have HO61 := n0_; have HO67 := n1_; have BK59 := n2_; have HB := n3_; clear n0_ n1_ n2_ n3_; clear hb ho19; obtain ⟨Ao21, co21, eo21⟩ := Kd.R_slice HO67.out; subst eo21) | ((with_reducible refine gate_builtin (b := .append) (xs := #[.tmp 25, .tmp 37]) rfl ?_); at_builtin; refine Kd.R_append_rows (Kd.int .u8) (w0 := w) w.heap.size rfl (.tmp 25) (.tmp 37) 48 5 (.int .u8 0) 1 rfl Tryd.underlying48 info5 rfl (by decide) (by omega) v60 y56 y57 _ _ _ (fun k_ => some k_ ≠ (.slice Ao21 y57.length co21 : Value).ownBlock) (fun _ => False) rfl rfl ?aO ?aR (fun _ _ h => h) (fun _ h => h.elim) ?aF ?aB ?aS ?aL ?_; (case aR => repeat (first | exact (yD HO67.out).2.2 | (with_reducible refine zT ?_ _) | (with_reducible refine zU ?_ _) | (with_reducible refine zV ?_))); (case aB => exact (by repeat (first | (with_reducible first | exact HB.out | apply zH | apply zF | apply zG | refine zI ?_ GE59.out) | exact HB.out))); (case aF => exact (fun k_ hk => Kd.fresh' (Kd.R_lt (by (with_reducible repeat first | apply zQ | apply zR | apply zS); exact HO67.out)) k_ hk)); (case aO => exact (by (with_reducible repeat first | apply zQ | apply zR | apply zS); exact yC HO61.out (fun _ hk => hk.2))); (case aS => exact (zAE (by repeat (first | (with_reducible first | exact HB.out | apply zH | apply zF | apply zG | refine zI ?_ GE59.out) | exact HB.out)))); (case aL => have := LMc12.out; omega); intro v68 w20 ho hb hg hat; rw [← Ny65.out] at ho; have n0_ := zA (blk_grown (g := gb59) (o := .cells #[.int .i64 a0_0, .int .i64 a0_1, .string a0_2] 27 (0, 0)) (by (with_reducible repeat (first | refine zL ?_ _ | refine zN ?_ | refine zM ?_ _)); exact BK59.out) hg (Kd.R_ne HO61.out BK59.out (by decide))); have n1_ := zA (Kd.R_after (ok := (fun _ => True)) (by (with_reducible repeat first | apply zQ | apply zR | apply zS); exact HO67.out) hg hat); have n2_ := zA (hb); have n3_ := zA (ho); clear BK59; clear HO67; clear HB; clear HO61; have BK59 := n0_; have HO67 := n1_; have HB := n2_; have HO69 := n3_; clear n0_ n1_ n2_ n3_; clear ho hb hg hat; have hcv22 := own_string (P := Tryd.prog) Tryd.underlying48 Tryd.underlying5 Tryd.underlying9 (Kd.own_of_R HO69.out)))
    go_ret; exact ⟨by first | rfl | (simp <;> rfl) | (simp [*] <;> rfl), by repeat (first | (with_reducible first | exact HB.out | apply zH | apply zF | apply zG | refine zI ?_ GE59.out) | exact HB.out)⟩
   ·rw [if_neg c12] at H
    exact absurd H (by simp)
  ·rw [if_neg c11] at H
   have c11b0 : (a0_0 == 3) = false := beq_eq_false_iff_ne.mpr c11; have c11b1 : (a0_0 != 3) = true := bne_iff_ne.mpr c11
   by_cases c23 : a0_0 = 4
   ·rw [if_pos c23] at H
    have c23b0 : (a0_0 == 4) = true := beq_iff_eq.mpr c23; have c23b1 : (a0_0 != 4) = false := bne_eq_false_iff_eq.mpr c23; clear c23; have H' := zA H; clear H; go_enter Tryd.func34, Tryd.ntmps34; go_wp2_with (first | ((with_reducible refine gate_dst (N := 1) rfl ?_); refine box_event ?hg (N := 1) ?hd (cs := #[.int .i64 a0_0, .int .i64 a0_1, .string a0_2]) (t := 27) ?hr ?_; (case hd => rfl); (case hg => rfl); (case hr => first | (go_simp; done) | (go_simp; rfl)); intro gb59 hg w24 hbox hb; have n0_ := zA (zAD (by (with_reducible repeat first | exact HB.out | apply zH | apply zF | apply zG) <;> exact HB.out) hb); have n1_ := zA (hbox); have n2_ := zA ((by rw [hg]; exact (zAE (by (with_reducible repeat first | exact HB.out | apply zH | apply zF | apply zG) <;> exact HB.out)) : w.heap.size ≤ gb59)); have n3_ := zA ((by rw [hg]; exact (zAE (by (with_reducible repeat first | exact HB.out | apply zH | apply zF | apply zG) <;> exact HB.out)) : w.heap.size ≤ gb59)); clear HB; have HB := n0_; have BK59 := n1_; have GW59 := n2_; have GE59 := n3_; clear n0_ n1_ n2_ n3_; clear hb hbox hg; have hcz25_0 : w24.cell? ⟨gb59, 0, none⟩ = some (.int .i64 a0_0) := (zP BK59.out 0).trans rfl; have hcz25_1 : w24.cell? ⟨gb59, 1, none⟩ = some (.int .i64 a0_1) := (zP BK59.out 1).trans rfl; have hcz25_2 : w24.cell? ⟨gb59, 2, none⟩ = some (.string a0_2) := (zP BK59.out 2).trans rfl; have hfz25_0 := zO BK59.out 0; have hfz25_1 := zO BK59.out 1; have hfz25_2 := zO BK59.out 2) | ((with_reducible refine gate_dst (N := 9) rfl ?_); refine Kd.R_lit (Kd.int .u8) _ 5 ?hg (N := 9) ?hd (xs := ([(a0_0) % 256] : List Int)) (inner := [.int .u8 ((a0_0) % 256)]) (ok := fun _ => True) (okp := fun _ => True) ?hr ?hp (fun _ hk => hk) trivial (Below.refl _ _) (Nat.le_refl _) (by simp) ?_; (case hd => rfl); (case hg => rfl); (case hr => first | (go_simp; done) | (go_simp; rfl)); (case hp => exact (Reps.one (show Kd.M (Kd.int .u8) _ _ _ ((a0_0) % 256) [.int .u8 ((a0_0) % 256)] from rfl) (Reps.none _ _))); intro v60 w26 ho27 hb hg_ hnew_; clear hg_ hnew_; (first | rw [← Ny56.out] at ho27 | (simp only [Int.reduceToNat] at ho27; rw [← Ny56.out] at ho27)); have n0_ := zA (Kd.R_lower ho27 (zAE (by repeat (first | (with_reducible first | exact HB.out | apply zH | apply zF | apply zG | refine zI ?_ GE59.out) | exact HB.out)))); have n1_ := zA (yE (g := gb59) (o := .cells #[.int .i64 a0_0, .int .i64 a0_1, .string a0_2] 27 (0, 0)) (by (with_reducible repeat (first | refine zL ?_ _ | refine zN ?_ | refine zM ?_ _)); exact BK59.out) hb); have n2_ := zA (zAD (by repeat (first | (with_reducible first | exact HB.out | apply zH | apply zF | apply zG | refine zI ?_ GE59.out) | exact HB.out)) hb); clear BK59; clear HB; have HO61 := n0_; have BK59 := n1_; have HB := n2_; clear n0_ n1_ n2_; clear hb ho27; have hcz28_0 : w26.cell? ⟨gb59, 0, none⟩ = some (.int .i64 a0_0) := (zP BK59.out 0).trans rfl; have hcz28_1 : w26.cell? ⟨gb59, 1, none⟩ = some (.int .i64 a0_1) := (zP BK59.out 1).trans rfl; have hcz28_2 : w26.cell? ⟨gb59, 2, none⟩ = some (.string a0_2) := (zP BK59.out 2).trans rfl; have hfz28_0 := zO BK59.out 0; have hfz28_1 := zO BK59.out 1; have hfz28_2 := zO BK59.out 2)); go_loopg [3, 5] k (fun kq v3 v5 w' => ∃ (x3_1 : List Int) (x5_1 : Int), v5 = .int .i64 x5_1 ∧ Aside0 (spec_l4Bytes.l0 kq x3_1 x5_1 a0_0 a0_1 a0_2 = some r) ∧ Aside0 (kq ≤ k) ∧ Aside0 (Kd.R (Kd.int .u8) 5 w' w.heap.size (fun _ => True) v3 x3_1) ∧ Aside0 (w'.heap[gb59]? = some (.cells #[.int .i64 a0_0, .int .i64 a0_1, .string a0_2] 27 (0, 0))) ∧ Aside0 (Below w.heap.size w w'))
    case atStart => exact ⟨(y56), (0), (by first | rfl | (simp; done) | (simp [*]; done) | (simp [bne]; done)), H', ⟨Nat.le_refl _⟩, ⟨by (with_reducible repeat first | apply zQ | apply zR | apply zS); exact HO61.out⟩, ⟨by (with_reducible repeat (first | refine zL ?_ _ | refine zN ?_ | refine zM ?_ _)); exact BK59.out⟩, ⟨by repeat (first | (with_reducible first | exact HB.out | apply zH | apply zF | apply zG | refine zI ?_ GE59.out) | exact HB.out)⟩⟩
    case round =>
     clear H'
     try clear c1
     try clear hcv1
     try clear c2
     try clear c2b0
     try clear c2b1
     try clear p2
     try clear hcv2
     try clear c3
     try clear p6
     try clear hcv10
     try clear c11
     try clear c11b0
     try clear c11b1
     try clear c12
     try clear hcv22
     try clear c23
     try clear c23b0
     try clear c23b1
     try clear hcz14_0
     try clear hcz14_1
     try clear hcz14_2
     try clear hcz17_0
     try clear hcz17_1
     try clear hcz17_2
     try clear hcz25_0
     try clear hcz25_1
     try clear hcz25_2
     try clear hcz28_0
     try clear hcz28_1
     try clear hcz28_2
     try clear hcz5_0
     try clear hcz5_1
     try clear hcz5_2
     try clear hcz8_0
     try clear hcz8_1
     try clear hcz8_2
     try clear hfz14_0
     try clear hfz14_1
     try clear hfz14_2
     try clear hfz17_0
     try clear hfz17_1
     try clear hfz17_2
     try clear hfz25_0
     try clear hfz25_1
     try clear hfz25_2
     try clear hfz28_0
     try clear hfz28_1
     try clear hfz28_2
     try clear hfz5_0
     try clear hfz5_1
     try clear hfz5_2
     try clear hfz8_0
     try clear hfz8_1
     try clear hfz8_2
     obtain ⟨x3_1, x5_1, rfl, HA, HK1, HO_3, BK59, HB⟩ := hrel
     cases gk with
     | zero => exact absurd HA.out (by simp [spec_l4Bytes.l0])
     | succ k1 =>
      have H := HA.out; clear HA; simp only [spec_l4Bytes.l0] at H
      by_cases c29 : x5_1 < (a0_2.size : Int)
      ·rw [if_pos c29] at H
       have c29b0 : decide (x5_1 < (a0_2.size : Int)) = true := zX c29; clear c29
       by_cases c30 : 0 ≤ x5_1
       ·rw [if_pos c30] at H
        have c30b0 : decide (0 ≤ x5_1) = true := zX c30; clear c30
        by_cases c32 : x3_1.length < 140737488355328
        ·rw [if_pos c32] at H
         have LMc32 := zA c32; clear c32; obtain ⟨y70, hy70⟩ : ∃ y_ : List Int, y_ = (x3_1 ++ [bt a0_2 x5_1]) := ⟨_, rfl⟩; replace H : (if (bt a0_2 x5_1) = 0 then (if y70.length < 140737488355328 then (spec_l4Bytes.l0 k1 (y70 ++ [255]) (wrap64 (x5_1 + 1)) a0_0 a0_1 a0_2) else (none)) else (spec_l4Bytes.l0 k1 y70 (wrap64 (x5_1 + 1)) a0_0 a0_1 a0_2)) = some r := by first | (rw [hy70]; with_reducible exact H) | (have H2_ := (Option.bind_some _ _).symm.trans H; rw [hy70]; with_reducible exact H2_) | (have H2_ := (Option.bind_some _ _).symm.trans H; with_reducible exact H2_) | with_reducible exact H | (rw [hy70]; exact H) | exact H
         have Ny70 := zA hy70; clear hy70
         by_cases c34 : (bt a0_2 x5_1) = 0
         ·rw [if_pos c34] at H
          have c34b0 : ((bt a0_2 x5_1) == 0) = true := beq_iff_eq.mpr c34; have c34b1 : ((bt a0_2 x5_1) != 0) = false := bne_eq_false_iff_eq.mpr c34; clear c34
          by_cases c35 : y70.length < 140737488355328
          ·rw [if_pos c35] at H
           have LMc35 := zA c35; clear c35; obtain ⟨y71, hy71⟩ : ∃ y_ : List Int, y_ = (y70 ++ [255]) := ⟨_, rfl⟩; replace H : (spec_l4Bytes.l0 k1 y71 (wrap64 (x5_1 + 1)) a0_0 a0_1 a0_2) = some r := by first | (rw [hy71]; with_reducible exact H) | (have H2_ := (Option.bind_some _ _).symm.trans H; rw [hy71]; with_reducible exact H2_) | (have H2_ := (Option.bind_some _ _).symm.trans H; with_reducible exact H2_) | with_reducible exact H | (rw [hy71]; exact H) | exact H
           have Ny71 := zA hy71; clear hy71; have H' := zA H; clear H; have hcz36_0 : wr.cell? ⟨gb59, 0, none⟩ = some (.int .i64 a0_0) := (zP BK59.out 0).trans rfl; have hcz36_1 : wr.cell? ⟨gb59, 1, none⟩ = some (.int .i64 a0_1) := (zP BK59.out 1).trans rfl; have hcz36_2 : wr.cell? ⟨gb59, 2, none⟩ = some (.string a0_2) := (zP BK59.out 2).trans rfl; have hfz36_0 := zO BK59.out 0; have hfz36_1 := zO BK59.out 1; have hfz36_2 := zO BK59.out 2; have p31 : 0 ≤ (x5_1 : Int) := zW (by first | (with_reducible assumption) | assumption); have q31 : x5_1 < (a0_2.size : Int) := zW (by first | (with_reducible assumption) | assumption); have hx31 := bt_at a0_2 x5_1; replace p31 := eq_true p31; replace q31 := eq_true q31; go_wp2_with (first | ((with_reducible refine gate_builtin (b := .append) (xs := #[.tmp 48, .tmp 53]) rfl ?_); at_builtin; refine Kd.R_append (Kd.int .u8) (w0 := w) w.heap.size rfl (.tmp 48) (.tmp 53) 48 5 (.int .u8 0) 1 rfl Tryd.underlying48 info5 rfl (by decide) (by omega) u3 x3_1 (bt a0_2 x5_1) [.int .u8 (bt a0_2 x5_1)] (fun _ => True) (fun _ => False) rfl rfl ?aP (fun _ hk => hk.elim) ?aF ?aO ?aB ?aS ?aL ?_; (case aP => exact rfl); (case aB => exact (by repeat (first | (with_reducible first | exact HB.out | apply zH | apply zF | apply zG | refine zI ?_ GE59.out) | exact HB.out))); (case aF => exact (fun _ _ => trivial)); (case aO => exact (by (with_reducible repeat first | apply zQ | apply zR | apply zS); exact HO_3.out)); (case aS => exact (zAE (by repeat (first | (with_reducible first | exact HB.out | apply zH | apply zF | apply zG | refine zI ?_ GE59.out) | exact HB.out)))); (case aL => have := LMc32.out; omega); intro v72 w37 ho hb hg hat; rw [← Ny70.out] at ho; have n0_ := zA (blk_grown (g := gb59) (o := .cells #[.int .i64 a0_0, .int .i64 a0_1, .string a0_2] 27 (0, 0)) (by (with_reducible repeat (first | refine zL ?_ _ | refine zN ?_ | refine zM ?_ _)); exact BK59.out) hg (Kd.R_ne HO_3.out BK59.out (by decide))); have n1_ := zA (hb); have n2_ := zA (ho); clear BK59; clear HB; clear HO_3; have BK59 := n0_; have HB := n1_; have HO73 := n2_; clear n0_ n1_ n2_; clear ho hb hg hat; have hcz38_0 : w37.cell? ⟨gb59, 0, none⟩ = some (.int .i64 a0_0) := (zP BK59.out 0).trans rfl; have hcz38_1 : w37.cell? ⟨gb59, 1, none⟩ = some (.int .i64 a0_1) := (zP BK59.out 1).trans rfl; have hcz38_2 : w37.cell? ⟨gb59, 2, none⟩ = some (.string a0_2) := (zP BK59.out 2).trans rfl; have hfz38_0 := zO BK59.out 0; have hfz38_1 := zO BK59.out 1; have hfz38_2 := zO BK59.out 2; have p33 : 0 ≤ (x5_1 : Int) := zW (by first | (with_reducible assumption) | assumption); have q33 : x5_1 < (a0_2.size : Int) := zW (by first | (with_reducible assumption) | assumption); have hx33 := bt_at a0_2 x5_1; replace p33 := eq_true p33; replace q33 := eq_true q33) | ((with_reducible refine gate_builtin (b := .append) (xs := #[.tmp 60, .tmp 61]) rfl ?_); at_builtin; refine Kd.R_append (Kd.int .u8) (w0 := w) w.heap.size rfl (.tmp 60) (.tmp 61) 48 5 (.int .u8 0) 1 rfl Tryd.underlying48 info5 rfl (by decide) (by omega) v72 y70 255 [.int .u8 255] (fun _ => True) (fun _ => False) rfl rfl ?aP (fun _ hk => hk.elim) ?aF ?aO ?aB ?aS ?aL ?_; (case aP => exact rfl); (case aB => exact (by repeat (first | (with_reducible first | exact HB.out | apply zH | apply zF | apply zG | refine zI ?_ GE59.out) | exact HB.out))); (case aF => exact (fun _ _ => trivial)); (case aO => exact (by (with_reducible repeat first | apply zQ | apply zR | apply zS); exact HO73.out)); (case aS => exact (zAE (by repeat (first | (with_reducible first | exact HB.out | apply zH | apply zF | apply zG | refine zI ?_ GE59.out) | exact HB.out)))); (case aL => have := LMc35.out; omega); intro v74 w39 ho hb hg hat; rw [← Ny71.out] at ho; have n0_ := zA (blk_grown (g := gb59) (o := .cells #[.int .i64 a0_0, .int .i64 a0_1, .string a0_2] 27 (0, 0)) (by (with_reducible repeat (first | refine zL ?_ _ | refine zN ?_ | refine zM ?_ _)); exact BK59.out) hg (Kd.R_ne HO73.out BK59.out (by decide))); have n1_ := zA (hb); have n2_ := zA (ho); clear BK59; clear HB; clear HO73; have BK59 := n0_; have HB := n1_; have HO75 := n2_; clear n0_ n1_ n2_; clear ho hb hg hat)); go_roundg k1
           case measure => have := HK1.out; omega
           case rel => exact ⟨(y71), (wrap64 (x5_1 + 1)), (by first | rfl | (simp; done) | (simp [*]; done) | (simp [bne]; done)), H', ⟨by have := HK1.out; omega⟩, ⟨by (with_reducible repeat first | apply zQ | apply zR | apply zS); exact HO75.out⟩, ⟨by (with_reducible repeat (first | refine zL ?_ _ | refine zN ?_ | refine zM ?_ _)); exact BK59.out⟩, ⟨by repeat (first | (with_reducible first | exact HB.out | apply zH | apply zF | apply zG | refine zI ?_ GE59.out) | exact HB.out)⟩⟩
          ·rw [if_neg c35] at H
           exact absurd H (by simp)
         ·rw [if_neg c34] at H
          have c34b0 : ((bt a0_2 x5_1) == 0) = false := beq_eq_false_iff_ne.mpr c34; have c34b1 : ((bt a0_2 x5_1) != 0) = true := bne_iff_ne.mpr c34; have H' := zA H; clear H; have hcz40_0 : wr.cell? ⟨gb59, 0, none⟩ = some (.int .i64 a0_0) := (zP BK59.out 0).trans rfl; have hcz40_1 : wr.cell? ⟨gb59, 1, none⟩ = some (.int .i64 a0_1) := (zP BK59.out 1).trans rfl; have hcz40_2 : wr.cell? ⟨gb59, 2, none⟩ = some (.string a0_2) := (zP BK59.out 2).trans rfl; have hfz40_0 := zO BK59.out 0; have hfz40_1 := zO BK59.out 1; have hfz40_2 := zO BK59.out 2; have p31 : 0 ≤ (x5_1 : Int) := zW (by first | (with_reducible assumption) | assumption); have q31 : x5_1 < (a0_2.size : Int) := zW (by first | (with_reducible assumption) | assumption); have hx31 := bt_at a0_2 x5_1; replace p31 := eq_true p31; replace q31 := eq_true q31; go_wp2_with (first | ((with_reducible refine gate_builtin (b := .append) (xs := #[.tmp 48, .tmp 53]) rfl ?_); at_builtin; refine Kd.R_append (Kd.int .u8) (w0 := w) w.heap.size rfl (.tmp 48) (.tmp 53) 48 5 (.int .u8 0) 1 rfl Tryd.underlying48 info5 rfl (by decide) (by omega) u3 x3_1 (bt a0_2 x5_1) [.int .u8 (bt a0_2 x5_1)] (fun _ => True) (fun _ => False) rfl rfl ?aP (fun _ hk => hk.elim) ?aF ?aO ?aB ?aS ?aL ?_; (case aP => exact rfl); (case aB => exact (by repeat (first | (with_reducible first | exact HB.out | apply zH | apply zF | apply zG | refine zI ?_ GE59.out) | exact HB.out))); (case aF => exact (fun _ _ => trivial)); (case aO => exact (by (with_reducible repeat first | apply zQ | apply zR | apply zS); exact HO_3.out)); (case aS => exact (zAE (by repeat (first | (with_reducible first | exact HB.out | apply zH | apply zF | apply zG | refine zI ?_ GE59.out) | exact HB.out)))); (case aL => have := LMc32.out; omega); intro v72 w41 ho hb hg hat; rw [← Ny70.out] at ho; have n0_ := zA (blk_grown (g := gb59) (o := .cells #[.int .i64 a0_0, .int .i64 a0_1, .string a0_2] 27 (0, 0)) (by (with_reducible repeat (first | refine zL ?_ _ | refine zN ?_ | refine zM ?_ _)); exact BK59.out) hg (Kd.R_ne HO_3.out BK59.out (by decide))); have n1_ := zA (hb); have n2_ := zA (ho); clear BK59; clear HB; clear HO_3; have BK59 := n0_; have HB := n1_; have HO73 := n2_; clear n0_ n1_ n2_; clear ho hb hg hat; have hcz42_0 : w41.cell? ⟨gb59, 0, none⟩ = some (.int .i64 a0_0) := (zP BK59.out 0).trans rfl; have hcz42_1 : w41.cell? ⟨gb59, 1, none⟩ = some (.int .i64 a0_1) := (zP BK59.out 1).trans rfl; have hcz42_2 : w41.cell? ⟨gb59, 2, none⟩ = some (.string a0_2) := (zP BK59.out 2).trans rfl; have hfz42_0 := zO BK59.out 0; have hfz42_1 := zO BK59.out 1; have hfz42_2 := zO BK59.out 2; have p33 : 0 ≤ (x5_1 : Int) := zW (by first | (with_reducible assumption) | assumption); have q33 : x5_1 < (a0_2.size : Int) := zW (by first | (with_reducible assumption) | assumption); have hx33 := bt_at a0_2 x5_1; replace p33 := eq_true p33; replace q33 := eq_true q33)); go_roundg k1
          case measure => have := HK1.out; omega
          case rel => exact ⟨(y70), (wrap64 (x5_1 + 1)), (by first | rfl | (simp; done) | (simp [*]; done) | (simp [bne]; done)), H', ⟨by have := HK1.out; omega⟩, ⟨by (with_reducible repeat first | apply zQ | apply zR | apply zS); exact HO73.out⟩, ⟨by (with_reducible repeat (first | refine zL ?_ _ | refine zN ?_ | refine zM ?_ _)); exact BK59.out⟩, ⟨by repeat (first | (with_reducible first | exact HB.out | apply zH | apply zF | apply zG | refine zI ?_ GE59.out) | exact HB.out)⟩⟩
        ·rw [if_neg c32] at H
         exact absurd H (by simp)
       ·rw [if_neg c30] at H
        exact absurd H (by simp)
      ·rw [if_neg c29] at H
       have c29b0 : decide (x5_1 < (a0_2.size : Int)) = false := decide_eq_false c29; clear c29; obtain ⟨y76, hy76⟩ : ∃ y_ : List Int, y_ = (([0, 0] : List Int)) := ⟨_, rfl⟩; replace H : (if x3_1.length + y76.length < 140737488355328 then (some (strOfNums (x3_1 ++ y76))) else (none)) = some r := by first | (rw [hy76]; with_reducible exact H) | (have H2_ := (Option.bind_some _ _).symm.trans H; rw [hy76]; with_reducible exact H2_) | (have H2_ := (Option.bind_some _ _).symm.trans H; with_reducible exact H2_) | with_reducible exact H | (rw [hy76]; exact H) | exact H
       have Ny76 := zA hy76; clear hy76
       by_cases c43 : x3_1.length + y76.length < 140737488355328
       ·rw [if_pos c43] at H
        have LMc43 := zA c43; clear c43; obtain ⟨y77, hy77⟩ : ∃ y_ : List Int, y_ = (x3_1 ++ y76) := ⟨_, rfl⟩; replace H : (some (strOfNums y77)) = some r := by first | (rw [hy77]; with_reducible exact H) | (have H2_ := (Option.bind_some _ _).symm.trans H; rw [hy77]; with_reducible exact H2_) | (have H2_ := (Option.bind_some _ _).symm.trans H; with_reducible exact H2_) | with_reducible exact H | (rw [hy77]; exact H) | exact H
        have Ny77 := zA hy77; clear hy77; obtain rfl := Option.some.inj H; have hcz44_0 : wr.cell? ⟨gb59, 0, none⟩ = some (.int .i64 a0_0) := (zP BK59.out 0).trans rfl; have hcz44_1 : wr.cell? ⟨gb59, 1, none⟩ = some (.int .i64 a0_1) := (zP BK59.out 1).trans rfl; have hcz44_2 : wr.cell? ⟨gb59, 2, none⟩ = some (.string a0_2) := (zP BK59.out 2).trans rfl; have hfz44_0 := zO BK59.out 0; have hfz44_1 := zO BK59.out 1; have hfz44_2 := zO BK59.out 2; go_wp2_with (first | ((with_reducible refine gate_dst (N := 64) rfl ?_); refine Kd.R_lit (Kd.int .u8) _ 5 ?hg (N := 64) ?hd (xs := ([0, 0] : List Int)) (inner := [.int .u8 0, .int .u8 0]) (ok := fun _ => True) (okp := fun _ => True) ?hr ?hp (fun _ hk => hk) trivial (Below.refl _ _) (Nat.le_refl _) (by simp) ?_; (case hd => rfl); (case hg => rfl); (case hr => first | (go_simp; done) | (go_simp; rfl)); (case hp => exact (Reps.one (show Kd.M (Kd.int .u8) _ _ _ 0 [.int .u8 0] from rfl) (Reps.one (show Kd.M (Kd.int .u8) _ _ _ 0 [.int .u8 0] from rfl) (Reps.none _ _)))); intro v78 w45 ho46 hb hg_ hnew_; clear hg_ hnew_; (first | rw [← Ny76.out] at ho46 | (simp only [Int.reduceToNat] at ho46; rw [← Ny76.out] at ho46)); have n0_ := zA (yJ (by (with_reducible repeat first | apply zQ | apply zR | apply zS); exact HO_3.out) (Kd.R_base ho46) hb); have n1_ := zA (Kd.R_lower (yK ho46 (Kd.R_lt (by (with_reducible repeat first | apply zQ | apply zR | apply zS); exact HO_3.out))) (zAE (by repeat (first | (with_reducible first | exact HB.out | apply zH | apply zF | apply zG | refine zI ?_ GE59.out) | exact HB.out)))); have n2_ := zA (yE (g := gb59) (o := .cells #[.int .i64 a0_0, .int .i64 a0_1, .string a0_2] 27 (0, 0)) (by (with_reducible repeat (first | refine zL ?_ _ | refine zN ?_ | refine zM ?_ _)); exact BK59.out) hb); have n3_ := zA (zAD (by repeat (first | (with_reducible first | exact HB.out | apply zH | apply zF | apply zG | refine zI ?_ GE59.out) | exact HB.out)) hb); clear HO_3; clear BK59; clear HB; have HO_3 := n0_; have HO79 := n1_; have BK59 := n2_; have HB := n3_; clear n0_ n1_ n2_ n3_; clear hb ho46; obtain ⟨Ao48, co48, eo48⟩ := Kd.R_slice HO79.out; subst eo48) | ((with_reducible refine gate_builtin (b := .append) (xs := #[.tmp 63, .tmp 64]) rfl ?_); at_builtin; refine Kd.R_append_rows (Kd.int .u8) (w0 := w) w.heap.size rfl (.tmp 63) (.tmp 64) 48 5 (.int .u8 0) 1 rfl Tryd.underlying48 info5 rfl (by decide) (by omega) u3 x3_1 y76 _ _ _ (fun k_ => some k_ ≠ (.slice Ao48 y76.length co48 : Value).ownBlock) (fun _ => False) rfl rfl ?aO ?aR (fun _ _ h => h) (fun _ h => h.elim) ?aF ?aB ?aS ?aL ?_; (case aR => repeat (first | exact (yD HO79.out).2.2 | (with_reducible refine zT ?_ _) | (with_reducible refine zU ?_ _) | (with_reducible refine zV ?_))); (case aB => exact (by repeat (first | (with_reducible first | exact HB.out | apply zH | apply zF | apply zG | refine zI ?_ GE59.out) | exact HB.out))); (case aF => exact (fun k_ hk => Kd.fresh' (Kd.R_lt (by (with_reducible repeat first | apply zQ | apply zR | apply zS); exact HO79.out)) k_ hk)); (case aO => exact (by (with_reducible repeat first | apply zQ | apply zR | apply zS); exact yC HO_3.out (fun _ hk => hk.2))); (case aS => exact (zAE (by repeat (first | (with_reducible first | exact HB.out | apply zH | apply zF | apply zG | refine zI ?_ GE59.out) | exact HB.out)))); (case aL => have := LMc43.out; omega); intro v80 w47 ho hb hg hat; rw [← Ny77.out] at ho; have n0_ := zA (blk_grown (g := gb59) (o := .cells #[.int .i64 a0_0, .int .i64 a0_1, .string a0_2] 27 (0, 0)) (by (with_reducible repeat (first | refine zL ?_ _ | refine zN ?_ | refine zM ?_ _)); exact BK59.out) hg (Kd.R_ne HO_3.out BK59.out (by decide))); have n1_ := zA (Kd.R_after (ok := (fun _ => True)) (by (with_reducible repeat first | apply zQ | apply zR | apply zS); exact HO79.out) hg hat); have n2_ := zA (hb); have n3_ := zA (ho); clear BK59; clear HO79; clear HB; clear HO_3; have BK59 := n0_; have HO79 := n1_; have HB := n2_; have HO81 := n3_; clear n0_ n1_ n2_ n3_; clear ho hb hg hat; have hcv49 := own_string (P := Tryd.prog) Tryd.underlying48 Tryd.underlying5 Tryd.underlying9 (Kd.own_of_R HO81.out))); go_ret; exact ⟨by first | rfl | (simp <;> rfl) | (simp [*] <;> rfl), by repeat (first | (with_reducible first | exact HB.out | apply zH | apply zF | apply zG | refine zI ?_ GE59.out) | exact HB.out)⟩
       ·rw [if_neg c43] at H
        exact absurd H (by simp)
   ·rw [if_neg c23] at H
    have c23b0 : (a0_0 == 4) = false := beq_eq_false_iff_ne.mpr c23; have c23b1 : (a0_0 != 4) = true := bne_iff_ne.mpr c23; obtain rfl := Option.some.inj H; go_enter Tryd.func34, Tryd.ntmps34; go_wp2_with (first | ((with_reducible refine gate_dst (N := 1) rfl ?_); refine box_event ?hg (N := 1) ?hd (cs := #[.int .i64 a0_0, .int .i64 a0_1, .string a0_2]) (t := 27) ?hr ?_; (case hd => rfl); (case hg => rfl); (case hr => first | (go_simp; done) | (go_simp; rfl)); intro gb59 hg w50 hbox hb; have n0_ := zA (zAD (by (with_reducible repeat first | exact HB.out | apply zH | apply zF | apply zG) <;> exact HB.out) hb); have n1_ := zA (hbox); have n2_ := zA ((by rw [hg]; exact (zAE (by (with_reducible repeat first | exact HB.out | apply zH | apply zF | apply zG) <;> exact HB.out)) : w.heap.size ≤ gb59)); have n3_ := zA ((by rw [hg]; exact (zAE (by (with_reducible repeat first | exact HB.out | apply zH | apply zF | apply zG) <;> exact HB.out)) : w.heap.size ≤ gb59)); clear HB; have HB := n0_; have BK59 := n1_; have GW59 := n2_; have GE59 := n3_; clear n0_ n1_ n2_ n3_; clear hb hbox hg; have hcz51_0 : w50.cell? ⟨gb59, 0, none⟩ = some (.int .i64 a0_0) := (zP BK59.out 0).trans rfl; have hcz51_1 : w50.cell? ⟨gb59, 1, none⟩ = some (.int .i64 a0_1) := (zP BK59.out 1).trans rfl; have hcz51_2 : w50.cell? ⟨gb59, 2, none⟩ = some (.string a0_2) := (zP BK59.out 2).trans rfl; have hfz51_0 := zO BK59.out 0; have hfz51_1 := zO BK59.out 1; have hfz51_2 := zO BK59.out 2) | ((with_reducible refine gate_dst (N := 9) rfl ?_); refine Kd.R_lit (Kd.int .u8) _ 5 ?hg (N := 9) ?hd (xs := ([(a0_0) % 256] : List Int)) (inner := [.int .u8 ((a0_0) % 256)]) (ok := fun _ => True) (okp := fun _ => True) ?hr ?hp (fun _ hk => hk) trivial (Below.refl _ _) (Nat.le_refl _) (by simp) ?_; (case hd => rfl); (case hg => rfl); (case hr => first | (go_simp; done) | (go_simp; rfl)); (case hp => exact (Reps.one (show Kd.M (Kd.int .u8) _ _ _ ((a0_0) % 256) [.int .u8 ((a0_0) % 256)] from rfl) (Reps.none _ _))); intro v60 w52 ho53 hb hg_ hnew_; clear hg_ hnew_; (first | rw [← Ny56.out] at ho53 | (simp only [Int.reduceToNat] at ho53; rw [← Ny56.out] at ho53)); have n0_ := zA (Kd.R_lower ho53 (zAE (by repeat (first | (with_reducible first | exact HB.out | apply zH | apply zF | apply zG | refine zI ?_ GE59.out) | exact HB.out)))); have n1_ := zA (yE (g := gb59) (o := .cells #[.int .i64 a0_0, .int .i64 a0_1, .string a0_2] 27 (0, 0)) (by (with_reducible repeat (first | refine zL ?_ _ | refine zN ?_ | refine zM ?_ _)); exact BK59.out) hb); have n2_ := zA (zAD (by repeat (first | (with_reducible first | exact HB.out | apply zH | apply zF | apply zG | refine zI ?_ GE59.out) | exact HB.out)) hb); clear BK59; clear HB; have HO61 := n0_; have BK59 := n1_; have HB := n2_; clear n0_ n1_ n2_; clear hb ho53; have hcz54_0 : w52.cell? ⟨gb59, 0, none⟩ = some (.int .i64 a0_0) := (zP BK59.out 0).trans rfl; have hcz54_1 : w52.cell? ⟨gb59, 1, none⟩ = some (.int .i64 a0_1) := (zP BK59.out 1).trans rfl; have hcz54_2 : w52.cell? ⟨gb59, 2, none⟩ = some (.string a0_2) := (zP BK59.out 2).trans rfl; have hfz54_0 := zO BK59.out 0; have hfz54_1 := zO BK59.out 1; have hfz54_2 := zO BK59.out 2; have hcv55 := own_string (P := Tryd.prog) Tryd.underlying48 Tryd.underlying5 Tryd.underlying9 (Kd.own_of_R HO61.out))); go_ret; exact ⟨by first | rfl | (simp <;> rfl) | (simp [*] <;> rfl), by repeat (first | (with_reducible first | exact HB.out | apply zH | apply zF | apply zG | refine zI ?_ GE59.out) | exact HB.out)⟩
def spec_ValueBytes.f (k : Nat) (a0_0 : Int) (a0_1 : Int) (a0_2 : ByteArray) : Option (ByteArray × Bool) := (spec_GoodValue.f a0_0 a0_1 a0_2).bind fun t10 => (if t10 = true then ((spec_l4Bytes.f k a0_0 a0_1 a0_2).bind fun t11 => (some (t11, true))) else (some ((⟨#[]⟩ : ByteArray), false)))
theorem spec_ValueBytes.calls (k : Nat) (a0_0 : Int) (a0_1 : Int) (a0_2 : ByteArray) (r1 : ByteArray) (r2 : Bool) (w : World) (h : spec_ValueBytes.f k a0_0 a0_1 a0_2 = some (r1, r2)) :
  Calls Tryd.prog 9 #[.agg #[.int .i64 a0_0, .int .i64 a0_1, .string a0_2]] w fun e w' => e = .returned (.tuple #[.string r1, .bool r2]) ∧ Below w.heap.size w w' := by
 have hu27 := Tryd.underlying27; have HB := zA (Below.refl w.heap.size w); have H : ((spec_GoodValue.f a0_0 a0_1 a0_2).bind fun t13 => (if t13 = true then ((spec_l4Bytes.f k a0_0 a0_1 a0_2).bind fun t14 => (some (t14, true))) else (some ((⟨#[]⟩ : ByteArray), false)))) = some (r1, r2) := h; clear h; replace H := zAF H; obtain ⟨t13, A20, H⟩ := H; replace H : (if t13 = true then ((spec_l4Bytes.f k a0_0 a0_1 a0_2).bind fun t14 => (some (t14, true))) else (some ((⟨#[]⟩ : ByteArray), false))) = some (r1, r2) := H; have A2 := zA A20; clear A20
 by_cases c3 : t13 = true
 ·subst c3
  have H1 : ((spec_l4Bytes.f k a0_0 a0_1 a0_2).bind fun t14 => (some (t14, true))) = some (r1, r2) := by rw [if_pos rfl] at H; exact H
  clear H; have H := H1; clear H1; replace H := zAF H; obtain ⟨t14, A40, H⟩ := H; replace H : (some (t14, true)) = some (r1, r2) := H; have A4 := zA A40; clear A40; simp only [Option.some.injEq, Prod.mk.injEq] at H; obtain ⟨rfl, rfl⟩ := H; go_enter Tryd.func9, Tryd.ntmps9; go_wp2_with (first | ((with_reducible refine gate_dst (N := 1) rfl ?_); refine box_event ?hg (N := 1) ?hd (cs := #[.int .i64 a0_0, .int .i64 a0_1, .string a0_2]) (t := 27) ?hr ?_; (case hd => rfl); (case hg => rfl); (case hr => first | (go_simp; done) | (go_simp; rfl)); intro gb15 hg w5 hbox hb; have n0_ := zA (zAD (by (with_reducible repeat first | exact HB.out | apply zH | apply zF | apply zG) <;> exact HB.out) hb); have n1_ := zA (hbox); have n2_ := zA ((by rw [hg]; exact (zAE (by (with_reducible repeat first | exact HB.out | apply zH | apply zF | apply zG) <;> exact HB.out)) : w.heap.size ≤ gb15)); have n3_ := zA ((by rw [hg]; exact (zAE (by (with_reducible repeat first | exact HB.out | apply zH | apply zF | apply zG) <;> exact HB.out)) : w.heap.size ≤ gb15)); clear HB; have HB := n0_; have BK15 := n1_; have GW15 := n2_; have GE15 := n3_; clear n0_ n1_ n2_ n3_; clear hb hbox hg; have hcz6_0 : w5.cell? ⟨gb15, 0, none⟩ = some (.int .i64 a0_0) := (zP BK15.out 0).trans rfl; have hcz6_1 : w5.cell? ⟨gb15, 1, none⟩ = some (.int .i64 a0_1) := (zP BK15.out 1).trans rfl; have hcz6_2 : w5.cell? ⟨gb15, 2, none⟩ = some (.string a0_2) := (zP BK15.out 2).trans rfl; have hfz6_0 := zO BK15.out 0; have hfz6_1 := zO BK15.out 1; have hfz6_2 := zO BK15.out 2) | ((with_reducible refine yB (f := 28) rfl ?_); refine goesL_ (some 5) rfl rfl Tryd.func28 (by kernel_rfl) rfl #[.agg #[.int .i64 a0_0, .int .i64 a0_1, .string a0_2]] rfl (by (try simp only [zAA, zAB, zAC]); first | done | rfl) ?_; (with_reducible refine (spec_GoodValue.calls a0_0 a0_1 a0_2 true _ A2.out).mono ?_); rintro e w7 ⟨rfl, hb⟩; refine ⟨_, rfl, ?_⟩; have n0_ := zA (yE (g := gb15) (o := .cells #[.int .i64 a0_0, .int .i64 a0_1, .string a0_2] 27 (0, 0)) (by (with_reducible repeat (first | refine zL ?_ _ | refine zN ?_ | refine zM ?_ _)); exact BK15.out) hb); have n1_ := zA (zAD (by repeat (first | (with_reducible first | exact HB.out | apply zH | apply zF | apply zG | refine zI ?_ GE15.out) | exact HB.out)) hb); clear BK15; clear HB; have BK15 := n0_; have HB := n1_; clear n0_ n1_; (try clear hb); have hcz8_0 : w7.cell? ⟨gb15, 0, none⟩ = some (.int .i64 a0_0) := (zP BK15.out 0).trans rfl; have hcz8_1 : w7.cell? ⟨gb15, 1, none⟩ = some (.int .i64 a0_1) := (zP BK15.out 1).trans rfl; have hcz8_2 : w7.cell? ⟨gb15, 2, none⟩ = some (.string a0_2) := (zP BK15.out 2).trans rfl; have hfz8_0 := zO BK15.out 0; have hfz8_1 := zO BK15.out 1; have hfz8_2 := zO BK15.out 2) | ((with_reducible refine yB (f := 34) rfl ?_); refine goesL_ (some 8) rfl rfl Tryd.func34 (by kernel_rfl) rfl #[.agg #[.int .i64 a0_0, .int .i64 a0_1, .string a0_2]] rfl (by (try simp only [zAA, zAB, zAC]); first | done | rfl) ?_; (with_reducible refine (spec_l4Bytes.calls k a0_0 a0_1 a0_2 t14 _ A4.out).mono ?_); rintro e w9 ⟨rfl, hb⟩; refine ⟨_, rfl, ?_⟩; have n0_ := zA (yE (g := gb15) (o := .cells #[.int .i64 a0_0, .int .i64 a0_1, .string a0_2] 27 (0, 0)) (by (with_reducible repeat (first | refine zL ?_ _ | refine zN ?_ | refine zM ?_ _)); exact BK15.out) hb); have n1_ := zA (zAD (by repeat (first | (with_reducible first | exact HB.out | apply zH | apply zF | apply zG | refine zI ?_ GE15.out) | exact HB.out)) hb); clear BK15; clear HB; have BK15 := n0_; have HB := n1_; clear n0_ n1_; (try clear hb))); go_ret2; exact ⟨by first | rfl | (simp <;> rfl) | (simp [*] <;> rfl), by repeat (first | (with_reducible first | exact HB.out | apply zH | apply zF | apply zG | refine zI ?_ GE15.out) | exact HB.out)⟩
 ·replace c3 := Bool.eq_false_iff.mpr c3
  subst c3; have H1 : (some ((⟨#[]⟩ : ByteArray), false)) = some (r1, r2) := by rw [if_neg (show ¬ (false = true) by decide)] at H; exact H
  clear H; have H := H1; clear H1; simp only [Option.some.injEq, Prod.mk.injEq] at H; obtain ⟨rfl, rfl⟩ := H; go_enter Tryd.func9, Tryd.ntmps9; go_wp2_with (first | ((with_reducible refine gate_dst (N := 1) rfl ?_); refine box_event ?hg (N := 1) ?hd (cs := #[.int .i64 a0_0, .int .i64 a0_1, .string a0_2]) (t := 27) ?hr ?_; (case hd => rfl); (case hg => rfl); (case hr => first | (go_simp; done) | (go_simp; rfl)); intro gb15 hg w10 hbox hb; have n0_ := zA (zAD (by (with_reducible repeat first | exact HB.out | apply zH | apply zF | apply zG) <;> exact HB.out) hb); have n1_ := zA (hbox); have n2_ := zA ((by rw [hg]; exact (zAE (by (with_reducible repeat first | exact HB.out | apply zH | apply zF | apply zG) <;> exact HB.out)) : w.heap.size ≤ gb15)); have n3_ := zA ((by rw [hg]; exact (zAE (by (with_reducible repeat first | exact HB.out | apply zH | apply zF | apply zG) <;> exact HB.out)) : w.heap.size ≤ gb15)); clear HB; have HB := n0_; have BK15 := n1_; have GW15 := n2_; have GE15 := n3_; clear n0_ n1_ n2_ n3_; clear hb hbox hg; have hcz11_0 : w10.cell? ⟨gb15, 0, none⟩ = some (.int .i64 a0_0) := (zP BK15.out 0).trans rfl; have hcz11_1 : w10.cell? ⟨gb15, 1, none⟩ = some (.int .i64 a0_1) := (zP BK15.out 1).trans rfl; have hcz11_2 : w10.cell? ⟨gb15, 2, none⟩ = some (.string a0_2) := (zP BK15.out 2).trans rfl; have hfz11_0 := zO BK15.out 0; have hfz11_1 := zO BK15.out 1; have hfz11_2 := zO BK15.out 2) | ((with_reducible refine yB (f := 28) rfl ?_); refine goesL_ (some 5) rfl rfl Tryd.func28 (by kernel_rfl) rfl #[.agg #[.int .i64 a0_0, .int .i64 a0_1, .string a0_2]] rfl (by (try simp only [zAA, zAB, zAC]); first | done | rfl) ?_; (with_reducible refine (spec_GoodValue.calls a0_0 a0_1 a0_2 false _ A2.out).mono ?_); rintro e w12 ⟨rfl, hb⟩; refine ⟨_, rfl, ?_⟩; have n0_ := zA (yE (g := gb15) (o := .cells #[.int .i64 a0_0, .int .i64 a0_1, .string a0_2] 27 (0, 0)) (by (with_reducible repeat (first | refine zL ?_ _ | refine zN ?_ | refine zM ?_ _)); exact BK15.out) hb); have n1_ := zA (zAD (by repeat (first | (with_reducible first | exact HB.out | apply zH | apply zF | apply zG | refine zI ?_ GE15.out) | exact HB.out)) hb); clear BK15; clear HB; have BK15 := n0_; have HB := n1_; clear n0_ n1_; (try clear hb))); go_ret2; exact ⟨by first | rfl | (simp <;> rfl) | (simp [*] <;> rfl), by repeat (first | (with_reducible first | exact HB.out | apply zH | apply zF | apply zG | refine zI ?_ GE15.out) | exact HB.out)⟩
def impl_within.f (a0 : Int) (a1 : Int) (a2 : Int) : Option (Bool) := if a0 ≥ a1 then (some (decide (a0 ≤ a2))) else (some false)
theorem impl_within.calls (a0 : Int) (a1 : Int) (a2 : Int) (r : Bool) (w : World) (h : impl_within.f a0 a1 a2 = some r) :
  Calls Tryd.prog 42 #[.int .i64 a0, .int .i64 a1, .int .i64 a2] w fun e w' => e = .returned (.bool r) ∧ Drawn0 w w' := by
 have H : (if a0 ≥ a1 then (some (decide (a0 ≤ a2))) else (some false)) = some r := h; clear h
 by_cases c4 : a0 ≥ a1
 ·rw [if_pos c4] at H
  have c4b0 : decide (a1 ≤ a0) = true := zX c4; clear c4; obtain rfl := Option.some.inj H; go_enter Tryd.func42, Tryd.ntmps42; go_wp2; go_ret; exact ⟨by first | rfl | (simp; done) | (simp [*]; done) | (simp [bne]; done), by repeat (first | exact Drawn0.refl _ | apply Drawn0.step)⟩
 ·rw [if_neg c4] at H
  have c4b0 : decide (a1 ≤ a0) = false := decide_eq_false c4; clear c4; obtain rfl := Option.some.inj H; go_enter Tryd.func42, Tryd.ntmps42; go_wp2; go_ret; exact ⟨by first | rfl | (simp; done) | (simp [*]; done) | (simp [bne]; done), by repeat (first | exact Drawn0.refl _ | apply Drawn0.step)⟩
def impl_GoodValue.f (a0_0 : Int) (a0_1 : Int) (a0_2 : ByteArray) : Option (Bool) := if a0_0 = 1 then (if a0_1 = 0 then (some (a0_2.toList == ([] : List UInt8))) else (some false)) else (if a0_0 = 2 then ((impl_within.f a0_1 0 1).bind fun t10 => (if t10 = true then (some (a0_2.toList == ([] : List UInt8))) else (some false))) else (if a0_0 = 3 then ((impl_within.f a0_1 (-1000000000) 1000000000).bind fun t11 => (if t11 = true then (some (a0_2.toList == ([] : List UInt8))) else (some false))) else (if a0_0 = 4 then (if a0_1 = 0 then (some (decide ((a0_2.size : Int) ≤ 12))) else (some false)) else (some false))))
theorem impl_GoodValue.calls (a0_0 : Int) (a0_1 : Int) (a0_2 : ByteArray) (r : Bool) (w : World) (h : impl_GoodValue.f a0_0 a0_1 a0_2 = some r) :
  Calls Tryd.prog 27 #[.agg #[.int .i64 a0_0, .int .i64 a0_1, .string a0_2]] w fun e w' => e = .returned (.bool r) ∧ Below w.heap.size w w' := by
 have hu27 := Tryd.underlying27; have HB := zA (Below.refl w.heap.size w); have H : (if a0_0 = 1 then (if a0_1 = 0 then (some (a0_2.toList == ([] : List UInt8))) else (some false)) else (if a0_0 = 2 then ((impl_within.f a0_1 0 1).bind fun t30 => (if t30 = true then (some (a0_2.toList == ([] : List UInt8))) else (some false))) else (if a0_0 = 3 then ((impl_within.f a0_1 (-1000000000) 1000000000).bind fun t31 => (if t31 = true then (some (a0_2.toList == ([] : List UInt8))) else (some false))) else (if a0_0 = 4 then (if a0_1 = 0 then (some (decide ((a0_2.size : Int) ≤ 12))) else (some false)) else (some false))))) = some r := h; clear h
 by_cases c2 : a0_0 = 1
 ·rw [if_pos c2] at H
  have c2b0 : (a0_0 == 1) = true := beq_iff_eq.mpr c2; have c2b1 : (a0_0 != 1) = false := bne_eq_false_iff_eq.mpr c2; clear c2
  by_cases c3 : a0_1 = 0
  ·rw [if_pos c3] at H
   have c3b0 : (a0_1 == 0) = true := beq_iff_eq.mpr c3; have c3b1 : (a0_1 != 0) = false := bne_eq_false_iff_eq.mpr c3; clear c3; obtain rfl := Option.some.inj H; go_enter Tryd.func27, Tryd.ntmps27; go_wp2_with (first | ((with_reducible refine gate_dst (N := 1) rfl ?_); (try (refine gate_guard (by rfl) ?_; dsimp only)); refine box_event ?hg (N := 1) ?hd (cs := #[.int .i64 a0_0, .int .i64 a0_1, .string a0_2]) (t := 27) ?hr ?_; (case hd => rfl); (case hg => rfl); (case hr => first | (go_simp; done) | (go_simp; rfl)); intro gb32 hg w4 hbox hb; have n0_ := zA (zAD (by (with_reducible repeat first | exact HB.out | apply zH | apply zF | apply zG) <;> exact HB.out) hb); have n1_ := zA (hbox); have n2_ := zA ((by rw [hg]; exact (zAE (by (with_reducible repeat first | exact HB.out | apply zH | apply zF | apply zG) <;> exact HB.out)) : w.heap.size ≤ gb32)); have n3_ := zA ((by rw [hg]; exact (zAE (by (with_reducible repeat first | exact HB.out | apply zH | apply zF | apply zG) <;> exact HB.out)) : w.heap.size ≤ gb32)); clear HB; have HB := n0_; have BK32 := n1_; have GW32 := n2_; have GE32 := n3_; clear n0_ n1_ n2_ n3_; clear hb hbox hg; have hcz5_0 : w4.cell? ⟨gb32, 0, none⟩ = some (.int .i64 a0_0) := (zP BK32.out 0).trans rfl; have hcz5_1 : w4.cell? ⟨gb32, 1, none⟩ = some (.int .i64 a0_1) := (zP BK32.out 1).trans rfl; have hcz5_2 : w4.cell? ⟨gb32, 2, none⟩ = some (.string a0_2) := (zP BK32.out 2).trans rfl; have hfz5_0 := zO BK32.out 0; have hfz5_1 := zO BK32.out 1; have hfz5_2 := zO BK32.out 2)); go_ret; exact ⟨by first | rfl | (simp <;> rfl) | (simp [*] <;> rfl), by repeat (first | (with_reducible first | exact HB.out | apply zH | apply zF | apply zG | refine zI ?_ GE32.out) | exact HB.out)⟩
  ·rw [if_neg c3] at H
   have c3b0 : (a0_1 == 0) = false := beq_eq_false_iff_ne.mpr c3; have c3b1 : (a0_1 != 0) = true := bne_iff_ne.mpr c3; obtain rfl := Option.some.inj H; go_enter Tryd.func27, Tryd.ntmps27; go_wp2_with (first | ((with_reducible refine gate_dst (N := 1) rfl ?_); (try (refine gate_guard (by rfl) ?_; dsimp only)); refine box_event ?hg (N := 1) ?hd (cs := #[.int .i64 a0_0, .int .i64 a0_1, .string a0_2]) (t := 27) ?hr ?_; (case hd => rfl); (case hg => rfl); (case hr => first | (go_simp; done) | (go_simp; rfl)); intro gb32 hg w6 hbox hb; have n0_ := zA (zAD (by (with_reducible repeat first | exact HB.out | apply zH | apply zF | apply zG) <;> exact HB.out) hb); have n1_ := zA (hbox); have n2_ := zA ((by rw [hg]; exact (zAE (by (with_reducible repeat first | exact HB.out | apply zH | apply zF | apply zG) <;> exact HB.out)) : w.heap.size ≤ gb32)); have n3_ := zA ((by rw [hg]; exact (zAE (by (with_reducible repeat first | exact HB.out | apply zH | apply zF | apply zG) <;> exact HB.out)) : w.heap.size ≤ gb32)); clear HB; have HB := n0_; have BK32 := n1_; have GW32 := n2_; have GE32 := n3_; clear n0_ n1_ n2_ n3_; clear hb hbox hg; have hcz7_0 : w6.cell? ⟨gb32, 0, none⟩ = some (.int .i64 a0_0) := (zP BK32.out 0).trans rfl; have hcz7_1 : w6.cell? ⟨gb32, 1, none⟩ = some (.int .i64 a0_1) := (zP BK32.out 1).trans rfl; have hcz7_2 : w6.cell? ⟨gb32, 2, none⟩ = some (.string a0_2) := (zP BK32.out 2).trans rfl; have hfz7_0 := zO BK32.out 0; have hfz7_1 := zO BK32.out 1; have hfz7_2 := zO BK32.out 2)); go_ret; exact ⟨by first | rfl | (simp <;> rfl) | (simp [*] <;> rfl), by repeat (first | (with_reducible first | exact HB.out | apply zH | apply zF | apply zG | refine zI ?_ GE32.out) | exact HB.out)⟩
 ·rw [if_neg c2] at H
  have c2b0 : (a0_0 == 1) = false := beq_eq_false_iff_ne.mpr c2; have c2b1 : (a0_0 != 1) = true := bne_iff_ne.mpr c2
  by_cases c8 : a0_0 = 2
  ·rw [if_pos c8] at H
   have c8b0 : (a0_0 == 2) = true := beq_iff_eq.mpr c8; have c8b1 : (a0_0 != 2) = false := bne_eq_false_iff_eq.mpr c8; clear c8; replace H := zAF H; obtain ⟨t30, A90, H⟩ := H; replace H : (if t30 = true then (some (a0_2.toList == ([] : List UInt8))) else (some false)) = some r := H; have A9 := zA A90; clear A90
   by_cases c10 : t30 = true
   ·subst c10
    have H1 : (some (a0_2.toList == ([] : List UInt8))) = some r := by rw [if_pos rfl] at H; exact H
    clear H; have H := H1; clear H1; obtain rfl := Option.some.inj H; go_enter Tryd.func27, Tryd.ntmps27; go_wp2_with (first | ((with_reducible refine gate_dst (N := 1) rfl ?_); (try (refine gate_guard (by rfl) ?_; dsimp only)); refine box_event ?hg (N := 1) ?hd (cs := #[.int .i64 a0_0, .int .i64 a0_1, .string a0_2]) (t := 27) ?hr ?_; (case hd => rfl); (case hg => rfl); (case hr => first | (go_simp; done) | (go_simp; rfl)); intro gb32 hg w11 hbox hb; have n0_ := zA (zAD (by (with_reducible repeat first | exact HB.out | apply zH | apply zF | apply zG) <;> exact HB.out) hb); have n1_ := zA (hbox); have n2_ := zA ((by rw [hg]; exact (zAE (by (with_reducible repeat first | exact HB.out | apply zH | apply zF | apply zG) <;> exact HB.out)) : w.heap.size ≤ gb32)); have n3_ := zA ((by rw [hg]; exact (zAE (by (with_reducible repeat first | exact HB.out | apply zH | apply zF | apply zG) <;> exact HB.out)) : w.heap.size ≤ gb32)); clear HB; have HB := n0_; have BK32 := n1_; have GW32 := n2_; have GE32 := n3_; clear n0_ n1_ n2_ n3_; clear hb hbox hg; have hcz12_0 : w11.cell? ⟨gb32, 0, none⟩ = some (.int .i64 a0_0) := (zP BK32.out 0).trans rfl; have hcz12_1 : w11.cell? ⟨gb32, 1, none⟩ = some (.int .i64 a0_1) := (zP BK32.out 1).trans rfl; have hcz12_2 : w11.cell? ⟨gb32, 2, none⟩ = some (.string a0_2) := (zP BK32.out 2).trans rfl; have hfz12_0 := zO BK32.out 0; have hfz12_1 := zO BK32.out 1; have hfz12_2 := zO BK32.out 2) | ((with_reducible refine yB (f := 42) rfl ?_); refine goesL_ (some 19) rfl rfl Tryd.func42 (by kernel_rfl) rfl #[.int .i64 a0_1, .int .i64 0, .int .i64 1] rfl (by (try simp only [zAA, zAB, zAC]); first | done | rfl) ?_; (with_reducible refine (impl_within.calls a0_1 0 1 true _ A9.out).mono ?_); rintro e w' ⟨rfl, ⟨nd, rfl⟩⟩; refine ⟨_, rfl, ?_⟩)); go_ret; exact ⟨by first | rfl | (simp <;> rfl) | (simp [*] <;> rfl), by repeat (first | (with_reducible first | exact HB.out | apply zH | apply zF | apply zG | refine zI ?_ GE32.out) | exact HB.out)⟩
   ·replace c10 := Bool.eq_false_iff.mpr c10
    subst c10; have H1 : (some false) = some r := by rw [if_neg (show ¬ (false = true) by decide)] at H; exact H
    clear H; have H := H1; clear H1; obtain rfl := Option.some.inj H; go_enter Tryd.func27, Tryd.ntmps27; go_wp2_with (first | ((with_reducible refine gate_dst (N := 1) rfl ?_); (try (refine gate_guard (by rfl) ?_; dsimp only)); refine box_event ?hg (N := 1) ?hd (cs := #[.int .i64 a0_0, .int .i64 a0_1, .string a0_2]) (t := 27) ?hr ?_; (case hd => rfl); (case hg => rfl); (case hr => first | (go_simp; done) | (go_simp; rfl)); intro gb32 hg w13 hbox hb; have n0_ := zA (zAD (by (with_reducible repeat first | exact HB.out | apply zH | apply zF | apply zG) <;> exact HB.out) hb); have n1_ := zA (hbox); have n2_ := zA ((by rw [hg]; exact (zAE (by (with_reducible repeat first | exact HB.out | apply zH | apply zF | apply zG) <;> exact HB.out)) : w.heap.size ≤ gb32)); have n3_ := zA ((by rw [hg]; exact (zAE (by (with_reducible repeat first | exact HB.out | apply zH | apply zF | apply zG) <;> exact HB.out)) : w.heap.size ≤ gb32)); clear HB; have HB := n0_; have BK32 := n1_; have GW32 := n2_; have GE32 := n3_; clear n0_ n1_ n2_ n3_; clear hb hbox hg; have hcz14_0 : w13.cell? ⟨gb32, 0, none⟩ = some (.int .i64 a0_0) := (zP BK32.out 0).trans rfl; have hcz14_1 : w13.cell? ⟨gb32, 1, none⟩ = some (.int .i64 a0_1) := (zP BK32.out 1).trans rfl; have hcz14_2 : w13.cell? ⟨gb32, 2, none⟩ = some (.string a0_2) := (zP BK32.out 2).trans rfl; have hfz14_0 := zO BK32.out 0; have hfz14_1 := zO BK32.out 1; have hfz14_2 := zO BK32.out 2) | ((with_reducible refine yB (f := 42) rfl ?_); refine goesL_ (some 19) rfl rfl Tryd.func42 (by kernel_rfl) rfl #[.int .i64 a0_1, .int .i64 0, .int .i64 1] rfl (by (try simp only [zAA, zAB, zAC]); first | done | rfl) ?_; (with_reducible refine (impl_within.calls a0_1 0 1 false _ A9.out).mono ?_); rintro e w' ⟨rfl, ⟨nd, rfl⟩⟩; refine ⟨_, rfl, ?_⟩)); go_ret; exact ⟨by first | rfl | (simp <;> rfl) | (simp [*] <;> rfl), by repeat (first | (with_reducible first | exact HB.out | apply zH | apply zF | apply zG | refine zI ?_ GE32.out) | exact HB.out)⟩
  ·rw [if_neg c8] at H
   have c8b0 : (a0_0 == 2) = false := beq_eq_false_iff_ne.mpr c8; have c8b1 : (a0_0 != 2) = true := bne_iff_ne.mpr c8
   by_cases c15 : a0_0 = 3
   ·rw [if_pos c15] at H
    have c15b0 : (a0_0 == 3) = true := beq_iff_eq.mpr c15; have c15b1 : (a0_0 != 3) = false := bne_eq_false_iff_eq.mpr c15; clear c15; replace H := zAF H; obtain ⟨t31, A33, H⟩ := H; replace H : (if t31 = true then (some (a0_2.toList == ([] : List UInt8))) else (some false)) = some r := H; have A16 := zA A33; clear A33
    by_cases c17 : t31 = true
    ·subst c17
     have H1 : (some (a0_2.toList == ([] : List UInt8))) = some r := by rw [if_pos rfl] at H; exact H
     clear H; have H := H1; clear H1; obtain rfl := Option.some.inj H; go_enter Tryd.func27, Tryd.ntmps27; go_wp2_with (first | ((with_reducible refine gate_dst (N := 1) rfl ?_); (try (refine gate_guard (by rfl) ?_; dsimp only)); refine box_event ?hg (N := 1) ?hd (cs := #[.int .i64 a0_0, .int .i64 a0_1, .string a0_2]) (t := 27) ?hr ?_; (case hd => rfl); (case hg => rfl); (case hr => first | (go_simp; done) | (go_simp; rfl)); intro gb32 hg w18 hbox hb; have n0_ := zA (zAD (by (with_reducible repeat first | exact HB.out | apply zH | apply zF | apply zG) <;> exact HB.out) hb); have n1_ := zA (hbox); have n2_ := zA ((by rw [hg]; exact (zAE (by (with_reducible repeat first | exact HB.out | apply zH | apply zF | apply zG) <;> exact HB.out)) : w.heap.size ≤ gb32)); have n3_ := zA ((by rw [hg]; exact (zAE (by (with_reducible repeat first | exact HB.out | apply zH | apply zF | apply zG) <;> exact HB.out)) : w.heap.size ≤ gb32)); clear HB; have HB := n0_; have BK32 := n1_; have GW32 := n2_; have GE32 := n3_; clear n0_ n1_ n2_ n3_; clear hb hbox hg; have hcz19_0 : w18.cell? ⟨gb32, 0, none⟩ = some (.int .i64 a0_0) := (zP BK32.out 0).trans rfl; have hcz19_1 : w18.cell? ⟨gb32, 1, none⟩ = some (.int .i64 a0_1) := (zP BK32.out 1).trans rfl; have hcz19_2 : w18.cell? ⟨gb32, 2, none⟩ = some (.string a0_2) := (zP BK32.out 2).trans rfl; have hfz19_0 := zO BK32.out 0; have hfz19_1 := zO BK32.out 1; have hfz19_2 := zO BK32.out 2) | ((with_reducible refine yB (f := 42) rfl ?_); refine goesL_ (some 29) rfl rfl Tryd.func42 (by kernel_rfl) rfl #[.int .i64 a0_1, .int .i64 (-1000000000), .int .i64 1000000000] rfl (by (try simp only [zAA, zAB, zAC]); first | done | rfl) ?_; (with_reducible refine (impl_within.calls a0_1 (-1000000000) 1000000000 true _ A16.out).mono ?_); rintro e w' ⟨rfl, ⟨nd, rfl⟩⟩; refine ⟨_, rfl, ?_⟩)); go_ret; exact ⟨by first | rfl | (simp <;> rfl) | (simp [*] <;> rfl), by repeat (first | (with_reducible first | exact HB.out | apply zH | apply zF | apply zG | refine zI ?_ GE32.out) | exact HB.out)⟩
    ·replace c17 := Bool.eq_false_iff.mpr c17
     subst c17; have H1 : (some false) = some r := by rw [if_neg (show ¬ (false = true) by decide)] at H; exact H
     clear H; have H := H1; clear H1; obtain rfl := Option.some.inj H; go_enter Tryd.func27, Tryd.ntmps27; go_wp2_with (first | ((with_reducible refine gate_dst (N := 1) rfl ?_); (try (refine gate_guard (by rfl) ?_; dsimp only)); refine box_event ?hg (N := 1) ?hd (cs := #[.int .i64 a0_0, .int .i64 a0_1, .string a0_2]) (t := 27) ?hr ?_; (case hd => rfl); (case hg => rfl); (case hr => first | (go_simp; done) | (go_simp; rfl)); intro gb32 hg w20 hbox hb; have n0_ := zA (zAD (by (with_reducible repeat first | exact HB.out | apply zH | apply zF | apply zG) <;> exact HB.out) hb); have n1_ := zA (hbox); have n2_ := zA ((by rw [hg]; exact (zAE (by (with_reducible repeat first | exact HB.out | apply zH | apply zF | apply zG) <;> exact HB.out)) : w.heap.size ≤ gb32)); have n3_ := zA ((by rw [hg]; exact (zAE (by (with_reducible repeat first | exact HB.out | apply zH | apply zF | apply zG) <;> exact HB.out)) : w.heap.size ≤ gb32)); clear HB; have HB := n0_; have BK32 := n1_; have GW32 := n2_; have GE32 := n3_; clear n0_ n1_ n2_ n3_; clear hb hbox hg; have hcz21_0 : w20.cell? ⟨gb32, 0, none⟩ = some (.int .i64 a0_0) := (zP BK32.out 0).trans rfl; have hcz21_1 : w20.cell? ⟨gb32, 1, none⟩ = some (.int .i64 a0_1) := (zP BK32.out 1).trans rfl; have hcz21_2 : w20.cell? ⟨gb32, 2, none⟩ = some (.string a0_2) := (zP BK32.out 2).trans rfl; have hfz21_0 := zO BK32.out 0; have hfz21_1 := zO BK32.out 1; have hfz21_2 := zO BK32.out 2) | ((with_reducible refine yB (f := 42) rfl ?_); refine goesL_ (some 29) rfl rfl Tryd.func42 (by kernel_rfl) rfl #[.int .i64 a0_1, .int .i64 (-1000000000), .int .i64 1000000000] rfl (by (try simp only [zAA, zAB, zAC]); first | done | rfl) ?_; (with_reducible refine (impl_within.calls a0_1 (-1000000000) 1000000000 false _ A16.out).mono ?_); rintro e w' ⟨rfl, ⟨nd, rfl⟩⟩; refine ⟨_, rfl, ?_⟩)); go_ret; exact ⟨by first | rfl | (simp <;> rfl) | (simp [*] <;> rfl), by repeat (first | (with_reducible first | exact HB.out | apply zH | apply zF | apply zG | refine zI ?_ GE32.out) | exact HB.out)⟩
   ·rw [if_neg c15] at H
    have c15b0 : (a0_0 == 3) = false := beq_eq_false_iff_ne.mpr c15; have c15b1 : (a0_0 != 3) = true := bne_iff_ne.mpr c15
    by_cases c22 : a0_0 = 4
    ·rw [if_pos c22] at H
     have c22b0 : (a0_0 == 4) = true := beq_iff_eq.mpr c22; have c22b1 : (a0_0 != 4) = false := bne_eq_false_iff_eq.mpr c22; clear c22
     by_cases c23 : a0_1 = 0
     ·rw [if_pos c23] at H
      have c23b0 : (a0_1 == 0) = true := beq_iff_eq.mpr c23; have c23b1 : (a0_1 != 0) = false := bne_eq_false_iff_eq.mpr c23; clear c23; obtain rfl := Option.some.inj H; go_enter Tryd.func27, Tryd.ntmps27; go_wp2_with (first | ((with_reducible refine gate_dst (N := 1) rfl ?_); (try (refine gate_guard (by rfl) ?_; dsimp only)); refine box_event ?hg (N := 1) ?hd (cs := #[.int .i64 a0_0, .int .i64 a0_1, .string a0_2]) (t := 27) ?hr ?_; (case hd => rfl); (case hg => rfl); (case hr => first | (go_simp; done) | (go_simp; rfl)); intro gb32 hg w24 hbox hb; have n0_ := zA (zAD (by (with_reducible repeat first | exact HB.out | apply zH | apply zF | apply zG) <;> exact HB.out) hb); have n1_ := zA (hbox); have n2_ := zA ((by rw [hg]; exact (zAE (by (with_reducible repeat first | exact HB.out | apply zH | apply zF | apply zG) <;> exact HB.out)) : w.heap.size ≤ gb32)); have n3_ := zA ((by rw [hg]; exact (zAE (by (with_reducible repeat first | exact HB.out | apply zH | apply zF | apply zG) <;> exact HB.out)) : w.heap.size ≤ gb32)); clear HB; have HB := n0_; have BK32 := n1_; have GW32 := n2_; have GE32 := n3_; clear n0_ n1_ n2_ n3_; clear hb hbox hg; have hcz25_0 : w24.cell? ⟨gb32, 0, none⟩ = some (.int .i64 a0_0) := (zP BK32.out 0).trans rfl; have hcz25_1 : w24.cell? ⟨gb32, 1, none⟩ = some (.int .i64 a0_1) := (zP BK32.out 1).trans rfl; have hcz25_2 : w24.cell? ⟨gb32, 2, none⟩ = some (.string a0_2) := (zP BK32.out 2).trans rfl; have hfz25_0 := zO BK32.out 0; have hfz25_1 := zO BK32.out 1; have hfz25_2 := zO BK32.out 2)); go_ret; exact ⟨by first | rfl | (simp <;> rfl) | (simp [*] <;> rfl), by repeat (first | (with_reducible first | exact HB.out | apply zH | apply zF | apply zG | refine zI ?_ GE32.out) | exact HB.out)⟩
     ·rw [if_neg c23] at H
      have c23b0 : (a0_1 == 0) = false := beq_eq_false_iff_ne.mpr c23; have c23b1 : (a0_1 != 0) = true := bne_iff_ne.mpr c23; obtain rfl := Option.some.inj H; go_enter Tryd.func27, Tryd.ntmps27; go_wp2_with (first | ((with_reducible refine gate_dst (N := 1) rfl ?_); (try (refine gate_guard (by rfl) ?_; dsimp only)); refine box_event ?hg (N := 1) ?hd (cs := #[.int .i64 a0_0, .int .i64 a0_1, .string a0_2]) (t := 27) ?hr ?_; (case hd => rfl); (case hg => rfl); (case hr => first | (go_simp; done) | (go_simp; rfl)); intro gb32 hg w26 hbox hb; have n0_ := zA (zAD (by (with_reducible repeat first | exact HB.out | apply zH | apply zF | apply zG) <;> exact HB.out) hb); have n1_ := zA (hbox); have n2_ := zA ((by rw [hg]; exact (zAE (by (with_reducible repeat first | exact HB.out | apply zH | apply zF | apply zG) <;> exact HB.out)) : w.heap.size ≤ gb32)); have n3_ := zA ((by rw [hg]; exact (zAE (by (with_reducible repeat first | exact HB.out | apply zH | apply zF | apply zG) <;> exact HB.out)) : w.heap.size ≤ gb32)); clear HB; have HB := n0_; have BK32 := n1_; have GW32 := n2_; have GE32 := n3_; clear n0_ n1_ n2_ n3_; clear hb hbox hg; have hcz27_0 : w26.cell? ⟨gb32, 0, none⟩ = some (.int .i64 a0_0) := (zP BK32.out 0).trans rfl; have hcz27_1 : w26.cell? ⟨gb32, 1, none⟩ = some (.int .i64 a0_1) := (zP BK32.out 1).trans rfl; have hcz27_2 : w26.cell? ⟨gb32, 2, none⟩ = some (.string a0_2) := (zP BK32.out 2).trans rfl; have hfz27_0 := zO BK32.out 0; have hfz27_1 := zO BK32.out 1; have hfz27_2 := zO BK32.out 2)); go_ret; exact ⟨by first | rfl | (simp <;> rfl) | (simp [*] <;> rfl), by repeat (first | (with_reducible first | exact HB.out | apply zH | apply zF | apply zG | refine zI ?_ GE32.out) | exact HB.out)⟩
    ·rw [if_neg c22] at H
     have c22b0 : (a0_0 == 4) = false := beq_eq_false_iff_ne.mpr c22; have c22b1 : (a0_0 != 4) = true := bne_iff_ne.mpr c22; obtain rfl := Option.some.inj H; go_enter Tryd.func27, Tryd.ntmps27; go_wp2_with (first | ((with_reducible refine gate_dst (N := 1) rfl ?_); (try (refine gate_guard (by rfl) ?_; dsimp only)); refine box_event ?hg (N := 1) ?hd (cs := #[.int .i64 a0_0, .int .i64 a0_1, .string a0_2]) (t := 27) ?hr ?_; (case hd => rfl); (case hg => rfl); (case hr => first | (go_simp; done) | (go_simp; rfl)); intro gb32 hg w28 hbox hb; have n0_ := zA (zAD (by (with_reducible repeat first | exact HB.out | apply zH | apply zF | apply zG) <;> exact HB.out) hb); have n1_ := zA (hbox); have n2_ := zA ((by rw [hg]; exact (zAE (by (with_reducible repeat first | exact HB.out | apply zH | apply zF | apply zG) <;> exact HB.out)) : w.heap.size ≤ gb32)); have n3_ := zA ((by rw [hg]; exact (zAE (by (with_reducible repeat first | exact HB.out | apply zH | apply zF | apply zG) <;> exact HB.out)) : w.heap.size ≤ gb32)); clear HB; have HB := n0_; have BK32 := n1_; have GW32 := n2_; have GE32 := n3_; clear n0_ n1_ n2_ n3_; clear hb hbox hg; have hcz29_0 : w28.cell? ⟨gb32, 0, none⟩ = some (.int .i64 a0_0) := (zP BK32.out 0).trans rfl; have hcz29_1 : w28.cell? ⟨gb32, 1, none⟩ = some (.int .i64 a0_1) := (zP BK32.out 1).trans rfl; have hcz29_2 : w28.cell? ⟨gb32, 2, none⟩ = some (.string a0_2) := (zP BK32.out 2).trans rfl; have hfz29_0 := zO BK32.out 0; have hfz29_1 := zO BK32.out 1; have hfz29_2 := zO BK32.out 2)); go_ret; exact ⟨by first | rfl | (simp <;> rfl) | (simp [*] <;> rfl), by repeat (first | (with_reducible first | exact HB.out | apply zH | apply zF | apply zG | refine zI ?_ GE32.out) | exact HB.out)⟩
def impl_oneByte.f (a0 : Int) : Option (ByteArray) := some (strOfNums (([(a0) % 256] : List Int)))
theorem impl_oneByte.calls (a0 : Int) (r : ByteArray) (w : World) (h : impl_oneByte.f a0 = some r) :
  Calls Tryd.prog 59 #[.int .i64 a0] w fun e w' => e = .returned (.string r) ∧ Below w.heap.size w w' := by
 have HB := zA (Below.refl w.heap.size w); have H : (some (strOfNums (([(a0) % 256] : List Int)))) = some r := h; clear h; obtain ⟨y10, hy10⟩ : ∃ y_ : List Int, y_ = (([(a0) % 256] : List Int)) := ⟨_, rfl⟩; replace H : (some (strOfNums y10)) = some r := by first | (rw [hy10]; with_reducible exact H) | (have H2_ := (Option.bind_some _ _).symm.trans H; rw [hy10]; with_reducible exact H2_) | (have H2_ := (Option.bind_some _ _).symm.trans H; with_reducible exact H2_) | with_reducible exact H | (rw [hy10]; exact H) | exact H
 have Ny10 := zA hy10; clear hy10; obtain rfl := Option.some.inj H; go_enter Tryd.func59, Tryd.ntmps59; go_wp2_with (first | ((with_reducible refine gate_dst (N := 5) rfl ?_); refine Kd.R_lit (Kd.int .u8) _ 5 ?hg (N := 5) ?hd (xs := ([(a0) % 256] : List Int)) (inner := [.int .u8 ((a0) % 256)]) (ok := fun _ => True) (okp := fun _ => True) ?hr ?hp (fun _ hk => hk) trivial (Below.refl _ _) (Nat.le_refl _) (by simp) ?_; (case hd => rfl); (case hg => rfl); (case hr => first | (go_simp; done) | (go_simp; rfl)); (case hp => exact (Reps.one (show Kd.M (Kd.int .u8) _ _ _ ((a0) % 256) [.int .u8 ((a0) % 256)] from rfl) (Reps.none _ _))); intro v11 w2 ho3 hb hg_ hnew_; clear hg_ hnew_; (first | rw [← Ny10.out] at ho3 | (simp only [Int.reduceToNat] at ho3; rw [← Ny10.out] at ho3)); have n0_ := zA (Kd.R_lower ho3 (zAE (by (with_reducible repeat first | exact HB.out | apply zH | apply zF | apply zG) <;> exact HB.out))); have n1_ := zA (zAD (by (with_reducible repeat first | exact HB.out | apply zH | apply zF | apply zG) <;> exact HB.out) hb); clear HB; have HO12 := n0_; have HB := n1_; clear n0_ n1_; clear hb ho3; have hcv4 := own_string (P := Tryd.prog) Tryd.underlying48 Tryd.underlying5 Tryd.underlying9 (Kd.own_of_R HO12.out))); go_ret; exact ⟨by first | rfl | (simp <;> rfl) | (simp [*] <;> rfl), by (with_reducible repeat first | exact HB.out | apply zH | apply zF | apply zG) <;> exact HB.out⟩
def strings_ReplaceAll.f (a0 a1 a2 : ByteArray) : Option ByteArray := if a1.size = 1 ∧ a1 ≠ a2 ∧ a0.size ≤ 1000000 ∧ a2.size ≤ 1000000 then some ⟨(Go.Proofs.YthhkkhnjkoacnaaDoor.QR.rep (a1.data.toList.headD 0) a2.data.toList a0.data.toList).toArray⟩ else none
theorem strings_ReplaceAll.calls (a0 a1 a2 : ByteArray) (r : ByteArray) (w : World) (h : strings_ReplaceAll.f a0 a1 a2 = some r) :
  Calls Tryd.prog 60 #[.string a0, .string a1, .string a2] w fun e w' => e = .returned (.string r) ∧ Below w.heap.size w w' := by
 unfold strings_ReplaceAll.f at h
 by_cases hc : a1.size = 1 ∧ a1 ≠ a2 ∧ a0.size ≤ 1000000 ∧ a2.size ≤ 1000000
 ·rw [if_pos hc] at h
  obtain ⟨h1, h2, h3, h4⟩ := hc; obtain rfl := Option.some.inj h
  have e : a1 = ⟨#[a1.data.toList.headD 0]⟩ := by
   obtain ⟨⟨l⟩⟩ := a1
   match l, h1 with
   | [x], _ => rfl
  exact Go.Proofs.YthhkkhnjkoacnaaDoor.QR.all Go.Proofs.YthhkkhnjkoacnaaDoor.QS.lays155 Go.Proofs.YthhkkhnjkoacnaaDoor.QS.Builder_Extra_155 a0 a1 a2 (a1.data.toList.headD 0) w e h2 h3 h4
 ·rw [if_neg hc] at h
  cases h
def impl_Value_bytes.f (a0_0 : Int) (a0_1 : Int) (a0_2 : ByteArray) : Option (ByteArray) := (impl_oneByte.f a0_0).bind fun t10 => (if a0_0 = 2 then ((impl_oneByte.f a0_1).bind fun t11 => (if t10.size + t11.size ≤ 9223372036854775807 then (some (t10 ++ t11)) else (none))) else (if a0_0 = 3 then ((some (([((wrap64 (a0_1 + 1000000000)) / 16777216) % 256, ((wrap64 (a0_1 + 1000000000)) / 65536) % 256, ((wrap64 (a0_1 + 1000000000)) / 256) % 256, (wrap64 (a0_1 + 1000000000)) % 256] : List Int) : List Int)).bind fun y12 => (if t10.size + (strOfNums y12).size ≤ 9223372036854775807 then (some (t10 ++ (strOfNums y12))) else (none))) else (if a0_0 = 4 then ((strings_ReplaceAll.f a0_2 (⟨#[0]⟩ : ByteArray) (⟨#[0, 255]⟩ : ByteArray)).bind fun t13 => (if t13.size + 2 ≤ 9223372036854775807 then (if t10.size + (t13 ++ (⟨#[0, 0]⟩ : ByteArray)).size ≤ 9223372036854775807 then (some (t10 ++ (t13 ++ (⟨#[0, 0]⟩ : ByteArray)))) else (none)) else (none))) else (some t10))))
theorem impl_Value_bytes.calls (a0_0 : Int) (a0_1 : Int) (a0_2 : ByteArray) (r : ByteArray) (w : World) (h : impl_Value_bytes.f a0_0 a0_1 a0_2 = some r) :
  Calls Tryd.prog 35 #[.agg #[.int .i64 a0_0, .int .i64 a0_1, .string a0_2]] w fun e w' => e = .returned (.string r) ∧ Below w.heap.size w w' := by
 have hu27 := Tryd.underlying27; have HB := zA (Below.refl w.heap.size w); have H : ((impl_oneByte.f a0_0).bind fun t33 => (if a0_0 = 2 then ((impl_oneByte.f a0_1).bind fun t34 => (if t33.size + t34.size ≤ 9223372036854775807 then (some (t33 ++ t34)) else (none))) else (if a0_0 = 3 then ((some (([((wrap64 (a0_1 + 1000000000)) / 16777216) % 256, ((wrap64 (a0_1 + 1000000000)) / 65536) % 256, ((wrap64 (a0_1 + 1000000000)) / 256) % 256, (wrap64 (a0_1 + 1000000000)) % 256] : List Int) : List Int)).bind fun y35 => (if t33.size + (strOfNums y35).size ≤ 9223372036854775807 then (some (t33 ++ (strOfNums y35))) else (none))) else (if a0_0 = 4 then ((strings_ReplaceAll.f a0_2 (⟨#[0]⟩ : ByteArray) (⟨#[0, 255]⟩ : ByteArray)).bind fun t36 => (if t36.size + 2 ≤ 9223372036854775807 then (if t33.size + (t36 ++ (⟨#[0, 0]⟩ : ByteArray)).size ≤ 9223372036854775807 then (some (t33 ++ (t36 ++ (⟨#[0, 0]⟩ : ByteArray)))) else (none)) else (none))) else (some t33))))) = some r := h; clear h; replace H := zAF H; obtain ⟨t33, A20, H⟩ := H; replace H : (if a0_0 = 2 then ((impl_oneByte.f a0_1).bind fun t34 => (if t33.size + t34.size ≤ 9223372036854775807 then (some (t33 ++ t34)) else (none))) else (if a0_0 = 3 then ((some (([((wrap64 (a0_1 + 1000000000)) / 16777216) % 256, ((wrap64 (a0_1 + 1000000000)) / 65536) % 256, ((wrap64 (a0_1 + 1000000000)) / 256) % 256, (wrap64 (a0_1 + 1000000000)) % 256] : List Int) : List Int)).bind fun y35 => (if t33.size + (strOfNums y35).size ≤ 9223372036854775807 then (some (t33 ++ (strOfNums y35))) else (none))) else (if a0_0 = 4 then ((strings_ReplaceAll.f a0_2 (⟨#[0]⟩ : ByteArray) (⟨#[0, 255]⟩ : ByteArray)).bind fun t36 => (if t36.size + 2 ≤ 9223372036854775807 then (if t33.size + (t36 ++ (⟨#[0, 0]⟩ : ByteArray)).size ≤ 9223372036854775807 then (some (t33 ++ (t36 ++ (⟨#[0, 0]⟩ : ByteArray)))) else (none)) else (none))) else (some t33)))) = some r := H; have A2 := zA A20; clear A20
 by_cases c3 : a0_0 = 2
 ·rw [if_pos c3] at H
  have c3b0 : (a0_0 == 2) = true := beq_iff_eq.mpr c3; have c3b1 : (a0_0 != 2) = false := bne_eq_false_iff_eq.mpr c3; clear c3; replace H := zAF H; obtain ⟨t34, A40, H⟩ := H; replace H : (if t33.size + t34.size ≤ 9223372036854775807 then (some (t33 ++ t34)) else (none)) = some r := H; have A4 := zA A40; clear A40
  by_cases c5 : t33.size + t34.size ≤ 9223372036854775807
  ·rw [if_pos c5] at H
   have c5b0 := eq_true c5; have c5b1 : decide (t33.size + t34.size ≤ 9223372036854775807) = true := zX c5
   try have c5b2 : (9223372036854775807 < t33.size + t34.size) = False := eq_false (Nat.not_lt.2 c5)
   obtain rfl := Option.some.inj H; go_enter Tryd.func35, Tryd.ntmps35; go_wp2_with (first | ((with_reducible refine gate_dst (N := 1) rfl ?_); refine box_event ?hg (N := 1) ?hd (cs := #[.int .i64 a0_0, .int .i64 a0_1, .string a0_2]) (t := 27) ?hr ?_; (case hd => rfl); (case hg => rfl); (case hr => first | (go_simp; done) | (go_simp; rfl)); intro gb37 hg w6 hbox hb; have n0_ := zA (zAD (by (with_reducible repeat first | exact HB.out | apply zH | apply zF | apply zG) <;> exact HB.out) hb); have n1_ := zA (hbox); have n2_ := zA ((by rw [hg]; exact (zAE (by (with_reducible repeat first | exact HB.out | apply zH | apply zF | apply zG) <;> exact HB.out)) : w.heap.size ≤ gb37)); have n3_ := zA ((by rw [hg]; exact (zAE (by (with_reducible repeat first | exact HB.out | apply zH | apply zF | apply zG) <;> exact HB.out)) : w.heap.size ≤ gb37)); clear HB; have HB := n0_; have BK37 := n1_; have GW37 := n2_; have GE37 := n3_; clear n0_ n1_ n2_ n3_; clear hb hbox hg; have hcz7_0 : w6.cell? ⟨gb37, 0, none⟩ = some (.int .i64 a0_0) := (zP BK37.out 0).trans rfl; have hcz7_1 : w6.cell? ⟨gb37, 1, none⟩ = some (.int .i64 a0_1) := (zP BK37.out 1).trans rfl; have hcz7_2 : w6.cell? ⟨gb37, 2, none⟩ = some (.string a0_2) := (zP BK37.out 2).trans rfl; have hfz7_0 := zO BK37.out 0; have hfz7_1 := zO BK37.out 1; have hfz7_2 := zO BK37.out 2) | ((with_reducible refine yB (f := 59) rfl ?_); refine goesL_ (some 7) rfl rfl Tryd.func59 (by kernel_rfl) rfl #[.int .i64 a0_0] rfl (by (try simp only [zAA, zAB, zAC]); first | done | rfl) ?_; (with_reducible refine (impl_oneByte.calls a0_0 t33 _ A2.out).mono ?_); rintro e w8 ⟨rfl, hb⟩; refine ⟨_, rfl, ?_⟩; have n0_ := zA (yE (g := gb37) (o := .cells #[.int .i64 a0_0, .int .i64 a0_1, .string a0_2] 27 (0, 0)) (by (with_reducible repeat (first | refine zL ?_ _ | refine zN ?_ | refine zM ?_ _)); exact BK37.out) hb); have n1_ := zA (zAD (by repeat (first | (with_reducible first | exact HB.out | apply zH | apply zF | apply zG | refine zI ?_ GE37.out) | exact HB.out)) hb); clear BK37; clear HB; have BK37 := n0_; have HB := n1_; clear n0_ n1_; (try clear hb); have hcz9_0 : w8.cell? ⟨gb37, 0, none⟩ = some (.int .i64 a0_0) := (zP BK37.out 0).trans rfl; have hcz9_1 : w8.cell? ⟨gb37, 1, none⟩ = some (.int .i64 a0_1) := (zP BK37.out 1).trans rfl; have hcz9_2 : w8.cell? ⟨gb37, 2, none⟩ = some (.string a0_2) := (zP BK37.out 2).trans rfl; have hfz9_0 := zO BK37.out 0; have hfz9_1 := zO BK37.out 1; have hfz9_2 := zO BK37.out 2) | ((with_reducible refine yB (f := 59) rfl ?_); refine goesL_ (some 15) rfl rfl Tryd.func59 (by kernel_rfl) rfl #[.int .i64 a0_1] rfl (by (try simp only [zAA, zAB, zAC]); first | done | rfl) ?_; (with_reducible refine (impl_oneByte.calls a0_1 t34 _ A4.out).mono ?_); rintro e w10 ⟨rfl, hb⟩; refine ⟨_, rfl, ?_⟩; have n0_ := zA (yE (g := gb37) (o := .cells #[.int .i64 a0_0, .int .i64 a0_1, .string a0_2] 27 (0, 0)) (by (with_reducible repeat (first | refine zL ?_ _ | refine zN ?_ | refine zM ?_ _)); exact BK37.out) hb); have n1_ := zA (zAD (by repeat (first | (with_reducible first | exact HB.out | apply zH | apply zF | apply zG | refine zI ?_ GE37.out) | exact HB.out)) hb); clear BK37; clear HB; have BK37 := n0_; have HB := n1_; clear n0_ n1_; (try clear hb))); go_ret; exact ⟨by first | rfl | (simp <;> rfl) | (simp [*] <;> rfl), by repeat (first | (with_reducible first | exact HB.out | apply zH | apply zF | apply zG | refine zI ?_ GE37.out) | exact HB.out)⟩
  ·rw [if_neg c5] at H
   exact absurd H (by simp)
 ·rw [if_neg c3] at H
  have c3b0 : (a0_0 == 2) = false := beq_eq_false_iff_ne.mpr c3; have c3b1 : (a0_0 != 2) = true := bne_iff_ne.mpr c3
  by_cases c11 : a0_0 = 3
  ·rw [if_pos c11] at H
   have c11b0 : (a0_0 == 3) = true := beq_iff_eq.mpr c11; have c11b1 : (a0_0 != 3) = false := bne_eq_false_iff_eq.mpr c11; clear c11; obtain ⟨y35, hy35⟩ : ∃ y_ : List Int, y_ = (([((wrap64 (a0_1 + 1000000000)) / 16777216) % 256, ((wrap64 (a0_1 + 1000000000)) / 65536) % 256, ((wrap64 (a0_1 + 1000000000)) / 256) % 256, (wrap64 (a0_1 + 1000000000)) % 256] : List Int)) := ⟨_, rfl⟩; replace H : (if t33.size + (strOfNums y35).size ≤ 9223372036854775807 then (some (t33 ++ (strOfNums y35))) else (none)) = some r := by first | (rw [hy35]; with_reducible exact H) | (have H2_ := (Option.bind_some _ _).symm.trans H; rw [hy35]; with_reducible exact H2_) | (have H2_ := (Option.bind_some _ _).symm.trans H; with_reducible exact H2_) | with_reducible exact H | (rw [hy35]; exact H) | exact H
   have Ny35 := zA hy35; clear hy35
   by_cases c12 : t33.size + (strOfNums y35).size ≤ 9223372036854775807
   ·rw [if_pos c12] at H
    have c12b0 := eq_true c12; have c12b1 : decide (t33.size + (strOfNums y35).size ≤ 9223372036854775807) = true := zX c12
    try have c12b2 : (9223372036854775807 < t33.size + (strOfNums y35).size) = False := eq_false (Nat.not_lt.2 c12)
    obtain rfl := Option.some.inj H; go_enter Tryd.func35, Tryd.ntmps35; go_wp2_with (first | ((with_reducible refine gate_dst (N := 1) rfl ?_); refine box_event ?hg (N := 1) ?hd (cs := #[.int .i64 a0_0, .int .i64 a0_1, .string a0_2]) (t := 27) ?hr ?_; (case hd => rfl); (case hg => rfl); (case hr => first | (go_simp; done) | (go_simp; rfl)); intro gb37 hg w13 hbox hb; have n0_ := zA (zAD (by (with_reducible repeat first | exact HB.out | apply zH | apply zF | apply zG) <;> exact HB.out) hb); have n1_ := zA (hbox); have n2_ := zA ((by rw [hg]; exact (zAE (by (with_reducible repeat first | exact HB.out | apply zH | apply zF | apply zG) <;> exact HB.out)) : w.heap.size ≤ gb37)); have n3_ := zA ((by rw [hg]; exact (zAE (by (with_reducible repeat first | exact HB.out | apply zH | apply zF | apply zG) <;> exact HB.out)) : w.heap.size ≤ gb37)); clear HB; have HB := n0_; have BK37 := n1_; have GW37 := n2_; have GE37 := n3_; clear n0_ n1_ n2_ n3_; clear hb hbox hg; have hcz14_0 : w13.cell? ⟨gb37, 0, none⟩ = some (.int .i64 a0_0) := (zP BK37.out 0).trans rfl; have hcz14_1 : w13.cell? ⟨gb37, 1, none⟩ = some (.int .i64 a0_1) := (zP BK37.out 1).trans rfl; have hcz14_2 : w13.cell? ⟨gb37, 2, none⟩ = some (.string a0_2) := (zP BK37.out 2).trans rfl; have hfz14_0 := zO BK37.out 0; have hfz14_1 := zO BK37.out 1; have hfz14_2 := zO BK37.out 2) | ((with_reducible refine yB (f := 59) rfl ?_); refine goesL_ (some 7) rfl rfl Tryd.func59 (by kernel_rfl) rfl #[.int .i64 a0_0] rfl (by (try simp only [zAA, zAB, zAC]); first | done | rfl) ?_; (with_reducible refine (impl_oneByte.calls a0_0 t33 _ A2.out).mono ?_); rintro e w15 ⟨rfl, hb⟩; refine ⟨_, rfl, ?_⟩; have n0_ := zA (yE (g := gb37) (o := .cells #[.int .i64 a0_0, .int .i64 a0_1, .string a0_2] 27 (0, 0)) (by (with_reducible repeat (first | refine zL ?_ _ | refine zN ?_ | refine zM ?_ _)); exact BK37.out) hb); have n1_ := zA (zAD (by repeat (first | (with_reducible first | exact HB.out | apply zH | apply zF | apply zG | refine zI ?_ GE37.out) | exact HB.out)) hb); clear BK37; clear HB; have BK37 := n0_; have HB := n1_; clear n0_ n1_; (try clear hb); have hcz16_0 : w15.cell? ⟨gb37, 0, none⟩ = some (.int .i64 a0_0) := (zP BK37.out 0).trans rfl; have hcz16_1 : w15.cell? ⟨gb37, 1, none⟩ = some (.int .i64 a0_1) := (zP BK37.out 1).trans rfl; have hcz16_2 : w15.cell? ⟨gb37, 2, none⟩ = some (.string a0_2) := (zP BK37.out 2).trans rfl; have hfz16_0 := zO BK37.out 0; have hfz16_1 := zO BK37.out 1; have hfz16_2 := zO BK37.out 2) | ((with_reducible refine gate_dst (N := 34) rfl ?_); refine Kd.R_lit (Kd.int .u8) _ 5 ?hg (N := 34) ?hd (xs := ([((wrap64 (a0_1 + 1000000000)) / 16777216) % 256, ((wrap64 (a0_1 + 1000000000)) / 65536) % 256, ((wrap64 (a0_1 + 1000000000)) / 256) % 256, (wrap64 (a0_1 + 1000000000)) % 256] : List Int)) (inner := [.int .u8 (((wrap64 (a0_1 + 1000000000)) / 16777216) % 256), .int .u8 (((wrap64 (a0_1 + 1000000000)) / 65536) % 256), .int .u8 (((wrap64 (a0_1 + 1000000000)) / 256) % 256), .int .u8 ((wrap64 (a0_1 + 1000000000)) % 256)]) (ok := fun _ => True) (okp := fun _ => True) ?hr ?hp (fun _ hk => hk) trivial (Below.refl _ _) (Nat.le_refl _) (by simp) ?_; (case hd => rfl); (case hg => rfl); (case hr => first | (go_simp; done) | (go_simp; rfl)); (case hp => exact (Reps.one (show Kd.M (Kd.int .u8) _ _ _ (((wrap64 (a0_1 + 1000000000)) / 16777216) % 256) [.int .u8 (((wrap64 (a0_1 + 1000000000)) / 16777216) % 256)] from rfl) (Reps.one (show Kd.M (Kd.int .u8) _ _ _ (((wrap64 (a0_1 + 1000000000)) / 65536) % 256) [.int .u8 (((wrap64 (a0_1 + 1000000000)) / 65536) % 256)] from rfl) (Reps.one (show Kd.M (Kd.int .u8) _ _ _ (((wrap64 (a0_1 + 1000000000)) / 256) % 256) [.int .u8 (((wrap64 (a0_1 + 1000000000)) / 256) % 256)] from rfl) (Reps.one (show Kd.M (Kd.int .u8) _ _ _ ((wrap64 (a0_1 + 1000000000)) % 256) [.int .u8 ((wrap64 (a0_1 + 1000000000)) % 256)] from rfl) (Reps.none _ _)))))); intro v38 w17 ho18 hb hg_ hnew_; clear hg_ hnew_; (first | rw [← Ny35.out] at ho18 | (simp only [Int.reduceToNat] at ho18; rw [← Ny35.out] at ho18)); have n0_ := zA (Kd.R_lower ho18 (zAE (by repeat (first | (with_reducible first | exact HB.out | apply zH | apply zF | apply zG | refine zI ?_ GE37.out) | exact HB.out)))); have n1_ := zA (yE (g := gb37) (o := .cells #[.int .i64 a0_0, .int .i64 a0_1, .string a0_2] 27 (0, 0)) (by (with_reducible repeat (first | refine zL ?_ _ | refine zN ?_ | refine zM ?_ _)); exact BK37.out) hb); have n2_ := zA (zAD (by repeat (first | (with_reducible first | exact HB.out | apply zH | apply zF | apply zG | refine zI ?_ GE37.out) | exact HB.out)) hb); clear BK37; clear HB; have HO39 := n0_; have BK37 := n1_; have HB := n2_; clear n0_ n1_ n2_; clear hb ho18; have hcv19 := own_string (P := Tryd.prog) Tryd.underlying48 Tryd.underlying5 Tryd.underlying9 (Kd.own_of_R HO39.out))); go_ret; exact ⟨by first | rfl | (simp <;> rfl) | (simp [*] <;> rfl), by repeat (first | (with_reducible first | exact HB.out | apply zH | apply zF | apply zG | refine zI ?_ GE37.out) | exact HB.out)⟩
   ·rw [if_neg c12] at H
    exact absurd H (by simp)
  ·rw [if_neg c11] at H
   have c11b0 : (a0_0 == 3) = false := beq_eq_false_iff_ne.mpr c11; have c11b1 : (a0_0 != 3) = true := bne_iff_ne.mpr c11
   by_cases c20 : a0_0 = 4
   ·rw [if_pos c20] at H
    have c20b0 : (a0_0 == 4) = true := beq_iff_eq.mpr c20; have c20b1 : (a0_0 != 4) = false := bne_eq_false_iff_eq.mpr c20; clear c20; replace H := zAF H; obtain ⟨t36, A41, H⟩ := H; replace H : (if t36.size + 2 ≤ 9223372036854775807 then (if t33.size + (t36 ++ (⟨#[0, 0]⟩ : ByteArray)).size ≤ 9223372036854775807 then (some (t33 ++ (t36 ++ (⟨#[0, 0]⟩ : ByteArray)))) else (none)) else (none)) = some r := H; have A21 := zA A41; clear A41
    by_cases c22 : t36.size + 2 ≤ 9223372036854775807
    ·rw [if_pos c22] at H
     have c22b0 := eq_true c22; have c22b1 : decide (t36.size + 2 ≤ 9223372036854775807) = true := zX c22
     try have c22b2 : (9223372036854775807 < t36.size + 2) = False := eq_false (Nat.not_lt.2 c22)
     by_cases c23 : t33.size + (t36 ++ (⟨#[0, 0]⟩ : ByteArray)).size ≤ 9223372036854775807
     ·rw [if_pos c23] at H
      have c23b0 := eq_true c23; have c23b1 : decide (t33.size + (t36 ++ (⟨#[0, 0]⟩ : ByteArray)).size ≤ 9223372036854775807) = true := zX c23; (try (have c23b3 := (show t33.size + (t36 ++ (⟨#[0, 0]⟩ : ByteArray)).size ≤ 9223372036854775807 from c23); simp only [ByteArray.size_append, ByteArray.size_extract, Nat.min_self, Nat.sub_zero, show (⟨#[0, 0]⟩ : ByteArray).size = 2 from rfl] at c23b3; have c23b4 := eq_true c23b3; have c23b5 : decide (_) = true := zX c23b3; have c23b6 := eq_false (Nat.not_lt.2 c23b3); clear c23b3))
      try have c23b2 : (9223372036854775807 < t33.size + (t36 ++ (⟨#[0, 0]⟩ : ByteArray)).size) = False := eq_false (Nat.not_lt.2 c23)
      obtain rfl := Option.some.inj H; go_enter Tryd.func35, Tryd.ntmps35; go_wp2_with (first | ((with_reducible refine gate_dst (N := 1) rfl ?_); refine box_event ?hg (N := 1) ?hd (cs := #[.int .i64 a0_0, .int .i64 a0_1, .string a0_2]) (t := 27) ?hr ?_; (case hd => rfl); (case hg => rfl); (case hr => first | (go_simp; done) | (go_simp; rfl)); intro gb37 hg w24 hbox hb; have n0_ := zA (zAD (by (with_reducible repeat first | exact HB.out | apply zH | apply zF | apply zG) <;> exact HB.out) hb); have n1_ := zA (hbox); have n2_ := zA ((by rw [hg]; exact (zAE (by (with_reducible repeat first | exact HB.out | apply zH | apply zF | apply zG) <;> exact HB.out)) : w.heap.size ≤ gb37)); have n3_ := zA ((by rw [hg]; exact (zAE (by (with_reducible repeat first | exact HB.out | apply zH | apply zF | apply zG) <;> exact HB.out)) : w.heap.size ≤ gb37)); clear HB; have HB := n0_; have BK37 := n1_; have GW37 := n2_; have GE37 := n3_; clear n0_ n1_ n2_ n3_; clear hb hbox hg; have hcz25_0 : w24.cell? ⟨gb37, 0, none⟩ = some (.int .i64 a0_0) := (zP BK37.out 0).trans rfl; have hcz25_1 : w24.cell? ⟨gb37, 1, none⟩ = some (.int .i64 a0_1) := (zP BK37.out 1).trans rfl; have hcz25_2 : w24.cell? ⟨gb37, 2, none⟩ = some (.string a0_2) := (zP BK37.out 2).trans rfl; have hfz25_0 := zO BK37.out 0; have hfz25_1 := zO BK37.out 1; have hfz25_2 := zO BK37.out 2) | ((with_reducible refine yB (f := 59) rfl ?_); refine goesL_ (some 7) rfl rfl Tryd.func59 (by kernel_rfl) rfl #[.int .i64 a0_0] rfl (by (try simp only [zAA, zAB, zAC]); first | done | rfl) ?_; (with_reducible refine (impl_oneByte.calls a0_0 t33 _ A2.out).mono ?_); rintro e w26 ⟨rfl, hb⟩; refine ⟨_, rfl, ?_⟩; have n0_ := zA (yE (g := gb37) (o := .cells #[.int .i64 a0_0, .int .i64 a0_1, .string a0_2] 27 (0, 0)) (by (with_reducible repeat (first | refine zL ?_ _ | refine zN ?_ | refine zM ?_ _)); exact BK37.out) hb); have n1_ := zA (zAD (by repeat (first | (with_reducible first | exact HB.out | apply zH | apply zF | apply zG | refine zI ?_ GE37.out) | exact HB.out)) hb); clear BK37; clear HB; have BK37 := n0_; have HB := n1_; clear n0_ n1_; (try clear hb); have hcz27_0 : w26.cell? ⟨gb37, 0, none⟩ = some (.int .i64 a0_0) := (zP BK37.out 0).trans rfl; have hcz27_1 : w26.cell? ⟨gb37, 1, none⟩ = some (.int .i64 a0_1) := (zP BK37.out 1).trans rfl; have hcz27_2 : w26.cell? ⟨gb37, 2, none⟩ = some (.string a0_2) := (zP BK37.out 2).trans rfl; have hfz27_0 := zO BK37.out 0; have hfz27_1 := zO BK37.out 1; have hfz27_2 := zO BK37.out 2) | ((with_reducible refine yB (f := 60) rfl ?_); refine goesL_ (some 42) rfl rfl Tryd.func60 (by kernel_rfl) rfl #[.string a0_2, .string (⟨#[0]⟩ : ByteArray), .string (⟨#[0, 255]⟩ : ByteArray)] rfl (by (try simp only [zAA, zAB, zAC]); first | done | rfl) ?_; (with_reducible refine (strings_ReplaceAll.calls a0_2 (⟨#[0]⟩ : ByteArray) (⟨#[0, 255]⟩ : ByteArray) t36 _ A21.out).mono ?_); rintro e w28 ⟨rfl, hb⟩; refine ⟨_, rfl, ?_⟩; have n0_ := zA (yE (g := gb37) (o := .cells #[.int .i64 a0_0, .int .i64 a0_1, .string a0_2] 27 (0, 0)) (by (with_reducible repeat (first | refine zL ?_ _ | refine zN ?_ | refine zM ?_ _)); exact BK37.out) hb); have n1_ := zA (zAD (by repeat (first | (with_reducible first | exact HB.out | apply zH | apply zF | apply zG | refine zI ?_ GE37.out) | exact HB.out)) hb); clear BK37; clear HB; have BK37 := n0_; have HB := n1_; clear n0_ n1_; (try clear hb))); go_ret; exact ⟨by first | rfl | (simp <;> rfl) | (simp [*] <;> rfl), by repeat (first | (with_reducible first | exact HB.out | apply zH | apply zF | apply zG | refine zI ?_ GE37.out) | exact HB.out)⟩
     ·rw [if_neg c23] at H
      exact absurd H (by simp)
    ·rw [if_neg c22] at H
     exact absurd H (by simp)
   ·rw [if_neg c20] at H
    have c20b0 : (a0_0 == 4) = false := beq_eq_false_iff_ne.mpr c20; have c20b1 : (a0_0 != 4) = true := bne_iff_ne.mpr c20; obtain rfl := Option.some.inj H; go_enter Tryd.func35, Tryd.ntmps35; go_wp2_with (first | ((with_reducible refine gate_dst (N := 1) rfl ?_); refine box_event ?hg (N := 1) ?hd (cs := #[.int .i64 a0_0, .int .i64 a0_1, .string a0_2]) (t := 27) ?hr ?_; (case hd => rfl); (case hg => rfl); (case hr => first | (go_simp; done) | (go_simp; rfl)); intro gb37 hg w29 hbox hb; have n0_ := zA (zAD (by (with_reducible repeat first | exact HB.out | apply zH | apply zF | apply zG) <;> exact HB.out) hb); have n1_ := zA (hbox); have n2_ := zA ((by rw [hg]; exact (zAE (by (with_reducible repeat first | exact HB.out | apply zH | apply zF | apply zG) <;> exact HB.out)) : w.heap.size ≤ gb37)); have n3_ := zA ((by rw [hg]; exact (zAE (by (with_reducible repeat first | exact HB.out | apply zH | apply zF | apply zG) <;> exact HB.out)) : w.heap.size ≤ gb37)); clear HB; have HB := n0_; have BK37 := n1_; have GW37 := n2_; have GE37 := n3_; clear n0_ n1_ n2_ n3_; clear hb hbox hg; have hcz30_0 : w29.cell? ⟨gb37, 0, none⟩ = some (.int .i64 a0_0) := (zP BK37.out 0).trans rfl; have hcz30_1 : w29.cell? ⟨gb37, 1, none⟩ = some (.int .i64 a0_1) := (zP BK37.out 1).trans rfl; have hcz30_2 : w29.cell? ⟨gb37, 2, none⟩ = some (.string a0_2) := (zP BK37.out 2).trans rfl; have hfz30_0 := zO BK37.out 0; have hfz30_1 := zO BK37.out 1; have hfz30_2 := zO BK37.out 2) | ((with_reducible refine yB (f := 59) rfl ?_); refine goesL_ (some 7) rfl rfl Tryd.func59 (by kernel_rfl) rfl #[.int .i64 a0_0] rfl (by (try simp only [zAA, zAB, zAC]); first | done | rfl) ?_; (with_reducible refine (impl_oneByte.calls a0_0 t33 _ A2.out).mono ?_); rintro e w31 ⟨rfl, hb⟩; refine ⟨_, rfl, ?_⟩; have n0_ := zA (yE (g := gb37) (o := .cells #[.int .i64 a0_0, .int .i64 a0_1, .string a0_2] 27 (0, 0)) (by (with_reducible repeat (first | refine zL ?_ _ | refine zN ?_ | refine zM ?_ _)); exact BK37.out) hb); have n1_ := zA (zAD (by repeat (first | (with_reducible first | exact HB.out | apply zH | apply zF | apply zG | refine zI ?_ GE37.out) | exact HB.out)) hb); clear BK37; clear HB; have BK37 := n0_; have HB := n1_; clear n0_ n1_; (try clear hb); have hcz32_0 : w31.cell? ⟨gb37, 0, none⟩ = some (.int .i64 a0_0) := (zP BK37.out 0).trans rfl; have hcz32_1 : w31.cell? ⟨gb37, 1, none⟩ = some (.int .i64 a0_1) := (zP BK37.out 1).trans rfl; have hcz32_2 : w31.cell? ⟨gb37, 2, none⟩ = some (.string a0_2) := (zP BK37.out 2).trans rfl; have hfz32_0 := zO BK37.out 0; have hfz32_1 := zO BK37.out 1; have hfz32_2 := zO BK37.out 2)); go_ret; exact ⟨by first | rfl | (simp <;> rfl) | (simp [*] <;> rfl), by repeat (first | (with_reducible first | exact HB.out | apply zH | apply zF | apply zG | refine zI ?_ GE37.out) | exact HB.out)⟩
def impl_ValueBytes.f (a0_0 : Int) (a0_1 : Int) (a0_2 : ByteArray) : Option (ByteArray × Bool) := (impl_GoodValue.f a0_0 a0_1 a0_2).bind fun t10 => (if t10 = true then ((impl_Value_bytes.f a0_0 a0_1 a0_2).bind fun t11 => (some (t11, true))) else (some ((⟨#[]⟩ : ByteArray), false)))
theorem impl_ValueBytes.calls (a0_0 : Int) (a0_1 : Int) (a0_2 : ByteArray) (r1 : ByteArray) (r2 : Bool) (w : World) (h : impl_ValueBytes.f a0_0 a0_1 a0_2 = some (r1, r2)) :
  Calls Tryd.prog 11 #[.agg #[.int .i64 a0_0, .int .i64 a0_1, .string a0_2]] w fun e w' => e = .returned (.tuple #[.string r1, .bool r2]) ∧ Below w.heap.size w w' := by
 have hu27 := Tryd.underlying27; have HB := zA (Below.refl w.heap.size w); have H : ((impl_GoodValue.f a0_0 a0_1 a0_2).bind fun t13 => (if t13 = true then ((impl_Value_bytes.f a0_0 a0_1 a0_2).bind fun t14 => (some (t14, true))) else (some ((⟨#[]⟩ : ByteArray), false)))) = some (r1, r2) := h; clear h; replace H := zAF H; obtain ⟨t13, A20, H⟩ := H; replace H : (if t13 = true then ((impl_Value_bytes.f a0_0 a0_1 a0_2).bind fun t14 => (some (t14, true))) else (some ((⟨#[]⟩ : ByteArray), false))) = some (r1, r2) := H; have A2 := zA A20; clear A20
 by_cases c3 : t13 = true
 ·subst c3
  have H1 : ((impl_Value_bytes.f a0_0 a0_1 a0_2).bind fun t14 => (some (t14, true))) = some (r1, r2) := by rw [if_pos rfl] at H; exact H
  clear H; have H := H1; clear H1; replace H := zAF H; obtain ⟨t14, A40, H⟩ := H; replace H : (some (t14, true)) = some (r1, r2) := H; have A4 := zA A40; clear A40; simp only [Option.some.injEq, Prod.mk.injEq] at H; obtain ⟨rfl, rfl⟩ := H; go_enter Tryd.func11, Tryd.ntmps11; go_wp2_with (first | ((with_reducible refine gate_dst (N := 1) rfl ?_); refine box_event ?hg (N := 1) ?hd (cs := #[.int .i64 a0_0, .int .i64 a0_1, .string a0_2]) (t := 27) ?hr ?_; (case hd => rfl); (case hg => rfl); (case hr => first | (go_simp; done) | (go_simp; rfl)); intro gb15 hg w5 hbox hb; have n0_ := zA (zAD (by (with_reducible repeat first | exact HB.out | apply zH | apply zF | apply zG) <;> exact HB.out) hb); have n1_ := zA (hbox); have n2_ := zA ((by rw [hg]; exact (zAE (by (with_reducible repeat first | exact HB.out | apply zH | apply zF | apply zG) <;> exact HB.out)) : w.heap.size ≤ gb15)); have n3_ := zA ((by rw [hg]; exact (zAE (by (with_reducible repeat first | exact HB.out | apply zH | apply zF | apply zG) <;> exact HB.out)) : w.heap.size ≤ gb15)); clear HB; have HB := n0_; have BK15 := n1_; have GW15 := n2_; have GE15 := n3_; clear n0_ n1_ n2_ n3_; clear hb hbox hg; have hcz6_0 : w5.cell? ⟨gb15, 0, none⟩ = some (.int .i64 a0_0) := (zP BK15.out 0).trans rfl; have hcz6_1 : w5.cell? ⟨gb15, 1, none⟩ = some (.int .i64 a0_1) := (zP BK15.out 1).trans rfl; have hcz6_2 : w5.cell? ⟨gb15, 2, none⟩ = some (.string a0_2) := (zP BK15.out 2).trans rfl; have hfz6_0 := zO BK15.out 0; have hfz6_1 := zO BK15.out 1; have hfz6_2 := zO BK15.out 2) | ((with_reducible refine yB (f := 27) rfl ?_); refine goesL_ (some 5) rfl rfl Tryd.func27 (by kernel_rfl) rfl #[.agg #[.int .i64 a0_0, .int .i64 a0_1, .string a0_2]] rfl (by (try simp only [zAA, zAB, zAC]); first | done | rfl) ?_; (with_reducible refine (impl_GoodValue.calls a0_0 a0_1 a0_2 true _ A2.out).mono ?_); rintro e w7 ⟨rfl, hb⟩; refine ⟨_, rfl, ?_⟩; have n0_ := zA (yE (g := gb15) (o := .cells #[.int .i64 a0_0, .int .i64 a0_1, .string a0_2] 27 (0, 0)) (by (with_reducible repeat (first | refine zL ?_ _ | refine zN ?_ | refine zM ?_ _)); exact BK15.out) hb); have n1_ := zA (zAD (by repeat (first | (with_reducible first | exact HB.out | apply zH | apply zF | apply zG | refine zI ?_ GE15.out) | exact HB.out)) hb); clear BK15; clear HB; have BK15 := n0_; have HB := n1_; clear n0_ n1_; (try clear hb); have hcz8_0 : w7.cell? ⟨gb15, 0, none⟩ = some (.int .i64 a0_0) := (zP BK15.out 0).trans rfl; have hcz8_1 : w7.cell? ⟨gb15, 1, none⟩ = some (.int .i64 a0_1) := (zP BK15.out 1).trans rfl; have hcz8_2 : w7.cell? ⟨gb15, 2, none⟩ = some (.string a0_2) := (zP BK15.out 2).trans rfl; have hfz8_0 := zO BK15.out 0; have hfz8_1 := zO BK15.out 1; have hfz8_2 := zO BK15.out 2) | ((with_reducible refine yB (f := 35) rfl ?_); refine goesL_ (some 8) rfl rfl Tryd.func35 (by kernel_rfl) rfl #[.agg #[.int .i64 a0_0, .int .i64 a0_1, .string a0_2]] rfl (by (try simp only [zAA, zAB, zAC]); first | done | rfl) ?_; (with_reducible refine (impl_Value_bytes.calls a0_0 a0_1 a0_2 t14 _ A4.out).mono ?_); rintro e w9 ⟨rfl, hb⟩; refine ⟨_, rfl, ?_⟩; have n0_ := zA (yE (g := gb15) (o := .cells #[.int .i64 a0_0, .int .i64 a0_1, .string a0_2] 27 (0, 0)) (by (with_reducible repeat (first | refine zL ?_ _ | refine zN ?_ | refine zM ?_ _)); exact BK15.out) hb); have n1_ := zA (zAD (by repeat (first | (with_reducible first | exact HB.out | apply zH | apply zF | apply zG | refine zI ?_ GE15.out) | exact HB.out)) hb); clear BK15; clear HB; have BK15 := n0_; have HB := n1_; clear n0_ n1_; (try clear hb))); go_ret2; exact ⟨by first | rfl | (simp <;> rfl) | (simp [*] <;> rfl), by repeat (first | (with_reducible first | exact HB.out | apply zH | apply zF | apply zG | refine zI ?_ GE15.out) | exact HB.out)⟩
 ·replace c3 := Bool.eq_false_iff.mpr c3
  subst c3; have H1 : (some ((⟨#[]⟩ : ByteArray), false)) = some (r1, r2) := by rw [if_neg (show ¬ (false = true) by decide)] at H; exact H
  clear H; have H := H1; clear H1; simp only [Option.some.injEq, Prod.mk.injEq] at H; obtain ⟨rfl, rfl⟩ := H; go_enter Tryd.func11, Tryd.ntmps11; go_wp2_with (first | ((with_reducible refine gate_dst (N := 1) rfl ?_); refine box_event ?hg (N := 1) ?hd (cs := #[.int .i64 a0_0, .int .i64 a0_1, .string a0_2]) (t := 27) ?hr ?_; (case hd => rfl); (case hg => rfl); (case hr => first | (go_simp; done) | (go_simp; rfl)); intro gb15 hg w10 hbox hb; have n0_ := zA (zAD (by (with_reducible repeat first | exact HB.out | apply zH | apply zF | apply zG) <;> exact HB.out) hb); have n1_ := zA (hbox); have n2_ := zA ((by rw [hg]; exact (zAE (by (with_reducible repeat first | exact HB.out | apply zH | apply zF | apply zG) <;> exact HB.out)) : w.heap.size ≤ gb15)); have n3_ := zA ((by rw [hg]; exact (zAE (by (with_reducible repeat first | exact HB.out | apply zH | apply zF | apply zG) <;> exact HB.out)) : w.heap.size ≤ gb15)); clear HB; have HB := n0_; have BK15 := n1_; have GW15 := n2_; have GE15 := n3_; clear n0_ n1_ n2_ n3_; clear hb hbox hg; have hcz11_0 : w10.cell? ⟨gb15, 0, none⟩ = some (.int .i64 a0_0) := (zP BK15.out 0).trans rfl; have hcz11_1 : w10.cell? ⟨gb15, 1, none⟩ = some (.int .i64 a0_1) := (zP BK15.out 1).trans rfl; have hcz11_2 : w10.cell? ⟨gb15, 2, none⟩ = some (.string a0_2) := (zP BK15.out 2).trans rfl; have hfz11_0 := zO BK15.out 0; have hfz11_1 := zO BK15.out 1; have hfz11_2 := zO BK15.out 2) | ((with_reducible refine yB (f := 27) rfl ?_); refine goesL_ (some 5) rfl rfl Tryd.func27 (by kernel_rfl) rfl #[.agg #[.int .i64 a0_0, .int .i64 a0_1, .string a0_2]] rfl (by (try simp only [zAA, zAB, zAC]); first | done | rfl) ?_; (with_reducible refine (impl_GoodValue.calls a0_0 a0_1 a0_2 false _ A2.out).mono ?_); rintro e w12 ⟨rfl, hb⟩; refine ⟨_, rfl, ?_⟩; have n0_ := zA (yE (g := gb15) (o := .cells #[.int .i64 a0_0, .int .i64 a0_1, .string a0_2] 27 (0, 0)) (by (with_reducible repeat (first | refine zL ?_ _ | refine zN ?_ | refine zM ?_ _)); exact BK15.out) hb); have n1_ := zA (zAD (by repeat (first | (with_reducible first | exact HB.out | apply zH | apply zF | apply zG | refine zI ?_ GE15.out) | exact HB.out)) hb); clear BK15; clear HB; have BK15 := n0_; have HB := n1_; clear n0_ n1_; (try clear hb))); go_ret2; exact ⟨by first | rfl | (simp <;> rfl) | (simp [*] <;> rfl), by repeat (first | (with_reducible first | exact HB.out | apply zH | apply zF | apply zG | refine zI ?_ GE15.out) | exact HB.out)⟩
end Go.Proofs.YthhkkhnjkoacnaaDoor.PA
end
