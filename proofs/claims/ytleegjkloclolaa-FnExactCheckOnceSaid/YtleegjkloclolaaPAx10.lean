/- Laid by pprint.sh, a program of this workplace over the kit's print: functions of the program as plain Lean functions, and that the calls answer so. No condition. -/
import Derived.Test.YtleegjkloclolaaPAx0
namespace Go.Proofs.Ytleegjkloclolaa.PA
open Go.RowKit Go.Proofs.YtleegjkloclolaaW.PrintWords Go.Proofs.YtleegjkloclolaaW.PrintLast Go.Proofs.YtleegjkloclolaaW.PrintMore
attribute [local go_sem] max2_int min2_int max_two min_two max_three min_three max_four min_four   -- for this text's walks alone
set_option linter.unusedVariables false
set_option linter.unusedSimpArgs false

/-! ### spec_l6Bytes: function 73 -/
mutual
def spec_l6Bytes.l0 : Nat → ByteArray → List ByteArray → Int → Int → List ByteArray → List ByteArray → List ByteArray → Int → Option (ByteArray)
 | 0, _, _, _, _, _, _, _, _ => none
 | k + 1, x3, x15, x16, x17, x255000, x255001, x255002, x255003 => if x17 < x16 then (if 0 ≤ x17 then (if x17 < (x15.length : Int) then ((some (([(((rdOf ByteArray.empty x15 x17).size : Int)) % 256] : List Int) : List Int)).bind fun y259 => (if (strOfNums y259).size + (rdOf ByteArray.empty x15 x17).size ≤ 9223372036854775807 then (if x17 < (x255001.length : Int) then ((some (([(((rdOf ByteArray.empty x255001 x17).size : Int)) % 256] : List Int) : List Int)).bind fun y263 => (if ((strOfNums y259) ++ (rdOf ByteArray.empty x15 x17)).size + (strOfNums y263).size ≤ 9223372036854775807 then (if (((strOfNums y259) ++ (rdOf ByteArray.empty x15 x17)) ++ (strOfNums y263)).size + (rdOf ByteArray.empty x255001 x17).size ≤ 9223372036854775807 then (if x3.size + ((((strOfNums y259) ++ (rdOf ByteArray.empty x15 x17)) ++ (strOfNums y263)) ++ (rdOf ByteArray.empty x255001 x17)).size ≤ 9223372036854775807 then (spec_l6Bytes.l0 k (x3 ++ ((((strOfNums y259) ++ (rdOf ByteArray.empty x15 x17)) ++ (strOfNums y263)) ++ (rdOf ByteArray.empty x255001 x17))) x15 x16 (wrap64 (x17 + 1)) x255000 x255001 x255002 x255003) else (none)) else (none)) else (none))) else (none)) else (none))) else (none)) else (none)) else ((some (([((x255002.length : Int)) % 256] : List Int) : List Int)).bind fun y267 => (if x3.size + (strOfNums y267).size ≤ 9223372036854775807 then (spec_l6Bytes.l1 k (x3 ++ (strOfNums y267)) x255002 (x255002.length : Int) 0) else (none)))
def spec_l6Bytes.l1 : Nat → ByteArray → List ByteArray → Int → Int → Option (ByteArray)
 | 0, _, _, _, _ => none
 | k + 1, x3, x57, x58, x59 => if x59 < x58 then (if 0 ≤ x59 then (if x59 < (x57.length : Int) then (if x3.size + (rdOf ByteArray.empty x57 x59).size ≤ 9223372036854775807 then (spec_l6Bytes.l1 k (x3 ++ (rdOf ByteArray.empty x57 x59)) x57 x58 (wrap64 (x59 + 1))) else (none)) else (none)) else (none)) else (some x3)
end
def spec_l6Bytes.f (k : Nat) (l0_0 : List ByteArray) (l0_1 : List ByteArray) (l0_2 : List ByteArray) (a0_3 : Int) : Option (ByteArray) := spec_l6Bytes.l0 k (strOfNums (([((l0_0.length : Int)) % 256] : List Int))) l0_0 (l0_0.length : Int) 0 l0_0 l0_1 l0_2 a0_3
def spec_l6Bytes.T5 : Bool × List (List Nat × List Nat) := (true, [([], []), ([], []), ([1], [1]), ([2], [2]), ([3], [3]), ([4], [4]), ([], []), ([5, 6], [5, 6]), ([], []), ([8], [8]), ([], []), ([9, 10], [9, 10]), ([11], [11]), ([12], [12]), ([13], [13]), ([14], [14]), ([15], [15]), ([7, 16], [7, 16]), ([], []), ([18], [18]), ([], []), ([19, 20], [19, 20]), ([21], [21]), ([17, 22], [17, 22]), ([0, 23], [0, 23]), ([24, 0, 1, 2, 3, 4, 5, 6, 7, 8, 9, 10, 11, 12, 13, 14, 15, 16, 17, 18, 19, 20, 21, 22, 23, 24], [0, 24])])
def spec_l6Bytes.B5 : List Nat := [0, 0, 2, 6, 14, 30, 0, 126, 0, 256, 0, 1792, 3840, 7936, 16128, 32512, 65280, 131070, 0, 262144, 0, 1835008, 3932160, 8388606, 16777215, 33554431]
theorem spec_l6Bytes.tab5 : rtab .any (opsOf Try.f73 5) = spec_l6Bytes.T5 := by kernel_rfl
theorem spec_l6Bytes.bits5 : waitsOk spec_l6Bytes.T5.2 spec_l6Bytes.B5 = true := by kernel_rfl
set_option maxHeartbeats 8000000 in
set_option maxRecDepth 100000 in
theorem spec_l6Bytes.calls (k : Nat) (A0_0 : Option Addr) (c0_0 : Nat) (l0_0 : List ByteArray) (A0_1 : Option Addr) (c0_1 : Nat) (l0_1 : List ByteArray) (A0_2 : Option Addr) (c0_2 : Nat) (l0_2 : List ByteArray) (a0_3 : Int) (r : ByteArray) (w : World) (hr0_0 : Kd.C Kd.string w A0_0 l0_0.length l0_0) (hc0_0 : l0_0.length ≤ c0_0) (hr0_1 : Kd.C Kd.string w A0_1 l0_1.length l0_1) (hc0_1 : l0_1.length ≤ c0_1) (hr0_2 : Kd.C Kd.string w A0_2 l0_2.length l0_2) (hc0_2 : l0_2.length ≤ c0_2) (h : spec_l6Bytes.f k l0_0 l0_1 l0_2 a0_3 = some r) :
  Calls Try.prog 73 #[.agg #[.slice A0_0 l0_0.length c0_0, .slice A0_1 l0_1.length c0_1, .slice A0_2 l0_2.length c0_2, .int .i64 a0_3]] w fun e w' => e = .returned (.string r) ∧ Below w.heap.size w w' := by
 have hu33 := Try.underlying33
 have HR0_0 := Aside0.mk hr0_0
 have HC0_0 := Aside0.mk hc0_0
 clear hr0_0 hc0_0
 have HR0_1 := Aside0.mk hr0_1
 have HC0_1 := Aside0.mk hc0_1
 clear hr0_1 hc0_1
 have HR0_2 := Aside0.mk hr0_2
 have HC0_2 := Aside0.mk hc0_2
 clear hr0_2 hc0_2
 have HB := Aside0.mk (Below.refl w.heap.size w)
 have H : (spec_l6Bytes.l0 k (strOfNums (([((l0_0.length : Int)) % 256] : List Int))) l0_0 (l0_0.length : Int) 0 l0_0 l0_1 l0_2 a0_3) = some r := h
 clear h
 obtain ⟨y255, hy255⟩ : ∃ y_ : List Int, y_ = (([((l0_0.length : Int)) % 256] : List Int)) := ⟨_, rfl⟩
 replace H : (spec_l6Bytes.l0 k (strOfNums y255) l0_0 (l0_0.length : Int) 0 l0_0 l0_1 l0_2 a0_3) = some r := by first | (rw [hy255]; with_reducible exact H) | (have H2_ := (Option.bind_some _ _).symm.trans H; rw [hy255]; with_reducible exact H2_) | (have H2_ := (Option.bind_some _ _).symm.trans H; with_reducible exact H2_) | with_reducible exact H | (rw [hy255]; exact H) | exact H
 have Ny255 := Aside0.mk hy255
 clear hy255
 have H' := Aside0.mk H
 clear H
 go_enter Try.func73, Try.ntmps73
 go_wp2_with (first | ((with_reducible refine gate_dst (N := 1) rfl ?_); refine box_event ?hg (N := 1) ?hd (cs := #[.slice A0_0 l0_0.length c0_0, .slice A0_1 l0_1.length c0_1, .slice A0_2 l0_2.length c0_2, .int .i64 a0_3]) (t := 33) ?hr ?_; (case hd => rfl); (case hg => rfl); (case hr => first | (go_simp; done) | (go_simp; rfl)); intro gb254 hg w2 hbox hb; have n0_ := Aside0.mk (below_step (by repeat (first | (with_reducible first | exact HB.out | apply below_alloc | apply pw_below_drewN | apply below_drew1) | exact HB.out)) hb); have n1_ := Aside0.mk (hbox); have n2_ := Aside0.mk ((by rw [hg]; exact (below_size (by repeat (first | (with_reducible first | exact HB.out | apply below_alloc | apply pw_below_drewN | apply below_drew1) | exact HB.out))) : w.heap.size ≤ gb254)); have n3_ := Aside0.mk ((by rw [hg]; exact (below_size (by repeat (first | (with_reducible first | exact HB.out | apply below_alloc | apply pw_below_drewN | apply below_drew1) | exact HB.out))) : w.heap.size ≤ gb254)); clear HB; have HB := n0_; have BK254 := n1_; have GW254 := n2_; have GE254 := n3_; clear n0_ n1_ n2_ n3_; clear hb hbox hg; have hcz3_0 : w2.cell? ⟨gb254, 0, none⟩ = some (.slice A0_0 l0_0.length c0_0) := (blk_cell BK254.out 0).trans rfl; have hcz3_1 : w2.cell? ⟨gb254, 1, none⟩ = some (.slice A0_1 l0_1.length c0_1) := (blk_cell BK254.out 1).trans rfl; have hcz3_2 : w2.cell? ⟨gb254, 2, none⟩ = some (.slice A0_2 l0_2.length c0_2) := (blk_cell BK254.out 2).trans rfl; have hcz3_3 : w2.cell? ⟨gb254, 3, none⟩ = some (.int .i64 a0_3) := (blk_cell BK254.out 3).trans rfl; have hfz3_0 := blk_frozen BK254.out 0; have hfz3_1 := blk_frozen BK254.out 1; have hfz3_2 := blk_frozen BK254.out 2; have hfz3_3 := blk_frozen BK254.out 3) | ((with_reducible refine gate_dst (N := 12) rfl ?_); refine Kd.R_lit (Kd.int .u8) _ 5 ?hg (N := 12) ?hd (xs := ([((l0_0.length : Int)) % 256] : List Int)) (inner := [.int .u8 (((l0_0.length : Int)) % 256)]) (ok := fun _ => True) (okp := fun _ => True) ?hr ?hp (fun _ hk => hk) trivial (Below.refl _ _) (Nat.le_refl _) (by simp) ?_; (case hd => rfl); (case hg => rfl); (case hr => first | (go_simp; done) | (go_simp; rfl)); (case hp => exact (Reps.one (show Kd.M (Kd.int .u8) _ _ _ (((l0_0.length : Int)) % 256) [.int .u8 (((l0_0.length : Int)) % 256)] from rfl) (Reps.none _ _))); intro v256 w4 ho5 hb hg_ hnew_; clear hg_ hnew_; (first | rw [← Ny255.out] at ho5 | (simp only [Int.reduceToNat] at ho5; rw [← Ny255.out] at ho5)); have n0_ := Aside0.mk (Kd.R_lower ho5 (below_size (by repeat (first | (with_reducible first | exact HB.out | apply below_alloc | apply pw_below_drewN | apply below_drew1 | refine below_set ?_ GE254.out) | exact HB.out)))); have n1_ := Aside0.mk (blk_below (g := gb254) (o := .cells #[.slice A0_0 l0_0.length c0_0, .slice A0_1 l0_1.length c0_1, .slice A0_2 l0_2.length c0_2, .int .i64 a0_3] 33 (0, 0)) (by (with_reducible repeat (first | refine blk_drewN ?_ _ | refine blk_drew ?_ | refine blk_alloc ?_ _)); exact BK254.out) hb); have n2_ := Aside0.mk (below_step (by repeat (first | (with_reducible first | exact HB.out | apply below_alloc | apply pw_below_drewN | apply below_drew1 | refine below_set ?_ GE254.out) | exact HB.out)) hb); clear BK254; clear HB; have HO257 := n0_; have BK254 := n1_; have HB := n2_; clear n0_ n1_ n2_; clear hb ho5; have hcv6 := own_string (P := Try.prog) Try.underlying51 Try.underlying5 Try.underlying9 (Kd.own_of_R HO257.out); have hcz7_0 : w4.cell? ⟨gb254, 0, none⟩ = some (.slice A0_0 l0_0.length c0_0) := (blk_cell BK254.out 0).trans rfl; have hcz7_1 : w4.cell? ⟨gb254, 1, none⟩ = some (.slice A0_1 l0_1.length c0_1) := (blk_cell BK254.out 1).trans rfl; have hcz7_2 : w4.cell? ⟨gb254, 2, none⟩ = some (.slice A0_2 l0_2.length c0_2) := (blk_cell BK254.out 2).trans rfl; have hcz7_3 : w4.cell? ⟨gb254, 3, none⟩ = some (.int .i64 a0_3) := (blk_cell BK254.out 3).trans rfl; have hfz7_0 := blk_frozen BK254.out 0; have hfz7_1 := blk_frozen BK254.out 1; have hfz7_2 := blk_frozen BK254.out 2; have hfz7_3 := blk_frozen BK254.out 3))
 go_loopg [3, 17] k (fun kq v3 v17 w' => ∃ (x3_1 : ByteArray) (x17_1 : Int), v3 = .string x3_1 ∧ v17 = .int .i64 x17_1 ∧ Aside0 (spec_l6Bytes.l0 kq x3_1 l0_0 (l0_0.length : Int) x17_1 l0_0 l0_1 l0_2 a0_3 = some r) ∧ Aside0 (kq ≤ k) ∧ Aside0 (w'.heap[gb254]? = some (.cells #[(.slice A0_0 l0_0.length c0_0), (.slice A0_1 l0_1.length c0_1), (.slice A0_2 l0_2.length c0_2), .int .i64 a0_3] 33 (0, 0))) ∧ Aside0 (Below w.heap.size w w'))
 case atStart => exact ⟨(strOfNums y255), (0), (by first | rfl | (simp; done) | (simp [*]; done) | (simp [bne]; done)), (by first | rfl | (simp; done) | (simp [*]; done) | (simp [bne]; done)), H', ⟨Nat.le_refl _⟩, ⟨by (with_reducible repeat (first | refine blk_drewN ?_ _ | refine blk_drew ?_ | refine blk_alloc ?_ _)); exact BK254.out⟩, ⟨by repeat (first | (with_reducible first | exact HB.out | apply below_alloc | apply pw_below_drewN | apply below_drew1 | refine below_set ?_ GE254.out) | exact HB.out)⟩⟩
 case round =>
  clear H'
  try clear p2
  try clear hcv6
  try clear c7
  try clear hcz3_0
  try clear hcz3_1
  try clear hcz3_2
  try clear hcz3_3
  try clear hcz7_0
  try clear hcz7_1
  try clear hcz7_2
  try clear hcz7_3
  try clear hfz3_0
  try clear hfz3_1
  try clear hfz3_2
  try clear hfz3_3
  try clear hfz7_0
  try clear hfz7_1
  try clear hfz7_2
  try clear hfz7_3
  obtain ⟨x3_1, x17_1, rfl, rfl, HA, HK1, BK254, HB⟩ := hrel
  cases gk with
  | zero => exact absurd HA.out (by simp [spec_l6Bytes.l0])
  | succ k1 =>
   have H := HA.out
   clear HA
   simp only [spec_l6Bytes.l0] at H
   by_cases c8 : x17_1 < (l0_0.length : Int)
   ·rw [if_pos c8] at H
    have c8b0 : decide (x17_1 < (l0_0.length : Int)) = true := decide_eq_true c8
    clear c8
    by_cases c9 : 0 ≤ x17_1
    ·rw [if_pos c9] at H
     have c9b0 : decide (0 ≤ x17_1) = true := decide_eq_true c9
     clear c9
     by_cases c10 : x17_1 < (l0_0.length : Int)
     ·rw [if_pos c10] at H
      have c10b0 : decide (x17_1 < (l0_0.length : Int)) = true := decide_eq_true c10
      clear c10
      obtain ⟨y259, hy259⟩ : ∃ y_ : List Int, y_ = (([(((rdOf ByteArray.empty l0_0 x17_1).size : Int)) % 256] : List Int)) := ⟨_, rfl⟩
      replace H : (if (strOfNums y259).size + (rdOf ByteArray.empty l0_0 x17_1).size ≤ 9223372036854775807 then (if x17_1 < (l0_1.length : Int) then ((some (([(((rdOf ByteArray.empty l0_1 x17_1).size : Int)) % 256] : List Int) : List Int)).bind fun y263 => (if ((strOfNums y259) ++ (rdOf ByteArray.empty l0_0 x17_1)).size + (strOfNums y263).size ≤ 9223372036854775807 then (if (((strOfNums y259) ++ (rdOf ByteArray.empty l0_0 x17_1)) ++ (strOfNums y263)).size + (rdOf ByteArray.empty l0_1 x17_1).size ≤ 9223372036854775807 then (if x3_1.size + ((((strOfNums y259) ++ (rdOf ByteArray.empty l0_0 x17_1)) ++ (strOfNums y263)) ++ (rdOf ByteArray.empty l0_1 x17_1)).size ≤ 9223372036854775807 then (spec_l6Bytes.l0 k1 (x3_1 ++ ((((strOfNums y259) ++ (rdOf ByteArray.empty l0_0 x17_1)) ++ (strOfNums y263)) ++ (rdOf ByteArray.empty l0_1 x17_1))) l0_0 (l0_0.length : Int) (wrap64 (x17_1 + 1)) l0_0 l0_1 l0_2 a0_3) else (none)) else (none)) else (none))) else (none)) else (none)) = some r := by first | (rw [hy259]; with_reducible exact H) | (have H2_ := (Option.bind_some _ _).symm.trans H; rw [hy259]; with_reducible exact H2_) | (have H2_ := (Option.bind_some _ _).symm.trans H; with_reducible exact H2_) | with_reducible exact H | (rw [hy259]; exact H) | exact H
      have Ny259 := Aside0.mk hy259
      clear hy259
      by_cases c11 : (strOfNums y259).size + (rdOf ByteArray.empty l0_0 x17_1).size ≤ 9223372036854775807
      ·rw [if_pos c11] at H
       have c11b0 := eq_true c11
       have c11b1 : decide ((strOfNums y259).size + (rdOf ByteArray.empty l0_0 x17_1).size ≤ 9223372036854775807) = true := decide_eq_true c11
       try have c11b2 : (9223372036854775807 < (strOfNums y259).size + (rdOf ByteArray.empty l0_0 x17_1).size) = False := eq_false (Nat.not_lt.2 c11)
       by_cases c12 : x17_1 < (l0_1.length : Int)
       ·rw [if_pos c12] at H
        have c12b0 : decide (x17_1 < (l0_1.length : Int)) = true := decide_eq_true c12
        clear c12
        obtain ⟨y263, hy263⟩ : ∃ y_ : List Int, y_ = (([(((rdOf ByteArray.empty l0_1 x17_1).size : Int)) % 256] : List Int)) := ⟨_, rfl⟩
        replace H : (if ((strOfNums y259) ++ (rdOf ByteArray.empty l0_0 x17_1)).size + (strOfNums y263).size ≤ 9223372036854775807 then (if (((strOfNums y259) ++ (rdOf ByteArray.empty l0_0 x17_1)) ++ (strOfNums y263)).size + (rdOf ByteArray.empty l0_1 x17_1).size ≤ 9223372036854775807 then (if x3_1.size + ((((strOfNums y259) ++ (rdOf ByteArray.empty l0_0 x17_1)) ++ (strOfNums y263)) ++ (rdOf ByteArray.empty l0_1 x17_1)).size ≤ 9223372036854775807 then (spec_l6Bytes.l0 k1 (x3_1 ++ ((((strOfNums y259) ++ (rdOf ByteArray.empty l0_0 x17_1)) ++ (strOfNums y263)) ++ (rdOf ByteArray.empty l0_1 x17_1))) l0_0 (l0_0.length : Int) (wrap64 (x17_1 + 1)) l0_0 l0_1 l0_2 a0_3) else (none)) else (none)) else (none)) = some r := by first | (rw [hy263]; with_reducible exact H) | (have H2_ := (Option.bind_some _ _).symm.trans H; rw [hy263]; with_reducible exact H2_) | (have H2_ := (Option.bind_some _ _).symm.trans H; with_reducible exact H2_) | with_reducible exact H | (rw [hy263]; exact H) | exact H
        have Ny263 := Aside0.mk hy263
        clear hy263
        by_cases c13 : ((strOfNums y259) ++ (rdOf ByteArray.empty l0_0 x17_1)).size + (strOfNums y263).size ≤ 9223372036854775807
        ·rw [if_pos c13] at H
         have c13b0 := eq_true c13
         have c13b1 : decide (((strOfNums y259) ++ (rdOf ByteArray.empty l0_0 x17_1)).size + (strOfNums y263).size ≤ 9223372036854775807) = true := decide_eq_true c13
         (try (have c13b3 := (show ((strOfNums y259) ++ (rdOf ByteArray.empty l0_0 x17_1)).size + (strOfNums y263).size ≤ 9223372036854775807 from c13); simp only [ByteArray.size_append, ByteArray.size_extract, Nat.min_self, Nat.sub_zero] at c13b3; have c13b4 := eq_true c13b3; have c13b5 : decide (_) = true := decide_eq_true c13b3; have c13b6 := eq_false (Nat.not_lt.2 c13b3); clear c13b3))
         try have c13b2 : (9223372036854775807 < ((strOfNums y259) ++ (rdOf ByteArray.empty l0_0 x17_1)).size + (strOfNums y263).size) = False := eq_false (Nat.not_lt.2 c13)
         by_cases c14 : (((strOfNums y259) ++ (rdOf ByteArray.empty l0_0 x17_1)) ++ (strOfNums y263)).size + (rdOf ByteArray.empty l0_1 x17_1).size ≤ 9223372036854775807
         ·rw [if_pos c14] at H
          have c14b0 := eq_true c14
          have c14b1 : decide ((((strOfNums y259) ++ (rdOf ByteArray.empty l0_0 x17_1)) ++ (strOfNums y263)).size + (rdOf ByteArray.empty l0_1 x17_1).size ≤ 9223372036854775807) = true := decide_eq_true c14
          (try (have c14b3 := (show (((strOfNums y259) ++ (rdOf ByteArray.empty l0_0 x17_1)) ++ (strOfNums y263)).size + (rdOf ByteArray.empty l0_1 x17_1).size ≤ 9223372036854775807 from c14); simp only [ByteArray.size_append, ByteArray.size_extract, Nat.min_self, Nat.sub_zero] at c14b3; have c14b4 := eq_true c14b3; have c14b5 : decide (_) = true := decide_eq_true c14b3; have c14b6 := eq_false (Nat.not_lt.2 c14b3); clear c14b3))
          try have c14b2 : (9223372036854775807 < (((strOfNums y259) ++ (rdOf ByteArray.empty l0_0 x17_1)) ++ (strOfNums y263)).size + (rdOf ByteArray.empty l0_1 x17_1).size) = False := eq_false (Nat.not_lt.2 c14)
          by_cases c15 : x3_1.size + ((((strOfNums y259) ++ (rdOf ByteArray.empty l0_0 x17_1)) ++ (strOfNums y263)) ++ (rdOf ByteArray.empty l0_1 x17_1)).size ≤ 9223372036854775807
          ·rw [if_pos c15] at H
           have c15b0 := eq_true c15
           have c15b1 : decide (x3_1.size + ((((strOfNums y259) ++ (rdOf ByteArray.empty l0_0 x17_1)) ++ (strOfNums y263)) ++ (rdOf ByteArray.empty l0_1 x17_1)).size ≤ 9223372036854775807) = true := decide_eq_true c15
           (try (have c15b3 := (show x3_1.size + ((((strOfNums y259) ++ (rdOf ByteArray.empty l0_0 x17_1)) ++ (strOfNums y263)) ++ (rdOf ByteArray.empty l0_1 x17_1)).size ≤ 9223372036854775807 from c15); simp only [ByteArray.size_append, ByteArray.size_extract, Nat.min_self, Nat.sub_zero] at c15b3; have c15b4 := eq_true c15b3; have c15b5 : decide (_) = true := decide_eq_true c15b3; have c15b6 := eq_false (Nat.not_lt.2 c15b3); clear c15b3))
           try have c15b2 : (9223372036854775807 < x3_1.size + ((((strOfNums y259) ++ (rdOf ByteArray.empty l0_0 x17_1)) ++ (strOfNums y263)) ++ (rdOf ByteArray.empty l0_1 x17_1)).size) = False := eq_false (Nat.not_lt.2 c15)
           have H' := Aside0.mk H
           clear H
           have p258 : 0 ≤ (x17_1 : Int) := of_decide_eq_true (by first | (with_reducible assumption) | assumption)
           have q258 : x17_1 < (l0_0.length : Int) := of_decide_eq_true (by first | (with_reducible assumption) | assumption)
           obtain ⟨ad258, e258, hx258_0⟩ := Kd.at_string HR0_0.out x17_1 p258 q258
           cases e258
           replace hx258_0 := (HB.out.cell (World.block_lt_of_cell? w _ hx258_0)).trans hx258_0
           replace p258 := eq_true p258
           replace q258 := eq_true q258
           try go_wp2
           have n0_ := Aside0.mk (blk_drew BK254.out)
           have n1_ := Aside0.mk (below_drew1 HB.out)
           clear BK254
           clear HB
           have BK254 := n0_
           have HB := n1_
           clear n0_ n1_
           have p262 : 0 ≤ (x17_1 : Int) := of_decide_eq_true (by first | (with_reducible assumption) | assumption)
           have q262 : x17_1 < (l0_1.length : Int) := of_decide_eq_true (by first | (with_reducible assumption) | assumption)
           obtain ⟨ad262, e262, hx262_0⟩ := Kd.at_string HR0_1.out x17_1 p262 q262
           have hw262_0 := hx262_0
           cases e262
           replace hx262_0 := (HB.out.cell (World.block_lt_of_cell? w _ hx262_0)).trans hx262_0
           replace p262 := eq_true p262
           replace q262 := eq_true q262
           have p266 : 0 ≤ (x17_1 : Int) := of_decide_eq_true (by first | (with_reducible assumption) | assumption)
           have q266 : x17_1 < (l0_1.length : Int) := of_decide_eq_true (by first | (with_reducible assumption) | assumption)
           obtain ⟨ad266, e266, hx266_0⟩ := Kd.at_string HR0_1.out x17_1 p266 q266
           have hw266_0 := hx266_0
           obtain rfl : ad262 = ad266 := (by injection e266)
           replace hx266_0 := (HB.out.cell (World.block_lt_of_cell? w _ hx266_0)).trans hx266_0
           replace p266 := eq_true p266
           replace q266 := eq_true q266
           refine start_ (n := 26) (S := fun w' => w'.cell? ⟨gb254, 0, none⟩ = some (.slice (some ad258) l0_0.length c0_0) ∧ w'.cell? ⟨gb254, 1, none⟩ = some (.slice (some ad262) l0_1.length c0_1) ∧ w'.cell? ⟨gb254, 2, none⟩ = some (.slice A0_2 l0_2.length c0_2) ∧ w'.cell? ⟨gb254, 3, none⟩ = some (.int .i64 a0_3) ∧ w'.cell? (ad262.add (x17_1).toNat) = some (.string (rdOf ByteArray.empty l0_1 x17_1)) ∧ w'.cell? (ad262.add (x17_1).toNat) = some (.string (rdOf ByteArray.empty l0_1 x17_1))) (ds := []) #[false, false, false, false, false, false, false, false, false, false, false, false, false, false, false, false, false, false, false, false, false, false, false, false, false, false] (by kernel_rfl) rfl rfl ⟨(blk_cell BK254.out 0).trans rfl, (blk_cell BK254.out 1).trans rfl, (blk_cell BK254.out 2).trans rfl, (blk_cell BK254.out 3).trans rfl, ((HB.out.cell (World.block_lt_of_cell? w _ hw262_0)).trans hw262_0), ((HB.out.cell (World.block_lt_of_cell? w _ hw266_0)).trans hw266_0)⟩ (fun hHeld => ?_); refine with_tabW spec_l6Bytes.tab5 spec_l6Bytes.bits5 (fun HT_ HW_ => ?_)
           generalize wr.drew = w16 at BK254 HB hx262_0 hx266_0 hHeld ⊢
           refine pure_ (i := 0) (N := some 22) (v := ?_) (a' := ?_) #[true, false, false, false, false, false, false, false, false, false, false, false, false, false, false, false, false, false, false, false, false, false, false, false, false, false] rfl rfl (any_of HT_.out (by kernel_rfl)) (fun _ _ _ h => h) (Or.inl ⟨by rfl, ?_⟩) ?_ ?_
           rotate_left
           ·intro w'
            go_simp
            with_reducible rfl
           rotate_left
           ·simp only [Act.put, List.setIfInBounds_toArray, List.set_cons_zero, List.set_cons_succ, i64_w, i32_w]
            rfl
           refine pure_ (i := 1) (N := some 23) (v := ?_) (a' := ?_) #[true, true, false, false, false, false, false, false, false, false, false, false, false, false, false, false, false, false, false, false, false, false, false, false, false, false] rfl rfl (any_of HT_.out (by kernel_rfl)) (fun _ _ _ h => h) (Or.inl ⟨by rfl, ?_⟩) ?_ ?_
           rotate_left
           ·intro w'
            go_simp
            with_reducible rfl
           rotate_left
           ·simp only [Act.put, List.setIfInBounds_toArray, List.set_cons_zero, List.set_cons_succ, i64_w, i32_w]
            rfl
           refine pure_ (i := 2) (N := some 24) (v := ?_) (a' := ?_) #[true, true, true, false, false, false, false, false, false, false, false, false, false, false, false, false, false, false, false, false, false, false, false, false, false, false] rfl rfl (any_of HT_.out (by kernel_rfl)) (fun _ _ _ h => h) (Or.inl ⟨by rfl, ?_⟩) ?_ ?_
           rotate_left
           ·intro w'
            go_simp
            with_reducible rfl
           rotate_left
           ·simp only [Act.put, List.setIfInBounds_toArray, List.set_cons_zero, List.set_cons_succ, i64_w, i32_w]
            rfl
           refine pure_ (i := 3) (N := some 25) (v := ?_) (a' := ?_) #[true, true, true, true, false, false, false, false, false, false, false, false, false, false, false, false, false, false, false, false, false, false, false, false, false, false] rfl rfl (any_of HT_.out (by kernel_rfl)) (fun _ _ _ h => h) (Or.inl ⟨by rfl, ?_⟩) ?_ ?_
           rotate_left
           ·intro w'
            go_simp
            with_reducible rfl
           rotate_left
           ·simp only [Act.put, List.setIfInBounds_toArray, List.set_cons_zero, List.set_cons_succ, i64_w, i32_w]
            rfl
           refine pure_ (i := 6) (N := some 28) (v := ?_) (a' := ?_) #[true, true, true, true, false, false, true, false, false, false, false, false, false, false, false, false, false, false, false, false, false, false, false, false, false, false] rfl rfl (any_of HT_.out (by kernel_rfl)) (fun _ _ _ h => h) (Or.inl ⟨by rfl, ?_⟩) ?_ ?_
           rotate_left
           ·intro w'
            go_simp
            with_reducible rfl
           rotate_left
           ·simp only [Act.put, List.setIfInBounds_toArray, List.set_cons_zero, List.set_cons_succ, i64_w, i32_w]
            rfl
           refine pure_ (i := 8) (N := some 30) (v := ?_) (a' := ?_) #[true, true, true, true, false, false, true, false, true, false, false, false, false, false, false, false, false, false, false, false, false, false, false, false, false, false] rfl rfl (any_of HT_.out (by kernel_rfl)) (fun _ _ _ h => h) (Or.inl ⟨by rfl, ?_⟩) ?_ ?_
           rotate_left
           ·intro w'
            go_simp
            with_reducible rfl
           rotate_left
           ·simp only [Act.put, List.setIfInBounds_toArray, List.set_cons_zero, List.set_cons_succ, i64_w, i32_w]
            rfl
           refine pure_ (i := 10) (N := some 32) (v := ?_) (a' := ?_) #[true, true, true, true, false, false, true, false, true, false, true, false, false, false, false, false, false, false, false, false, false, false, false, false, false, false] rfl rfl (any_of HT_.out (by kernel_rfl)) (fun _ _ _ h => h) (Or.inl ⟨by rfl, ?_⟩) ?_ ?_
           rotate_left
           ·intro w'
            go_simp
            with_reducible rfl
           rotate_left
           ·simp only [Act.put, List.setIfInBounds_toArray, List.set_cons_zero, List.set_cons_succ, i64_w, i32_w]
            rfl
           refine pure_ (i := 18) (N := some 40) (v := ?_) (a' := ?_) #[true, true, true, true, false, false, true, false, true, false, true, false, false, false, false, false, false, false, true, false, false, false, false, false, false, false] rfl rfl (any_of HT_.out (by kernel_rfl)) (fun _ _ _ h => h) (Or.inl ⟨by rfl, ?_⟩) ?_ ?_
           rotate_left
           ·intro w'
            go_simp
            with_reducible rfl
           rotate_left
           ·simp only [Act.put, List.setIfInBounds_toArray, List.set_cons_zero, List.set_cons_succ, i64_w, i32_w]
            rfl
           refine pure_ (i := 20) (N := some 42) (v := ?_) (a' := ?_) #[true, true, true, true, false, false, true, false, true, false, true, false, false, false, false, false, false, false, true, false, true, false, false, false, false, false] rfl rfl (any_of HT_.out (by kernel_rfl)) (fun _ _ _ h => h) (Or.inl ⟨by rfl, ?_⟩) ?_ ?_
           rotate_left
           ·intro w'
            go_simp
            with_reducible rfl
           rotate_left
           ·simp only [Act.put, List.setIfInBounds_toArray, List.set_cons_zero, List.set_cons_succ, i64_w, i32_w]
            rfl
           refine take_ (i := 9) (N := some 31) (v := ?_) (a' := ?_) #[true, true, true, true, false, false, true, false, true, true, true, false, false, false, false, false, false, false, true, false, true, false, false, false, false, false] rfl rfl (take_ofW HT_.out HW_.out (by kernel_rfl)) (fun _ _ _ h => h) (Or.inl ⟨by rfl, ?_⟩) hHeld ?_ ?_
           rotate_left
           ·rintro w' ⟨s0, s1, s2, s3, s4, s5⟩
            go_simp
            with_reducible rfl
           rotate_left
           ·simp only [Act.put, List.setIfInBounds_toArray, List.set_cons_zero, List.set_cons_succ, i64_w, i32_w]
            rfl
           refine pure_ (i := 11) (N := some 33) (v := ?_) (a' := ?_) #[true, true, true, true, false, false, true, false, true, true, true, true, false, false, false, false, false, false, true, false, true, false, false, false, false, false] rfl rfl (any_of HT_.out (by kernel_rfl)) (fun _ _ _ h => h) (Or.inl ⟨by rfl, ?_⟩) ?_ ?_
           rotate_left
           ·intro w'
            go_simp
            with_reducible rfl
           rotate_left
           ·simp only [Act.put, List.setIfInBounds_toArray, List.set_cons_zero, List.set_cons_succ, i64_w, i32_w]
            rfl
           refine take_ (i := 12) (N := some 34) (v := ?_) (a' := ?_) #[true, true, true, true, false, false, true, false, true, true, true, true, true, false, false, false, false, false, true, false, true, false, false, false, false, false] rfl rfl (take_ofW HT_.out HW_.out (by kernel_rfl)) (fun _ _ _ h => h) (Or.inl ⟨by rfl, ?_⟩) hHeld ?_ ?_
           rotate_left
           ·rintro w' ⟨s0, s1, s2, s3, s4, s5⟩
            go_simp
            with_reducible rfl
           rotate_left
           ·simp only [Act.put, List.setIfInBounds_toArray, List.set_cons_zero, List.set_cons_succ, i64_w, i32_w]
            rfl
           refine pure_ (i := 13) (N := some 35) (v := ?_) (a' := ?_) #[true, true, true, true, false, false, true, false, true, true, true, true, true, true, false, false, false, false, true, false, true, false, false, false, false, false] rfl rfl (any_of HT_.out (by kernel_rfl)) (fun _ _ _ h => h) (Or.inl ⟨by rfl, ?_⟩) ?_ ?_
           rotate_left
           ·intro w'
            go_simp
            with_reducible rfl
           rotate_left
           ·simp only [Act.put, List.setIfInBounds_toArray, List.set_cons_zero, List.set_cons_succ, i64_w, i32_w]
            rfl
           refine pure_ (i := 14) (N := some 36) (v := ?_) (a' := ?_) #[true, true, true, true, false, false, true, false, true, true, true, true, true, true, true, false, false, false, true, false, true, false, false, false, false, false] rfl rfl (any_of HT_.out (by kernel_rfl)) (fun _ _ _ h => h) (Or.inl ⟨by rfl, ?_⟩) ?_ ?_
           rotate_left
           ·intro w'
            go_simp
            with_reducible rfl
           rotate_left
           ·simp only [Act.put, List.setIfInBounds_toArray, List.set_cons_zero, List.set_cons_succ, i64_w, i32_w]
            rfl
           refine take_ (i := 19) (N := some 41) (v := ?_) (a' := ?_) #[true, true, true, true, false, false, true, false, true, true, true, true, true, true, true, false, false, false, true, true, true, false, false, false, false, false] rfl rfl (take_ofW HT_.out HW_.out (by kernel_rfl)) (fun _ _ _ h => h) (Or.inl ⟨by rfl, ?_⟩) hHeld ?_ ?_
           rotate_left
           ·rintro w' ⟨s0, s1, s2, s3, s4, s5⟩
            go_simp
            with_reducible rfl
           rotate_left
           ·simp only [Act.put, List.setIfInBounds_toArray, List.set_cons_zero, List.set_cons_succ, i64_w, i32_w]
            rfl
           refine pure_ (i := 21) (N := some 43) (v := ?_) (a' := ?_) #[true, true, true, true, false, false, true, false, true, true, true, true, true, true, true, false, false, false, true, true, true, true, false, false, false, false] rfl rfl (any_of HT_.out (by kernel_rfl)) (fun _ _ _ h => h) (Or.inl ⟨by rfl, ?_⟩) ?_ ?_
           rotate_left
           ·intro w'
            go_simp
            with_reducible rfl
           rotate_left
           ·simp only [Act.put, List.setIfInBounds_toArray, List.set_cons_zero, List.set_cons_succ, i64_w, i32_w]
            rfl
           refine take_ (i := 22) (N := some 44) (v := ?_) (a' := ?_) #[true, true, true, true, false, false, true, false, true, true, true, true, true, true, true, false, false, false, true, true, true, true, true, false, false, false] rfl rfl (take_ofW HT_.out HW_.out (by kernel_rfl)) (fun _ _ _ h => h) (Or.inl ⟨by rfl, ?_⟩) hHeld ?_ ?_
           rotate_left
           ·rintro w' ⟨s0, s1, s2, s3, s4, s5⟩
            go_simp
            with_reducible rfl
           rotate_left
           ·simp only [Act.put, List.setIfInBounds_toArray, List.set_cons_zero, List.set_cons_succ, i64_w, i32_w]
            rfl
           refine join_ (σ := Value × Value) 4 #[true, true, true, true, true, true, true, true, true, true, true, true, true, true, true, true, true, false, true, true, true, true, true, false, false, false] (fun s_ => [(26, s_.1), (27, .string (strOfNums y259)), (37, s_.2), (38, .string (strOfNums y263)), (29, .string ((strOfNums y259) ++ (rdOf ByteArray.empty l0_0 x17_1)))]) (fun s_ w' => (w'.cell? ⟨gb254, 0, none⟩ = some (.slice (some ad258) l0_0.length c0_0) ∧ w'.cell? ⟨gb254, 1, none⟩ = some (.slice (some ad262) l0_1.length c0_1) ∧ w'.cell? ⟨gb254, 2, none⟩ = some (.slice A0_2 l0_2.length c0_2) ∧ w'.cell? ⟨gb254, 3, none⟩ = some (.int .i64 a0_3) ∧ w'.cell? (ad262.add (x17_1).toNat) = some (.string (rdOf ByteArray.empty l0_1 x17_1)) ∧ w'.cell? (ad262.add (x17_1).toNat) = some (.string (rdOf ByteArray.empty l0_1 x17_1))) ∧ (Kd.R (Kd.int .u8) 5 w' w.heap.size (fun k_ => some k_ ≠ (s_.2 : Value).ownBlock) s_.1 y259) ∧ (Kd.R (Kd.int .u8) 5 w' w.heap.size (fun k_ => some k_ ≠ (s_.1 : Value).ownBlock) s_.2 y263) ∧ (w'.heap[gb254]? = some (.cells #[.slice (some ad258) l0_0.length c0_0, .slice (some ad262) l0_1.length c0_1, .slice A0_2 l0_2.length c0_2, .int .i64 a0_3] 33 (0, 0))) ∧ (Below w.heap.size w w')) ?_ ?_
           rotate_left
           ·intro hJ4_5_15_16
            refine join_ (σ := Value × Value) 5 #[true, true, true, true, true, true, true, true, true, true, true, true, true, true, true, true, false, false, true, true, true, true, true, false, false, false] (fun s_ => [(26, s_.1), (27, .string (strOfNums y259)), (37, s_.2), (29, .string ((strOfNums y259) ++ (rdOf ByteArray.empty l0_0 x17_1)))]) (fun s_ w' => (w'.cell? ⟨gb254, 0, none⟩ = some (.slice (some ad258) l0_0.length c0_0) ∧ w'.cell? ⟨gb254, 1, none⟩ = some (.slice (some ad262) l0_1.length c0_1) ∧ w'.cell? ⟨gb254, 2, none⟩ = some (.slice A0_2 l0_2.length c0_2) ∧ w'.cell? ⟨gb254, 3, none⟩ = some (.int .i64 a0_3) ∧ w'.cell? (ad262.add (x17_1).toNat) = some (.string (rdOf ByteArray.empty l0_1 x17_1)) ∧ w'.cell? (ad262.add (x17_1).toNat) = some (.string (rdOf ByteArray.empty l0_1 x17_1))) ∧ (Kd.R (Kd.int .u8) 5 w' w.heap.size (fun k_ => some k_ ≠ (s_.2 : Value).ownBlock) s_.1 y259) ∧ (Kd.R (Kd.int .u8) 5 w' w.heap.size (fun k_ => some k_ ≠ (s_.1 : Value).ownBlock) s_.2 y263) ∧ (w'.heap[gb254]? = some (.cells #[.slice (some ad258) l0_0.length c0_0, .slice (some ad262) l0_1.length c0_1, .slice A0_2 l0_2.length c0_2, .int .i64 a0_3] 33 (0, 0))) ∧ (Below w.heap.size w w')) ?_ ?_
            rotate_left
            ·intro hJ4_5_15
             refine join_ (σ := Value × Value) 6 #[true, true, true, true, true, false, true, false, true, true, true, true, true, true, true, true, true, false, true, true, true, true, true, false, false, false] (fun s_ => [(26, s_.1), (37, s_.2), (38, .string (strOfNums y263))]) (fun s_ w' => (w'.cell? ⟨gb254, 0, none⟩ = some (.slice (some ad258) l0_0.length c0_0) ∧ w'.cell? ⟨gb254, 1, none⟩ = some (.slice (some ad262) l0_1.length c0_1) ∧ w'.cell? ⟨gb254, 2, none⟩ = some (.slice A0_2 l0_2.length c0_2) ∧ w'.cell? ⟨gb254, 3, none⟩ = some (.int .i64 a0_3) ∧ w'.cell? (ad262.add (x17_1).toNat) = some (.string (rdOf ByteArray.empty l0_1 x17_1)) ∧ w'.cell? (ad262.add (x17_1).toNat) = some (.string (rdOf ByteArray.empty l0_1 x17_1))) ∧ (Kd.R (Kd.int .u8) 5 w' w.heap.size (fun k_ => some k_ ≠ (s_.2 : Value).ownBlock) s_.1 y259) ∧ (Kd.R (Kd.int .u8) 5 w' w.heap.size (fun k_ => some k_ ≠ (s_.1 : Value).ownBlock) s_.2 y263) ∧ (w'.heap[gb254]? = some (.cells #[.slice (some ad258) l0_0.length c0_0, .slice (some ad262) l0_1.length c0_1, .slice A0_2 l0_2.length c0_2, .int .i64 a0_3] 33 (0, 0))) ∧ (Below w.heap.size w w')) ?_ ?_
             rotate_left
             ·intro hJ4_15_16
              refine join_ (σ := Value) 6 #[true, true, true, true, true, true, true, true, true, true, true, true, true, true, true, false, false, false, true, true, true, true, true, false, false, false] (fun s_ => [(26, s_), (27, .string (strOfNums y259)), (29, .string ((strOfNums y259) ++ (rdOf ByteArray.empty l0_0 x17_1)))]) (fun s_ w' => (w'.cell? ⟨gb254, 0, none⟩ = some (.slice (some ad258) l0_0.length c0_0) ∧ w'.cell? ⟨gb254, 1, none⟩ = some (.slice (some ad262) l0_1.length c0_1) ∧ w'.cell? ⟨gb254, 2, none⟩ = some (.slice A0_2 l0_2.length c0_2) ∧ w'.cell? ⟨gb254, 3, none⟩ = some (.int .i64 a0_3) ∧ w'.cell? (ad262.add (x17_1).toNat) = some (.string (rdOf ByteArray.empty l0_1 x17_1)) ∧ w'.cell? (ad262.add (x17_1).toNat) = some (.string (rdOf ByteArray.empty l0_1 x17_1))) ∧ (Kd.R (Kd.int .u8) 5 w' w.heap.size (fun _ => True) s_ y259) ∧ (w'.heap[gb254]? = some (.cells #[.slice (some ad258) l0_0.length c0_0, .slice (some ad262) l0_1.length c0_1, .slice A0_2 l0_2.length c0_2, .int .i64 a0_3] 33 (0, 0))) ∧ (Below w.heap.size w w')) ?_ ?_
              rotate_left
              ·intro hJ4_5
               refine join_ (σ := Value × Value) 7 #[true, true, true, true, true, false, true, false, true, true, true, true, true, true, true, true, false, false, true, true, true, true, true, false, false, false] (fun s_ => [(26, s_.1), (37, s_.2)]) (fun s_ w' => (w'.cell? ⟨gb254, 0, none⟩ = some (.slice (some ad258) l0_0.length c0_0) ∧ w'.cell? ⟨gb254, 1, none⟩ = some (.slice (some ad262) l0_1.length c0_1) ∧ w'.cell? ⟨gb254, 2, none⟩ = some (.slice A0_2 l0_2.length c0_2) ∧ w'.cell? ⟨gb254, 3, none⟩ = some (.int .i64 a0_3) ∧ w'.cell? (ad262.add (x17_1).toNat) = some (.string (rdOf ByteArray.empty l0_1 x17_1)) ∧ w'.cell? (ad262.add (x17_1).toNat) = some (.string (rdOf ByteArray.empty l0_1 x17_1))) ∧ (Kd.R (Kd.int .u8) 5 w' w.heap.size (fun k_ => some k_ ≠ (s_.2 : Value).ownBlock) s_.1 y259) ∧ (Kd.R (Kd.int .u8) 5 w' w.heap.size (fun k_ => some k_ ≠ (s_.1 : Value).ownBlock) s_.2 y263) ∧ (w'.heap[gb254]? = some (.cells #[.slice (some ad258) l0_0.length c0_0, .slice (some ad262) l0_1.length c0_1, .slice A0_2 l0_2.length c0_2, .int .i64 a0_3] 33 (0, 0))) ∧ (Below w.heap.size w w')) ?_ ?_
               rotate_left
               ·intro hJ4_15
                refine join_ (σ := Value) 7 #[true, true, true, true, false, false, true, false, true, true, true, true, true, true, true, true, true, false, true, true, true, true, true, false, false, false] (fun s_ => [(37, s_), (38, .string (strOfNums y263))]) (fun s_ w' => (w'.cell? ⟨gb254, 0, none⟩ = some (.slice (some ad258) l0_0.length c0_0) ∧ w'.cell? ⟨gb254, 1, none⟩ = some (.slice (some ad262) l0_1.length c0_1) ∧ w'.cell? ⟨gb254, 2, none⟩ = some (.slice A0_2 l0_2.length c0_2) ∧ w'.cell? ⟨gb254, 3, none⟩ = some (.int .i64 a0_3) ∧ w'.cell? (ad262.add (x17_1).toNat) = some (.string (rdOf ByteArray.empty l0_1 x17_1)) ∧ w'.cell? (ad262.add (x17_1).toNat) = some (.string (rdOf ByteArray.empty l0_1 x17_1))) ∧ (Kd.R (Kd.int .u8) 5 w' w.heap.size (fun _ => True) s_ y263) ∧ (w'.heap[gb254]? = some (.cells #[.slice (some ad258) l0_0.length c0_0, .slice (some ad262) l0_1.length c0_1, .slice A0_2 l0_2.length c0_2, .int .i64 a0_3] 33 (0, 0))) ∧ (Below w.heap.size w w')) ?_ ?_
                rotate_left
                ·intro hJ15_16
                 refine join_ (σ := Value) 8 #[true, true, true, true, true, false, true, false, true, true, true, true, true, true, true, false, false, false, true, true, true, true, true, false, false, false] (fun s_ => [(26, s_)]) (fun s_ w' => (w'.cell? ⟨gb254, 0, none⟩ = some (.slice (some ad258) l0_0.length c0_0) ∧ w'.cell? ⟨gb254, 1, none⟩ = some (.slice (some ad262) l0_1.length c0_1) ∧ w'.cell? ⟨gb254, 2, none⟩ = some (.slice A0_2 l0_2.length c0_2) ∧ w'.cell? ⟨gb254, 3, none⟩ = some (.int .i64 a0_3) ∧ w'.cell? (ad262.add (x17_1).toNat) = some (.string (rdOf ByteArray.empty l0_1 x17_1)) ∧ w'.cell? (ad262.add (x17_1).toNat) = some (.string (rdOf ByteArray.empty l0_1 x17_1))) ∧ (Kd.R (Kd.int .u8) 5 w' w.heap.size (fun _ => True) s_ y259) ∧ (w'.heap[gb254]? = some (.cells #[.slice (some ad258) l0_0.length c0_0, .slice (some ad262) l0_1.length c0_1, .slice A0_2 l0_2.length c0_2, .int .i64 a0_3] 33 (0, 0))) ∧ (Below w.heap.size w w')) ?_ ?_
                 rotate_left
                 ·intro hJ4
                  refine join_ (σ := Value) 8 #[true, true, true, true, false, false, true, false, true, true, true, true, true, true, true, true, false, false, true, true, true, true, true, false, false, false] (fun s_ => [(37, s_)]) (fun s_ w' => (w'.cell? ⟨gb254, 0, none⟩ = some (.slice (some ad258) l0_0.length c0_0) ∧ w'.cell? ⟨gb254, 1, none⟩ = some (.slice (some ad262) l0_1.length c0_1) ∧ w'.cell? ⟨gb254, 2, none⟩ = some (.slice A0_2 l0_2.length c0_2) ∧ w'.cell? ⟨gb254, 3, none⟩ = some (.int .i64 a0_3) ∧ w'.cell? (ad262.add (x17_1).toNat) = some (.string (rdOf ByteArray.empty l0_1 x17_1)) ∧ w'.cell? (ad262.add (x17_1).toNat) = some (.string (rdOf ByteArray.empty l0_1 x17_1))) ∧ (Kd.R (Kd.int .u8) 5 w' w.heap.size (fun _ => True) s_ y263) ∧ (w'.heap[gb254]? = some (.cells #[.slice (some ad258) l0_0.length c0_0, .slice (some ad262) l0_1.length c0_1, .slice A0_2 l0_2.length c0_2, .int .i64 a0_3] 33 (0, 0))) ∧ (Below w.heap.size w w')) ?_ ?_
                  rotate_left
                  ·intro hJ15
                   refine two_ (i := 4) (j := 15) (Ni := some 26) (Nj := some 37) #[true, true, true, true, true, false, true, false, true, true, true, true, true, true, true, false, false, false, true, true, true, true, true, false, false, false] #[true, true, true, true, false, false, true, false, true, true, true, true, true, true, true, true, false, false, true, true, true, true, true, false, false, false] rfl rfl rfl rfl (two_of HT_.out (by kernel_rfl)) (by decide) (by decide) (fun K hK => ?_) (fun K hK => ?_)
                   ·skip
                    refine Kd.R_lit_step (Kd.int .u8) _ 5 ?hg (N := 26) ?hd (xs := ([(((rdOf ByteArray.empty l0_0 x17_1).size : Int)) % 256] : List Int)) (inner := [.int .u8 ((((rdOf ByteArray.empty l0_0 x17_1).size : Int)) % 256)]) (ok := fun _ => True) (okp := fun _ => True) ?hr ?hp (fun _ hk => hk) trivial (Below.refl _ _) (Nat.le_refl _) (by simp) ?_; (case hd => rfl); (case hg => rfl); (case hr => first | (go_simp; done) | (go_simp; rfl)); (case hp => exact (Reps.one (show Kd.M (Kd.int .u8) _ _ _ ((((rdOf ByteArray.empty l0_0 x17_1).size : Int)) % 256) [.int .u8 ((((rdOf ByteArray.empty l0_0 x17_1).size : Int)) % 256)] from rfl) (Reps.none _ _)))
                    intro v260 w17 ho18 hb hg_ hnew_
                    clear hg_ hnew_
                    (first | rw [← Ny259.out] at ho18 | (simp only [Int.reduceToNat] at ho18; rw [← Ny259.out] at ho18))
                    have n0_ := Aside0.mk (Kd.R_lower ho18 (below_size (by repeat (first | (with_reducible first | exact HB.out | apply below_alloc | apply pw_below_drewN | apply below_drew1 | refine below_set ?_ GE254.out) | exact HB.out))))
                    have n1_ := Aside0.mk (blk_below (g := gb254) (o := .cells #[.slice (some ad258) l0_0.length c0_0, .slice (some ad262) l0_1.length c0_1, .slice A0_2 l0_2.length c0_2, .int .i64 a0_3] 33 (0, 0)) (by (with_reducible repeat (first | refine blk_drewN ?_ _ | refine blk_drew ?_ | refine blk_alloc ?_ _)); exact BK254.out) hb)
                    have n2_ := Aside0.mk (below_step (by repeat (first | (with_reducible first | exact HB.out | apply below_alloc | apply pw_below_drewN | apply below_drew1 | refine below_set ?_ GE254.out) | exact HB.out)) hb)
                    clear BK254
                    clear HB
                    have HO261 := n0_
                    have BK254 := n1_
                    have HB := n2_
                    clear n0_ n1_ n2_
                    clear hb ho18
                    refine hK.out _ _ ⟨(blk_cell BK254.out 0).trans rfl, (blk_cell BK254.out 1).trans rfl, (blk_cell BK254.out 2).trans rfl, (blk_cell BK254.out 3).trans rfl, ((HB.out.cell (World.block_lt_of_cell? w _ hw262_0)).trans hw262_0), ((HB.out.cell (World.block_lt_of_cell? w _ hw266_0)).trans hw266_0)⟩ (fun hHeld => ?_)
                    clear hK K
                    refine norm_ (a' := ?_) ?_ ?_
                    rotate_left
                    ·show Act.put _ (some 26) _ = _
                     simp only [Act.put, List.setIfInBounds_toArray, List.set_cons_zero, List.set_cons_succ, i64_w, i32_w]
                     rfl
                    exact norm_ (by first | (simp only [putAll, Act.put, List.setIfInBounds_toArray, List.set_cons_zero, List.set_cons_succ]; done) | (simp only [putAll, Act.put, List.setIfInBounds_toArray, List.set_cons_zero, List.set_cons_succ]; rfl)) (hJ4 (v260) _ ⟨hHeld, (by (with_reducible repeat (first | apply Kd.R_alloc | apply Kd.R_drewN | apply Kd.R_drew)); exact HO261.out), (by (with_reducible repeat (first | refine blk_drewN ?_ _ | refine blk_drew ?_ | refine blk_alloc ?_ _)); exact BK254.out), (by repeat (first | (with_reducible first | exact HB.out | apply below_alloc | apply pw_below_drewN | apply below_drew1 | refine below_set ?_ GE254.out) | exact HB.out))⟩)
                   ·skip
                    refine Kd.R_lit_step (Kd.int .u8) _ 5 ?hg (N := 37) ?hd (xs := ([(((rdOf ByteArray.empty l0_1 x17_1).size : Int)) % 256] : List Int)) (inner := [.int .u8 ((((rdOf ByteArray.empty l0_1 x17_1).size : Int)) % 256)]) (ok := fun _ => True) (okp := fun _ => True) ?hr ?hp (fun _ hk => hk) trivial (Below.refl _ _) (Nat.le_refl _) (by simp) ?_; (case hd => rfl); (case hg => rfl); (case hr => first | (go_simp; done) | (go_simp; rfl)); (case hp => exact (Reps.one (show Kd.M (Kd.int .u8) _ _ _ ((((rdOf ByteArray.empty l0_1 x17_1).size : Int)) % 256) [.int .u8 ((((rdOf ByteArray.empty l0_1 x17_1).size : Int)) % 256)] from rfl) (Reps.none _ _)))
                    intro v264 w17 ho18 hb hg_ hnew_
                    clear hg_ hnew_
                    (first | rw [← Ny263.out] at ho18 | (simp only [Int.reduceToNat] at ho18; rw [← Ny263.out] at ho18))
                    have n0_ := Aside0.mk (Kd.R_lower ho18 (below_size (by repeat (first | (with_reducible first | exact HB.out | apply below_alloc | apply pw_below_drewN | apply below_drew1 | refine below_set ?_ GE254.out) | exact HB.out))))
                    have n1_ := Aside0.mk (blk_below (g := gb254) (o := .cells #[.slice (some ad258) l0_0.length c0_0, .slice (some ad262) l0_1.length c0_1, .slice A0_2 l0_2.length c0_2, .int .i64 a0_3] 33 (0, 0)) (by (with_reducible repeat (first | refine blk_drewN ?_ _ | refine blk_drew ?_ | refine blk_alloc ?_ _)); exact BK254.out) hb)
                    have n2_ := Aside0.mk (below_step (by repeat (first | (with_reducible first | exact HB.out | apply below_alloc | apply pw_below_drewN | apply below_drew1 | refine below_set ?_ GE254.out) | exact HB.out)) hb)
                    clear BK254
                    clear HB
                    have HO265 := n0_
                    have BK254 := n1_
                    have HB := n2_
                    clear n0_ n1_ n2_
                    clear hb ho18
                    refine hK.out _ _ ⟨(blk_cell BK254.out 0).trans rfl, (blk_cell BK254.out 1).trans rfl, (blk_cell BK254.out 2).trans rfl, (blk_cell BK254.out 3).trans rfl, ((HB.out.cell (World.block_lt_of_cell? w _ hw262_0)).trans hw262_0), ((HB.out.cell (World.block_lt_of_cell? w _ hw266_0)).trans hw266_0)⟩ (fun hHeld => ?_)
                    clear hK K
                    refine norm_ (a' := ?_) ?_ ?_
                    rotate_left
                    ·show Act.put _ (some 37) _ = _
                     simp only [Act.put, List.setIfInBounds_toArray, List.set_cons_zero, List.set_cons_succ, i64_w, i32_w]
                     rfl
                    exact norm_ (by first | (simp only [putAll, Act.put, List.setIfInBounds_toArray, List.set_cons_zero, List.set_cons_succ]; done) | (simp only [putAll, Act.put, List.setIfInBounds_toArray, List.set_cons_zero, List.set_cons_succ]; rfl)) (hJ15 (v264) _ ⟨hHeld, (by (with_reducible repeat (first | apply Kd.R_alloc | apply Kd.R_drewN | apply Kd.R_drew)); exact HO265.out), (by (with_reducible repeat (first | refine blk_drewN ?_ _ | refine blk_drew ?_ | refine blk_alloc ?_ _)); exact BK254.out), (by repeat (first | (with_reducible first | exact HB.out | apply below_alloc | apply pw_below_drewN | apply below_drew1 | refine below_set ?_ GE254.out) | exact HB.out))⟩)
                  ·skip
                   rintro v264 w19 ⟨hS_, h0_, h1_, h2_⟩
                   have n0_ : Aside0 (Kd.R (Kd.int .u8) 5 w19 w.heap.size (fun _ => True) v264 y263) := ⟨h0_⟩
                   have n1_ : Aside0 (w19.heap[gb254]? = some (.cells #[.slice (some ad258) l0_0.length c0_0, .slice (some ad262) l0_1.length c0_1, .slice A0_2 l0_2.length c0_2, .int .i64 a0_3] 33 (0, 0))) := ⟨h1_⟩
                   have n2_ : Aside0 (Below w.heap.size w w19) := ⟨h2_⟩
                   clear BK254
                   clear HB
                   clear h0_ h1_ h2_
                   have HO265 := n0_
                   have BK254 := n1_
                   have HB := n2_
                   clear n0_ n1_ n2_
                   have hHeld : w19.cell? ⟨gb254, 0, none⟩ = some (.slice (some ad258) l0_0.length c0_0) ∧ w19.cell? ⟨gb254, 1, none⟩ = some (.slice (some ad262) l0_1.length c0_1) ∧ w19.cell? ⟨gb254, 2, none⟩ = some (.slice A0_2 l0_2.length c0_2) ∧ w19.cell? ⟨gb254, 3, none⟩ = some (.int .i64 a0_3) ∧ w19.cell? (ad262.add (x17_1).toNat) = some (.string (rdOf ByteArray.empty l0_1 x17_1)) ∧ w19.cell? (ad262.add (x17_1).toNat) = some (.string (rdOf ByteArray.empty l0_1 x17_1)) := hS_
                   refine norm_ (a' := ?_) ?_ ?_
                   rotate_left
                   ·simp only [putAll, Act.put, List.setIfInBounds_toArray, List.set_cons_zero, List.set_cons_succ]
                    rfl
                   refine two_ (i := 4) (j := 16) (Ni := some 26) (Nj := some 38) #[true, true, true, true, true, false, true, false, true, true, true, true, true, true, true, true, false, false, true, true, true, true, true, false, false, false] #[true, true, true, true, false, false, true, false, true, true, true, true, true, true, true, true, true, false, true, true, true, true, true, false, false, false] rfl rfl rfl rfl (two_of HT_.out (by kernel_rfl)) (by decide) (by decide) (fun K hK => ?_) (fun K hK => ?_)
                   ·skip
                    refine Kd.R_lit_step (Kd.int .u8) _ 5 ?hg (N := 26) ?hd (xs := ([(((rdOf ByteArray.empty l0_0 x17_1).size : Int)) % 256] : List Int)) (inner := [.int .u8 ((((rdOf ByteArray.empty l0_0 x17_1).size : Int)) % 256)]) (ok := fun _ => True) (okp := fun _ => True) ?hr ?hp (fun _ hk => hk) trivial (Below.refl _ _) (Nat.le_refl _) (by simp) ?_; (case hd => rfl); (case hg => rfl); (case hr => first | (go_simp; done) | (go_simp; rfl)); (case hp => exact (Reps.one (show Kd.M (Kd.int .u8) _ _ _ ((((rdOf ByteArray.empty l0_0 x17_1).size : Int)) % 256) [.int .u8 ((((rdOf ByteArray.empty l0_0 x17_1).size : Int)) % 256)] from rfl) (Reps.none _ _)))
                    intro v260 w20 ho21 hb hg_ hnew_
                    clear hg_ hnew_
                    (first | rw [← Ny259.out] at ho21 | (simp only [Int.reduceToNat] at ho21; rw [← Ny259.out] at ho21))
                    have n0_ := Aside0.mk (Kd.R_elder' (by (with_reducible repeat (first | apply Kd.R_alloc | apply Kd.R_drewN | apply Kd.R_drew)); exact HO265.out) (Kd.R_base ho21) hb)
                    have n1_ := Aside0.mk (Kd.R_lower (Kd.R_new' ho21 (Kd.R_lt (by (with_reducible repeat (first | apply Kd.R_alloc | apply Kd.R_drewN | apply Kd.R_drew)); exact HO265.out))) (below_size (by repeat (first | (with_reducible first | exact HB.out | apply below_alloc | apply pw_below_drewN | apply below_drew1 | refine below_set ?_ GE254.out) | exact HB.out))))
                    have n2_ := Aside0.mk (blk_below (g := gb254) (o := .cells #[.slice (some ad258) l0_0.length c0_0, .slice (some ad262) l0_1.length c0_1, .slice A0_2 l0_2.length c0_2, .int .i64 a0_3] 33 (0, 0)) (by (with_reducible repeat (first | refine blk_drewN ?_ _ | refine blk_drew ?_ | refine blk_alloc ?_ _)); exact BK254.out) hb)
                    have n3_ := Aside0.mk (below_step (by repeat (first | (with_reducible first | exact HB.out | apply below_alloc | apply pw_below_drewN | apply below_drew1 | refine below_set ?_ GE254.out) | exact HB.out)) hb)
                    clear HO265
                    clear BK254
                    clear HB
                    have HO265 := n0_
                    have HO261 := n1_
                    have BK254 := n2_
                    have HB := n3_
                    clear n0_ n1_ n2_ n3_
                    clear hb ho21
                    refine hK.out _ _ ⟨(blk_cell BK254.out 0).trans rfl, (blk_cell BK254.out 1).trans rfl, (blk_cell BK254.out 2).trans rfl, (blk_cell BK254.out 3).trans rfl, ((HB.out.cell (World.block_lt_of_cell? w _ hw262_0)).trans hw262_0), ((HB.out.cell (World.block_lt_of_cell? w _ hw266_0)).trans hw266_0)⟩ (fun hHeld => ?_)
                    clear hK K
                    refine norm_ (a' := ?_) ?_ ?_
                    rotate_left
                    ·show Act.put _ (some 26) _ = _
                     simp only [Act.put, List.setIfInBounds_toArray, List.set_cons_zero, List.set_cons_succ, i64_w, i32_w]
                     rfl
                    exact norm_ (by first | (simp only [putAll, Act.put, List.setIfInBounds_toArray, List.set_cons_zero, List.set_cons_succ]; done) | (simp only [putAll, Act.put, List.setIfInBounds_toArray, List.set_cons_zero, List.set_cons_succ]; rfl)) (hJ4_15 (v260, v264) _ ⟨hHeld, (by (with_reducible repeat (first | apply Kd.R_alloc | apply Kd.R_drewN | apply Kd.R_drew)); exact Kd.R_mono HO261.out (fun _ hk => hk.2)), (by (with_reducible repeat (first | apply Kd.R_alloc | apply Kd.R_drewN | apply Kd.R_drew)); exact Kd.R_mono HO265.out (fun _ hk => hk.2)), (by (with_reducible repeat (first | refine blk_drewN ?_ _ | refine blk_drew ?_ | refine blk_alloc ?_ _)); exact BK254.out), (by repeat (first | (with_reducible first | exact HB.out | apply below_alloc | apply pw_below_drewN | apply below_drew1 | refine below_set ?_ GE254.out) | exact HB.out))⟩)
                   ·skip
                    have hcv20 := own_string (P := Try.prog) Try.underlying51 Try.underlying5 Try.underlying9 (Kd.own_of_R HO265.out)
                    refine value_ (w1 := ?_) (v := ?_) (by rfl) rfl ?_ ?_
                    rotate_left 2
                    ·go_simp
                     constructor
                     ·rfl
                     ·rfl
                    clear hcv20
                    refine hK.out _ _ ⟨(blk_cell BK254.out 0).trans rfl, (blk_cell BK254.out 1).trans rfl, (blk_cell BK254.out 2).trans rfl, (blk_cell BK254.out 3).trans rfl, ((HB.out.cell (World.block_lt_of_cell? w _ hw262_0)).trans hw262_0), ((HB.out.cell (World.block_lt_of_cell? w _ hw266_0)).trans hw266_0)⟩ (fun hHeld => ?_)
                    clear hK K
                    refine norm_ (a' := ?_) ?_ ?_
                    rotate_left
                    ·show Act.put _ (some 38) _ = _
                     simp only [Act.put, List.setIfInBounds_toArray, List.set_cons_zero, List.set_cons_succ, i64_w, i32_w]
                     rfl
                    exact norm_ (by first | (simp only [putAll, Act.put, List.setIfInBounds_toArray, List.set_cons_zero, List.set_cons_succ]; done) | (simp only [putAll, Act.put, List.setIfInBounds_toArray, List.set_cons_zero, List.set_cons_succ]; rfl)) (hJ15_16 (v264) _ ⟨hHeld, (by (with_reducible repeat (first | apply Kd.R_alloc | apply Kd.R_drewN | apply Kd.R_drew)); exact HO265.out), (by (with_reducible repeat (first | refine blk_drewN ?_ _ | refine blk_drew ?_ | refine blk_alloc ?_ _)); exact BK254.out), (by repeat (first | (with_reducible first | exact HB.out | apply below_alloc | apply pw_below_drewN | apply below_drew1 | refine below_set ?_ GE254.out) | exact HB.out))⟩)
                 ·skip
                  rintro v260 w19 ⟨hS_, h0_, h1_, h2_⟩
                  have n0_ : Aside0 (Kd.R (Kd.int .u8) 5 w19 w.heap.size (fun _ => True) v260 y259) := ⟨h0_⟩
                  have n1_ : Aside0 (w19.heap[gb254]? = some (.cells #[.slice (some ad258) l0_0.length c0_0, .slice (some ad262) l0_1.length c0_1, .slice A0_2 l0_2.length c0_2, .int .i64 a0_3] 33 (0, 0))) := ⟨h1_⟩
                  have n2_ : Aside0 (Below w.heap.size w w19) := ⟨h2_⟩
                  clear BK254
                  clear HB
                  clear h0_ h1_ h2_
                  have HO261 := n0_
                  have BK254 := n1_
                  have HB := n2_
                  clear n0_ n1_ n2_
                  have hHeld : w19.cell? ⟨gb254, 0, none⟩ = some (.slice (some ad258) l0_0.length c0_0) ∧ w19.cell? ⟨gb254, 1, none⟩ = some (.slice (some ad262) l0_1.length c0_1) ∧ w19.cell? ⟨gb254, 2, none⟩ = some (.slice A0_2 l0_2.length c0_2) ∧ w19.cell? ⟨gb254, 3, none⟩ = some (.int .i64 a0_3) ∧ w19.cell? (ad262.add (x17_1).toNat) = some (.string (rdOf ByteArray.empty l0_1 x17_1)) ∧ w19.cell? (ad262.add (x17_1).toNat) = some (.string (rdOf ByteArray.empty l0_1 x17_1)) := hS_
                  refine norm_ (a' := ?_) ?_ ?_
                  rotate_left
                  ·simp only [putAll, Act.put, List.setIfInBounds_toArray, List.set_cons_zero, List.set_cons_succ]
                   rfl
                  refine two_ (i := 5) (j := 15) (Ni := some 27) (Nj := some 37) #[true, true, true, true, true, true, true, false, true, true, true, true, true, true, true, false, false, false, true, true, true, true, true, false, false, false] #[true, true, true, true, true, false, true, false, true, true, true, true, true, true, true, true, false, false, true, true, true, true, true, false, false, false] rfl rfl rfl rfl (two_of HT_.out (by kernel_rfl)) (by decide) (by decide) (fun K hK => ?_) (fun K hK => ?_)
                  ·skip
                   have hcv20 := own_string (P := Try.prog) Try.underlying51 Try.underlying5 Try.underlying9 (Kd.own_of_R HO261.out)
                   refine value_ (w1 := ?_) (v := ?_) (by rfl) rfl ?_ ?_
                   rotate_left 2
                   ·go_simp
                    constructor
                    ·rfl
                    ·rfl
                   clear hcv20
                   refine hK.out _ _ ⟨(blk_cell BK254.out 0).trans rfl, (blk_cell BK254.out 1).trans rfl, (blk_cell BK254.out 2).trans rfl, (blk_cell BK254.out 3).trans rfl, ((HB.out.cell (World.block_lt_of_cell? w _ hw262_0)).trans hw262_0), ((HB.out.cell (World.block_lt_of_cell? w _ hw266_0)).trans hw266_0)⟩ (fun hHeld => ?_)
                   clear hK K
                   refine norm_ (a' := ?_) ?_ ?_
                   rotate_left
                   ·show Act.put _ (some 27) _ = _
                    simp only [Act.put, List.setIfInBounds_toArray, List.set_cons_zero, List.set_cons_succ, i64_w, i32_w]
                    rfl
                   refine pure_ (i := 7) (N := some 29) (v := ?_) (a' := ?_) #[true, true, true, true, true, true, true, true, true, true, true, true, true, true, true, false, false, false, true, true, true, true, true, false, false, false] rfl rfl (any_of HT_.out (by kernel_rfl)) (fun _ _ _ h => h) (Or.inl ⟨by rfl, ?_⟩) ?_ ?_
                   rotate_left
                   ·intro w'
                    go_simp
                    with_reducible rfl
                   rotate_left
                   ·simp only [Act.put, List.setIfInBounds_toArray, List.set_cons_zero, List.set_cons_succ, i64_w, i32_w]
                    rfl
                   exact norm_ (by first | (simp only [putAll, Act.put, List.setIfInBounds_toArray, List.set_cons_zero, List.set_cons_succ]; done) | (simp only [putAll, Act.put, List.setIfInBounds_toArray, List.set_cons_zero, List.set_cons_succ]; rfl)) (hJ4_5 (v260) _ ⟨hHeld, (by (with_reducible repeat (first | apply Kd.R_alloc | apply Kd.R_drewN | apply Kd.R_drew)); exact HO261.out), (by (with_reducible repeat (first | refine blk_drewN ?_ _ | refine blk_drew ?_ | refine blk_alloc ?_ _)); exact BK254.out), (by repeat (first | (with_reducible first | exact HB.out | apply below_alloc | apply pw_below_drewN | apply below_drew1 | refine below_set ?_ GE254.out) | exact HB.out))⟩)
                  ·skip
                   refine Kd.R_lit_step (Kd.int .u8) _ 5 ?hg (N := 37) ?hd (xs := ([(((rdOf ByteArray.empty l0_1 x17_1).size : Int)) % 256] : List Int)) (inner := [.int .u8 ((((rdOf ByteArray.empty l0_1 x17_1).size : Int)) % 256)]) (ok := fun _ => True) (okp := fun _ => True) ?hr ?hp (fun _ hk => hk) trivial (Below.refl _ _) (Nat.le_refl _) (by simp) ?_; (case hd => rfl); (case hg => rfl); (case hr => first | (go_simp; done) | (go_simp; rfl)); (case hp => exact (Reps.one (show Kd.M (Kd.int .u8) _ _ _ ((((rdOf ByteArray.empty l0_1 x17_1).size : Int)) % 256) [.int .u8 ((((rdOf ByteArray.empty l0_1 x17_1).size : Int)) % 256)] from rfl) (Reps.none _ _)))
                   intro v264 w20 ho21 hb hg_ hnew_
                   clear hg_ hnew_
                   (first | rw [← Ny263.out] at ho21 | (simp only [Int.reduceToNat] at ho21; rw [← Ny263.out] at ho21))
                   have n0_ := Aside0.mk (Kd.R_elder' (by (with_reducible repeat (first | apply Kd.R_alloc | apply Kd.R_drewN | apply Kd.R_drew)); exact HO261.out) (Kd.R_base ho21) hb)
                   have n1_ := Aside0.mk (Kd.R_lower (Kd.R_new' ho21 (Kd.R_lt (by (with_reducible repeat (first | apply Kd.R_alloc | apply Kd.R_drewN | apply Kd.R_drew)); exact HO261.out))) (below_size (by repeat (first | (with_reducible first | exact HB.out | apply below_alloc | apply pw_below_drewN | apply below_drew1 | refine below_set ?_ GE254.out) | exact HB.out))))
                   have n2_ := Aside0.mk (blk_below (g := gb254) (o := .cells #[.slice (some ad258) l0_0.length c0_0, .slice (some ad262) l0_1.length c0_1, .slice A0_2 l0_2.length c0_2, .int .i64 a0_3] 33 (0, 0)) (by (with_reducible repeat (first | refine blk_drewN ?_ _ | refine blk_drew ?_ | refine blk_alloc ?_ _)); exact BK254.out) hb)
                   have n3_ := Aside0.mk (below_step (by repeat (first | (with_reducible first | exact HB.out | apply below_alloc | apply pw_below_drewN | apply below_drew1 | refine below_set ?_ GE254.out) | exact HB.out)) hb)
                   clear HO261
                   clear BK254
                   clear HB
                   have HO261 := n0_
                   have HO265 := n1_
                   have BK254 := n2_
                   have HB := n3_
                   clear n0_ n1_ n2_ n3_
                   clear hb ho21
                   refine hK.out _ _ ⟨(blk_cell BK254.out 0).trans rfl, (blk_cell BK254.out 1).trans rfl, (blk_cell BK254.out 2).trans rfl, (blk_cell BK254.out 3).trans rfl, ((HB.out.cell (World.block_lt_of_cell? w _ hw262_0)).trans hw262_0), ((HB.out.cell (World.block_lt_of_cell? w _ hw266_0)).trans hw266_0)⟩ (fun hHeld => ?_)
                   clear hK K
                   refine norm_ (a' := ?_) ?_ ?_
                   rotate_left
                   ·show Act.put _ (some 37) _ = _
                    simp only [Act.put, List.setIfInBounds_toArray, List.set_cons_zero, List.set_cons_succ, i64_w, i32_w]
                    rfl
                   exact norm_ (by first | (simp only [putAll, Act.put, List.setIfInBounds_toArray, List.set_cons_zero, List.set_cons_succ]; done) | (simp only [putAll, Act.put, List.setIfInBounds_toArray, List.set_cons_zero, List.set_cons_succ]; rfl)) (hJ4_15 (v260, v264) _ ⟨hHeld, (by (with_reducible repeat (first | apply Kd.R_alloc | apply Kd.R_drewN | apply Kd.R_drew)); exact Kd.R_mono HO261.out (fun _ hk => hk.2)), (by (with_reducible repeat (first | apply Kd.R_alloc | apply Kd.R_drewN | apply Kd.R_drew)); exact Kd.R_mono HO265.out (fun _ hk => hk.2)), (by (with_reducible repeat (first | refine blk_drewN ?_ _ | refine blk_drew ?_ | refine blk_alloc ?_ _)); exact BK254.out), (by repeat (first | (with_reducible first | exact HB.out | apply below_alloc | apply pw_below_drewN | apply below_drew1 | refine below_set ?_ GE254.out) | exact HB.out))⟩)
                ·skip
                 rintro v264 w20 ⟨hS_, h0_, h1_, h2_⟩
                 have n0_ : Aside0 (Kd.R (Kd.int .u8) 5 w20 w.heap.size (fun _ => True) v264 y263) := ⟨h0_⟩
                 have n1_ : Aside0 (w20.heap[gb254]? = some (.cells #[.slice (some ad258) l0_0.length c0_0, .slice (some ad262) l0_1.length c0_1, .slice A0_2 l0_2.length c0_2, .int .i64 a0_3] 33 (0, 0))) := ⟨h1_⟩
                 have n2_ : Aside0 (Below w.heap.size w w20) := ⟨h2_⟩
                 clear BK254
                 clear HB
                 clear h0_ h1_ h2_
                 have HO265 := n0_
                 have BK254 := n1_
                 have HB := n2_
                 clear n0_ n1_ n2_
                 have hHeld : w20.cell? ⟨gb254, 0, none⟩ = some (.slice (some ad258) l0_0.length c0_0) ∧ w20.cell? ⟨gb254, 1, none⟩ = some (.slice (some ad262) l0_1.length c0_1) ∧ w20.cell? ⟨gb254, 2, none⟩ = some (.slice A0_2 l0_2.length c0_2) ∧ w20.cell? ⟨gb254, 3, none⟩ = some (.int .i64 a0_3) ∧ w20.cell? (ad262.add (x17_1).toNat) = some (.string (rdOf ByteArray.empty l0_1 x17_1)) ∧ w20.cell? (ad262.add (x17_1).toNat) = some (.string (rdOf ByteArray.empty l0_1 x17_1)) := hS_
                 refine norm_ (a' := ?_) ?_ ?_
                 rotate_left
                 ·simp only [putAll, Act.put, List.setIfInBounds_toArray, List.set_cons_zero, List.set_cons_succ]
                  rfl
                 refine one_ (i := 4) (N := some 26) #[true, true, true, true, true, false, true, false, true, true, true, true, true, true, true, true, true, false, true, true, true, true, true, false, false, false] rfl rfl (one_of HT_.out (by kernel_rfl)) (by decide) (fun K hK => ?_)
                 refine Kd.R_lit_step (Kd.int .u8) _ 5 ?hg (N := 26) ?hd (xs := ([(((rdOf ByteArray.empty l0_0 x17_1).size : Int)) % 256] : List Int)) (inner := [.int .u8 ((((rdOf ByteArray.empty l0_0 x17_1).size : Int)) % 256)]) (ok := fun _ => True) (okp := fun _ => True) ?hr ?hp (fun _ hk => hk) trivial (Below.refl _ _) (Nat.le_refl _) (by simp) ?_; (case hd => rfl); (case hg => rfl); (case hr => first | (go_simp; done) | (go_simp; rfl)); (case hp => exact (Reps.one (show Kd.M (Kd.int .u8) _ _ _ ((((rdOf ByteArray.empty l0_0 x17_1).size : Int)) % 256) [.int .u8 ((((rdOf ByteArray.empty l0_0 x17_1).size : Int)) % 256)] from rfl) (Reps.none _ _)))
                 intro v260 w21 ho22 hb hg_ hnew_
                 clear hg_ hnew_
                 (first | rw [← Ny259.out] at ho22 | (simp only [Int.reduceToNat] at ho22; rw [← Ny259.out] at ho22))
                 have n0_ := Aside0.mk (Kd.R_elder' (by (with_reducible repeat (first | apply Kd.R_alloc | apply Kd.R_drewN | apply Kd.R_drew)); exact HO265.out) (Kd.R_base ho22) hb)
                 have n1_ := Aside0.mk (Kd.R_lower (Kd.R_new' ho22 (Kd.R_lt (by (with_reducible repeat (first | apply Kd.R_alloc | apply Kd.R_drewN | apply Kd.R_drew)); exact HO265.out))) (below_size (by repeat (first | (with_reducible first | exact HB.out | apply below_alloc | apply pw_below_drewN | apply below_drew1 | refine below_set ?_ GE254.out) | exact HB.out))))
                 have n2_ := Aside0.mk (blk_below (g := gb254) (o := .cells #[.slice (some ad258) l0_0.length c0_0, .slice (some ad262) l0_1.length c0_1, .slice A0_2 l0_2.length c0_2, .int .i64 a0_3] 33 (0, 0)) (by (with_reducible repeat (first | refine blk_drewN ?_ _ | refine blk_drew ?_ | refine blk_alloc ?_ _)); exact BK254.out) hb)
                 have n3_ := Aside0.mk (below_step (by repeat (first | (with_reducible first | exact HB.out | apply below_alloc | apply pw_below_drewN | apply below_drew1 | refine below_set ?_ GE254.out) | exact HB.out)) hb)
                 clear HO265
                 clear BK254
                 clear HB
                 have HO265 := n0_
                 have HO261 := n1_
                 have BK254 := n2_
                 have HB := n3_
                 clear n0_ n1_ n2_ n3_
                 clear hb ho22
                 refine hK.out _ _ ⟨(blk_cell BK254.out 0).trans rfl, (blk_cell BK254.out 1).trans rfl, (blk_cell BK254.out 2).trans rfl, (blk_cell BK254.out 3).trans rfl, ((HB.out.cell (World.block_lt_of_cell? w _ hw262_0)).trans hw262_0), ((HB.out.cell (World.block_lt_of_cell? w _ hw266_0)).trans hw266_0)⟩ (fun hHeld => ?_)
                 clear hK K
                 refine norm_ (a' := ?_) ?_ ?_
                 rotate_left
                 ·show Act.put _ (some 26) _ = _
                  simp only [Act.put, List.setIfInBounds_toArray, List.set_cons_zero, List.set_cons_succ, i64_w, i32_w]
                  rfl
                 exact norm_ (by first | (simp only [putAll, Act.put, List.setIfInBounds_toArray, List.set_cons_zero, List.set_cons_succ]; done) | (simp only [putAll, Act.put, List.setIfInBounds_toArray, List.set_cons_zero, List.set_cons_succ]; rfl)) (hJ4_15_16 (v260, v264) _ ⟨hHeld, (by (with_reducible repeat (first | apply Kd.R_alloc | apply Kd.R_drewN | apply Kd.R_drew)); exact Kd.R_mono HO261.out (fun _ hk => hk.2)), (by (with_reducible repeat (first | apply Kd.R_alloc | apply Kd.R_drewN | apply Kd.R_drew)); exact Kd.R_mono HO265.out (fun _ hk => hk.2)), (by (with_reducible repeat (first | refine blk_drewN ?_ _ | refine blk_drew ?_ | refine blk_alloc ?_ _)); exact BK254.out), (by repeat (first | (with_reducible first | exact HB.out | apply below_alloc | apply pw_below_drewN | apply below_drew1 | refine below_set ?_ GE254.out) | exact HB.out))⟩)
               ·skip
                rintro ⟨v260, v264⟩ w21 ⟨hS_, h0_, h1_, h2_, h3_⟩
                have n0_ : Aside0 (Kd.R (Kd.int .u8) 5 w21 w.heap.size (fun k_ => some k_ ≠ (v264 : Value).ownBlock) v260 y259) := ⟨h0_⟩
                have n1_ : Aside0 (Kd.R (Kd.int .u8) 5 w21 w.heap.size (fun k_ => some k_ ≠ (v260 : Value).ownBlock) v264 y263) := ⟨h1_⟩
                have n2_ : Aside0 (w21.heap[gb254]? = some (.cells #[.slice (some ad258) l0_0.length c0_0, .slice (some ad262) l0_1.length c0_1, .slice A0_2 l0_2.length c0_2, .int .i64 a0_3] 33 (0, 0))) := ⟨h2_⟩
                have n3_ : Aside0 (Below w.heap.size w w21) := ⟨h3_⟩
                clear BK254
                clear HB
                clear h0_ h1_ h2_ h3_
                have HO261 := n0_
                have HO265 := n1_
                have BK254 := n2_
                have HB := n3_
                clear n0_ n1_ n2_ n3_
                have hHeld : w21.cell? ⟨gb254, 0, none⟩ = some (.slice (some ad258) l0_0.length c0_0) ∧ w21.cell? ⟨gb254, 1, none⟩ = some (.slice (some ad262) l0_1.length c0_1) ∧ w21.cell? ⟨gb254, 2, none⟩ = some (.slice A0_2 l0_2.length c0_2) ∧ w21.cell? ⟨gb254, 3, none⟩ = some (.int .i64 a0_3) ∧ w21.cell? (ad262.add (x17_1).toNat) = some (.string (rdOf ByteArray.empty l0_1 x17_1)) ∧ w21.cell? (ad262.add (x17_1).toNat) = some (.string (rdOf ByteArray.empty l0_1 x17_1)) := hS_
                refine norm_ (a' := ?_) ?_ ?_
                rotate_left
                ·simp only [putAll, Act.put, List.setIfInBounds_toArray, List.set_cons_zero, List.set_cons_succ]
                 rfl
                refine two_ (i := 5) (j := 16) (Ni := some 27) (Nj := some 38) #[true, true, true, true, true, true, true, false, true, true, true, true, true, true, true, true, false, false, true, true, true, true, true, false, false, false] #[true, true, true, true, true, false, true, false, true, true, true, true, true, true, true, true, true, false, true, true, true, true, true, false, false, false] rfl rfl rfl rfl (two_of HT_.out (by kernel_rfl)) (by decide) (by decide) (fun K hK => ?_) (fun K hK => ?_)
                ·skip
                 have hcv22 := own_string (P := Try.prog) Try.underlying51 Try.underlying5 Try.underlying9 (Kd.own_of_R HO261.out)
                 refine value_ (w1 := ?_) (v := ?_) (by rfl) rfl ?_ ?_
                 rotate_left 2
                 ·go_simp
                  constructor
                  ·rfl
                  ·rfl
                 clear hcv22
                 refine hK.out _ _ ⟨(blk_cell BK254.out 0).trans rfl, (blk_cell BK254.out 1).trans rfl, (blk_cell BK254.out 2).trans rfl, (blk_cell BK254.out 3).trans rfl, ((HB.out.cell (World.block_lt_of_cell? w _ hw262_0)).trans hw262_0), ((HB.out.cell (World.block_lt_of_cell? w _ hw266_0)).trans hw266_0)⟩ (fun hHeld => ?_)
                 clear hK K
                 refine norm_ (a' := ?_) ?_ ?_
                 rotate_left
                 ·show Act.put _ (some 27) _ = _
                  simp only [Act.put, List.setIfInBounds_toArray, List.set_cons_zero, List.set_cons_succ, i64_w, i32_w]
                  rfl
                 refine pure_ (i := 7) (N := some 29) (v := ?_) (a' := ?_) #[true, true, true, true, true, true, true, true, true, true, true, true, true, true, true, true, false, false, true, true, true, true, true, false, false, false] rfl rfl (any_of HT_.out (by kernel_rfl)) (fun _ _ _ h => h) (Or.inl ⟨by rfl, ?_⟩) ?_ ?_
                 rotate_left
                 ·intro w'
                  go_simp
                  with_reducible rfl
                 rotate_left
                 ·simp only [Act.put, List.setIfInBounds_toArray, List.set_cons_zero, List.set_cons_succ, i64_w, i32_w]
                  rfl
                 exact norm_ (by first | (simp only [putAll, Act.put, List.setIfInBounds_toArray, List.set_cons_zero, List.set_cons_succ]; done) | (simp only [putAll, Act.put, List.setIfInBounds_toArray, List.set_cons_zero, List.set_cons_succ]; rfl)) (hJ4_5_15 (v260, v264) _ ⟨hHeld, (by (with_reducible repeat (first | apply Kd.R_alloc | apply Kd.R_drewN | apply Kd.R_drew)); exact HO261.out), (by (with_reducible repeat (first | apply Kd.R_alloc | apply Kd.R_drewN | apply Kd.R_drew)); exact HO265.out), (by (with_reducible repeat (first | refine blk_drewN ?_ _ | refine blk_drew ?_ | refine blk_alloc ?_ _)); exact BK254.out), (by repeat (first | (with_reducible first | exact HB.out | apply below_alloc | apply pw_below_drewN | apply below_drew1 | refine below_set ?_ GE254.out) | exact HB.out))⟩)
                ·skip
                 have hcv22 := own_string (P := Try.prog) Try.underlying51 Try.underlying5 Try.underlying9 (Kd.own_of_R HO265.out)
                 refine value_ (w1 := ?_) (v := ?_) (by rfl) rfl ?_ ?_
                 rotate_left 2
                 ·go_simp
                  constructor
                  ·rfl
                  ·rfl
                 clear hcv22
                 refine hK.out _ _ ⟨(blk_cell BK254.out 0).trans rfl, (blk_cell BK254.out 1).trans rfl, (blk_cell BK254.out 2).trans rfl, (blk_cell BK254.out 3).trans rfl, ((HB.out.cell (World.block_lt_of_cell? w _ hw262_0)).trans hw262_0), ((HB.out.cell (World.block_lt_of_cell? w _ hw266_0)).trans hw266_0)⟩ (fun hHeld => ?_)
                 clear hK K
                 refine norm_ (a' := ?_) ?_ ?_
                 rotate_left
                 ·show Act.put _ (some 38) _ = _
                  simp only [Act.put, List.setIfInBounds_toArray, List.set_cons_zero, List.set_cons_succ, i64_w, i32_w]
                  rfl
                 exact norm_ (by first | (simp only [putAll, Act.put, List.setIfInBounds_toArray, List.set_cons_zero, List.set_cons_succ]; done) | (simp only [putAll, Act.put, List.setIfInBounds_toArray, List.set_cons_zero, List.set_cons_succ]; rfl)) (hJ4_15_16 (v260, v264) _ ⟨hHeld, (by (with_reducible repeat (first | apply Kd.R_alloc | apply Kd.R_drewN | apply Kd.R_drew)); exact HO261.out), (by (with_reducible repeat (first | apply Kd.R_alloc | apply Kd.R_drewN | apply Kd.R_drew)); exact HO265.out), (by (with_reducible repeat (first | refine blk_drewN ?_ _ | refine blk_drew ?_ | refine blk_alloc ?_ _)); exact BK254.out), (by repeat (first | (with_reducible first | exact HB.out | apply below_alloc | apply pw_below_drewN | apply below_drew1 | refine below_set ?_ GE254.out) | exact HB.out))⟩)
              ·skip
               rintro v260 w20 ⟨hS_, h0_, h1_, h2_⟩
               have n0_ : Aside0 (Kd.R (Kd.int .u8) 5 w20 w.heap.size (fun _ => True) v260 y259) := ⟨h0_⟩
               have n1_ : Aside0 (w20.heap[gb254]? = some (.cells #[.slice (some ad258) l0_0.length c0_0, .slice (some ad262) l0_1.length c0_1, .slice A0_2 l0_2.length c0_2, .int .i64 a0_3] 33 (0, 0))) := ⟨h1_⟩
               have n2_ : Aside0 (Below w.heap.size w w20) := ⟨h2_⟩
               clear BK254
               clear HB
               clear h0_ h1_ h2_
               have HO261 := n0_
               have BK254 := n1_
               have HB := n2_
               clear n0_ n1_ n2_
               have hHeld : w20.cell? ⟨gb254, 0, none⟩ = some (.slice (some ad258) l0_0.length c0_0) ∧ w20.cell? ⟨gb254, 1, none⟩ = some (.slice (some ad262) l0_1.length c0_1) ∧ w20.cell? ⟨gb254, 2, none⟩ = some (.slice A0_2 l0_2.length c0_2) ∧ w20.cell? ⟨gb254, 3, none⟩ = some (.int .i64 a0_3) ∧ w20.cell? (ad262.add (x17_1).toNat) = some (.string (rdOf ByteArray.empty l0_1 x17_1)) ∧ w20.cell? (ad262.add (x17_1).toNat) = some (.string (rdOf ByteArray.empty l0_1 x17_1)) := hS_
               refine norm_ (a' := ?_) ?_ ?_
               rotate_left
               ·simp only [putAll, Act.put, List.setIfInBounds_toArray, List.set_cons_zero, List.set_cons_succ]
                rfl
               refine one_ (i := 15) (N := some 37) #[true, true, true, true, true, true, true, true, true, true, true, true, true, true, true, true, false, false, true, true, true, true, true, false, false, false] rfl rfl (one_of HT_.out (by kernel_rfl)) (by decide) (fun K hK => ?_)
               refine Kd.R_lit_step (Kd.int .u8) _ 5 ?hg (N := 37) ?hd (xs := ([(((rdOf ByteArray.empty l0_1 x17_1).size : Int)) % 256] : List Int)) (inner := [.int .u8 ((((rdOf ByteArray.empty l0_1 x17_1).size : Int)) % 256)]) (ok := fun _ => True) (okp := fun _ => True) ?hr ?hp (fun _ hk => hk) trivial (Below.refl _ _) (Nat.le_refl _) (by simp) ?_; (case hd => rfl); (case hg => rfl); (case hr => first | (go_simp; done) | (go_simp; rfl)); (case hp => exact (Reps.one (show Kd.M (Kd.int .u8) _ _ _ ((((rdOf ByteArray.empty l0_1 x17_1).size : Int)) % 256) [.int .u8 ((((rdOf ByteArray.empty l0_1 x17_1).size : Int)) % 256)] from rfl) (Reps.none _ _)))
               intro v264 w21 ho22 hb hg_ hnew_
               clear hg_ hnew_
               (first | rw [← Ny263.out] at ho22 | (simp only [Int.reduceToNat] at ho22; rw [← Ny263.out] at ho22))
               have n0_ := Aside0.mk (Kd.R_elder' (by (with_reducible repeat (first | apply Kd.R_alloc | apply Kd.R_drewN | apply Kd.R_drew)); exact HO261.out) (Kd.R_base ho22) hb)
               have n1_ := Aside0.mk (Kd.R_lower (Kd.R_new' ho22 (Kd.R_lt (by (with_reducible repeat (first | apply Kd.R_alloc | apply Kd.R_drewN | apply Kd.R_drew)); exact HO261.out))) (below_size (by repeat (first | (with_reducible first | exact HB.out | apply below_alloc | apply pw_below_drewN | apply below_drew1 | refine below_set ?_ GE254.out) | exact HB.out))))
               have n2_ := Aside0.mk (blk_below (g := gb254) (o := .cells #[.slice (some ad258) l0_0.length c0_0, .slice (some ad262) l0_1.length c0_1, .slice A0_2 l0_2.length c0_2, .int .i64 a0_3] 33 (0, 0)) (by (with_reducible repeat (first | refine blk_drewN ?_ _ | refine blk_drew ?_ | refine blk_alloc ?_ _)); exact BK254.out) hb)
               have n3_ := Aside0.mk (below_step (by repeat (first | (with_reducible first | exact HB.out | apply below_alloc | apply pw_below_drewN | apply below_drew1 | refine below_set ?_ GE254.out) | exact HB.out)) hb)
               clear HO261
               clear BK254
               clear HB
               have HO261 := n0_
               have HO265 := n1_
               have BK254 := n2_
               have HB := n3_
               clear n0_ n1_ n2_ n3_
               clear hb ho22
               refine hK.out _ _ ⟨(blk_cell BK254.out 0).trans rfl, (blk_cell BK254.out 1).trans rfl, (blk_cell BK254.out 2).trans rfl, (blk_cell BK254.out 3).trans rfl, ((HB.out.cell (World.block_lt_of_cell? w _ hw262_0)).trans hw262_0), ((HB.out.cell (World.block_lt_of_cell? w _ hw266_0)).trans hw266_0)⟩ (fun hHeld => ?_)
               clear hK K
               refine norm_ (a' := ?_) ?_ ?_
               rotate_left
               ·show Act.put _ (some 37) _ = _
                simp only [Act.put, List.setIfInBounds_toArray, List.set_cons_zero, List.set_cons_succ, i64_w, i32_w]
                rfl
               exact norm_ (by first | (simp only [putAll, Act.put, List.setIfInBounds_toArray, List.set_cons_zero, List.set_cons_succ]; done) | (simp only [putAll, Act.put, List.setIfInBounds_toArray, List.set_cons_zero, List.set_cons_succ]; rfl)) (hJ4_5_15 (v260, v264) _ ⟨hHeld, (by (with_reducible repeat (first | apply Kd.R_alloc | apply Kd.R_drewN | apply Kd.R_drew)); exact Kd.R_mono HO261.out (fun _ hk => hk.2)), (by (with_reducible repeat (first | apply Kd.R_alloc | apply Kd.R_drewN | apply Kd.R_drew)); exact Kd.R_mono HO265.out (fun _ hk => hk.2)), (by (with_reducible repeat (first | refine blk_drewN ?_ _ | refine blk_drew ?_ | refine blk_alloc ?_ _)); exact BK254.out), (by repeat (first | (with_reducible first | exact HB.out | apply below_alloc | apply pw_below_drewN | apply below_drew1 | refine below_set ?_ GE254.out) | exact HB.out))⟩)
             ·skip
              rintro ⟨v260, v264⟩ w22 ⟨hS_, h0_, h1_, h2_, h3_⟩
              have n0_ : Aside0 (Kd.R (Kd.int .u8) 5 w22 w.heap.size (fun k_ => some k_ ≠ (v264 : Value).ownBlock) v260 y259) := ⟨h0_⟩
              have n1_ : Aside0 (Kd.R (Kd.int .u8) 5 w22 w.heap.size (fun k_ => some k_ ≠ (v260 : Value).ownBlock) v264 y263) := ⟨h1_⟩
              have n2_ : Aside0 (w22.heap[gb254]? = some (.cells #[.slice (some ad258) l0_0.length c0_0, .slice (some ad262) l0_1.length c0_1, .slice A0_2 l0_2.length c0_2, .int .i64 a0_3] 33 (0, 0))) := ⟨h2_⟩
              have n3_ : Aside0 (Below w.heap.size w w22) := ⟨h3_⟩
              clear BK254
              clear HB
              clear h0_ h1_ h2_ h3_
              have HO261 := n0_
              have HO265 := n1_
              have BK254 := n2_
              have HB := n3_
              clear n0_ n1_ n2_ n3_
              have hHeld : w22.cell? ⟨gb254, 0, none⟩ = some (.slice (some ad258) l0_0.length c0_0) ∧ w22.cell? ⟨gb254, 1, none⟩ = some (.slice (some ad262) l0_1.length c0_1) ∧ w22.cell? ⟨gb254, 2, none⟩ = some (.slice A0_2 l0_2.length c0_2) ∧ w22.cell? ⟨gb254, 3, none⟩ = some (.int .i64 a0_3) ∧ w22.cell? (ad262.add (x17_1).toNat) = some (.string (rdOf ByteArray.empty l0_1 x17_1)) ∧ w22.cell? (ad262.add (x17_1).toNat) = some (.string (rdOf ByteArray.empty l0_1 x17_1)) := hS_
              refine norm_ (a' := ?_) ?_ ?_
              rotate_left
              ·simp only [putAll, Act.put, List.setIfInBounds_toArray, List.set_cons_zero, List.set_cons_succ]
               rfl
              refine one_ (i := 5) (N := some 27) #[true, true, true, true, true, true, true, false, true, true, true, true, true, true, true, true, true, false, true, true, true, true, true, false, false, false] rfl rfl (one_of HT_.out (by kernel_rfl)) (by decide) (fun K hK => ?_)
              have hcv23 := own_string (P := Try.prog) Try.underlying51 Try.underlying5 Try.underlying9 (Kd.own_of_R HO261.out)
              refine value_ (w1 := ?_) (v := ?_) (by rfl) rfl ?_ ?_
              rotate_left 2
              ·go_simp
               constructor
               ·rfl
               ·rfl
              clear hcv23
              refine hK.out _ _ ⟨(blk_cell BK254.out 0).trans rfl, (blk_cell BK254.out 1).trans rfl, (blk_cell BK254.out 2).trans rfl, (blk_cell BK254.out 3).trans rfl, ((HB.out.cell (World.block_lt_of_cell? w _ hw262_0)).trans hw262_0), ((HB.out.cell (World.block_lt_of_cell? w _ hw266_0)).trans hw266_0)⟩ (fun hHeld => ?_)
              clear hK K
              refine norm_ (a' := ?_) ?_ ?_
              rotate_left
              ·show Act.put _ (some 27) _ = _
               simp only [Act.put, List.setIfInBounds_toArray, List.set_cons_zero, List.set_cons_succ, i64_w, i32_w]
               rfl
              refine pure_ (i := 7) (N := some 29) (v := ?_) (a' := ?_) #[true, true, true, true, true, true, true, true, true, true, true, true, true, true, true, true, true, false, true, true, true, true, true, false, false, false] rfl rfl (any_of HT_.out (by kernel_rfl)) (fun _ _ _ h => h) (Or.inl ⟨by rfl, ?_⟩) ?_ ?_
              rotate_left
              ·intro w'
               go_simp
               with_reducible rfl
              rotate_left
              ·simp only [Act.put, List.setIfInBounds_toArray, List.set_cons_zero, List.set_cons_succ, i64_w, i32_w]
               rfl
              exact norm_ (by first | (simp only [putAll, Act.put, List.setIfInBounds_toArray, List.set_cons_zero, List.set_cons_succ]; done) | (simp only [putAll, Act.put, List.setIfInBounds_toArray, List.set_cons_zero, List.set_cons_succ]; rfl)) (hJ4_5_15_16 (v260, v264) _ ⟨hHeld, (by (with_reducible repeat (first | apply Kd.R_alloc | apply Kd.R_drewN | apply Kd.R_drew)); exact HO261.out), (by (with_reducible repeat (first | apply Kd.R_alloc | apply Kd.R_drewN | apply Kd.R_drew)); exact HO265.out), (by (with_reducible repeat (first | refine blk_drewN ?_ _ | refine blk_drew ?_ | refine blk_alloc ?_ _)); exact BK254.out), (by repeat (first | (with_reducible first | exact HB.out | apply below_alloc | apply pw_below_drewN | apply below_drew1 | refine below_set ?_ GE254.out) | exact HB.out))⟩)
            ·skip
             rintro ⟨v260, v264⟩ w22 ⟨hS_, h0_, h1_, h2_, h3_⟩
             have n0_ : Aside0 (Kd.R (Kd.int .u8) 5 w22 w.heap.size (fun k_ => some k_ ≠ (v264 : Value).ownBlock) v260 y259) := ⟨h0_⟩
             have n1_ : Aside0 (Kd.R (Kd.int .u8) 5 w22 w.heap.size (fun k_ => some k_ ≠ (v260 : Value).ownBlock) v264 y263) := ⟨h1_⟩
             have n2_ : Aside0 (w22.heap[gb254]? = some (.cells #[.slice (some ad258) l0_0.length c0_0, .slice (some ad262) l0_1.length c0_1, .slice A0_2 l0_2.length c0_2, .int .i64 a0_3] 33 (0, 0))) := ⟨h2_⟩
             have n3_ : Aside0 (Below w.heap.size w w22) := ⟨h3_⟩
             clear BK254
             clear HB
             clear h0_ h1_ h2_ h3_
             have HO261 := n0_
             have HO265 := n1_
             have BK254 := n2_
             have HB := n3_
             clear n0_ n1_ n2_ n3_
             have hHeld : w22.cell? ⟨gb254, 0, none⟩ = some (.slice (some ad258) l0_0.length c0_0) ∧ w22.cell? ⟨gb254, 1, none⟩ = some (.slice (some ad262) l0_1.length c0_1) ∧ w22.cell? ⟨gb254, 2, none⟩ = some (.slice A0_2 l0_2.length c0_2) ∧ w22.cell? ⟨gb254, 3, none⟩ = some (.int .i64 a0_3) ∧ w22.cell? (ad262.add (x17_1).toNat) = some (.string (rdOf ByteArray.empty l0_1 x17_1)) ∧ w22.cell? (ad262.add (x17_1).toNat) = some (.string (rdOf ByteArray.empty l0_1 x17_1)) := hS_
             refine norm_ (a' := ?_) ?_ ?_
             rotate_left
             ·simp only [putAll, Act.put, List.setIfInBounds_toArray, List.set_cons_zero, List.set_cons_succ]
              rfl
             refine one_ (i := 16) (N := some 38) #[true, true, true, true, true, true, true, true, true, true, true, true, true, true, true, true, true, false, true, true, true, true, true, false, false, false] rfl rfl (one_of HT_.out (by kernel_rfl)) (by decide) (fun K hK => ?_)
             have hcv23 := own_string (P := Try.prog) Try.underlying51 Try.underlying5 Try.underlying9 (Kd.own_of_R HO265.out)
             refine value_ (w1 := ?_) (v := ?_) (by rfl) rfl ?_ ?_
             rotate_left 2
             ·go_simp
              constructor
              ·rfl
              ·rfl
             clear hcv23
             refine hK.out _ _ ⟨(blk_cell BK254.out 0).trans rfl, (blk_cell BK254.out 1).trans rfl, (blk_cell BK254.out 2).trans rfl, (blk_cell BK254.out 3).trans rfl, ((HB.out.cell (World.block_lt_of_cell? w _ hw262_0)).trans hw262_0), ((HB.out.cell (World.block_lt_of_cell? w _ hw266_0)).trans hw266_0)⟩ (fun hHeld => ?_)
             clear hK K
             refine norm_ (a' := ?_) ?_ ?_
             rotate_left
             ·show Act.put _ (some 38) _ = _
              simp only [Act.put, List.setIfInBounds_toArray, List.set_cons_zero, List.set_cons_succ, i64_w, i32_w]
              rfl
             exact norm_ (by first | (simp only [putAll, Act.put, List.setIfInBounds_toArray, List.set_cons_zero, List.set_cons_succ]; done) | (simp only [putAll, Act.put, List.setIfInBounds_toArray, List.set_cons_zero, List.set_cons_succ]; rfl)) (hJ4_5_15_16 (v260, v264) _ ⟨hHeld, (by (with_reducible repeat (first | apply Kd.R_alloc | apply Kd.R_drewN | apply Kd.R_drew)); exact HO261.out), (by (with_reducible repeat (first | apply Kd.R_alloc | apply Kd.R_drewN | apply Kd.R_drew)); exact HO265.out), (by (with_reducible repeat (first | refine blk_drewN ?_ _ | refine blk_drew ?_ | refine blk_alloc ?_ _)); exact BK254.out), (by repeat (first | (with_reducible first | exact HB.out | apply below_alloc | apply pw_below_drewN | apply below_drew1 | refine below_set ?_ GE254.out) | exact HB.out))⟩)
           rintro ⟨v260, v264⟩ w23 ⟨hS_, h0_, h1_, h2_, h3_⟩
           have n0_ : Aside0 (Kd.R (Kd.int .u8) 5 w23 w.heap.size (fun k_ => some k_ ≠ (v264 : Value).ownBlock) v260 y259) := ⟨h0_⟩
           have n1_ : Aside0 (Kd.R (Kd.int .u8) 5 w23 w.heap.size (fun k_ => some k_ ≠ (v260 : Value).ownBlock) v264 y263) := ⟨h1_⟩
           have n2_ : Aside0 (w23.heap[gb254]? = some (.cells #[.slice (some ad258) l0_0.length c0_0, .slice (some ad262) l0_1.length c0_1, .slice A0_2 l0_2.length c0_2, .int .i64 a0_3] 33 (0, 0))) := ⟨h2_⟩
           have n3_ : Aside0 (Below w.heap.size w w23) := ⟨h3_⟩
           clear BK254
           clear HB
           clear h0_ h1_ h2_ h3_
           have HO261 := n0_
           have HO265 := n1_
           have BK254 := n2_
           have HB := n3_
           clear n0_ n1_ n2_ n3_
           have hHeld : w23.cell? ⟨gb254, 0, none⟩ = some (.slice (some ad258) l0_0.length c0_0) ∧ w23.cell? ⟨gb254, 1, none⟩ = some (.slice (some ad262) l0_1.length c0_1) ∧ w23.cell? ⟨gb254, 2, none⟩ = some (.slice A0_2 l0_2.length c0_2) ∧ w23.cell? ⟨gb254, 3, none⟩ = some (.int .i64 a0_3) ∧ w23.cell? (ad262.add (x17_1).toNat) = some (.string (rdOf ByteArray.empty l0_1 x17_1)) ∧ w23.cell? (ad262.add (x17_1).toNat) = some (.string (rdOf ByteArray.empty l0_1 x17_1)) := hS_
           refine norm_ (a' := ?_) ?_ ?_
           rotate_left
           ·simp only [putAll, Act.put, List.setIfInBounds_toArray, List.set_cons_zero, List.set_cons_succ]
            rfl
           refine pure_ (i := 17) (N := some 39) (v := ?_) (a' := ?_) #[true, true, true, true, true, true, true, true, true, true, true, true, true, true, true, true, true, true, true, true, true, true, true, false, false, false] rfl rfl (any_of HT_.out (by kernel_rfl)) (fun _ _ _ h => h) (Or.inl ⟨by rfl, ?_⟩) ?_ ?_
           rotate_left
           ·intro w'
            go_simp
            with_reducible rfl
           rotate_left
           ·simp only [Act.put, List.setIfInBounds_toArray, List.set_cons_zero, List.set_cons_succ, i64_w, i32_w]
            rfl
           refine pure_ (i := 23) (N := some 45) (v := ?_) (a' := ?_) #[true, true, true, true, true, true, true, true, true, true, true, true, true, true, true, true, true, true, true, true, true, true, true, true, false, false] rfl rfl (any_of HT_.out (by kernel_rfl)) (fun _ _ _ h => h) (Or.inl ⟨by rfl, ?_⟩) ?_ ?_
           rotate_left
           ·intro w'
            go_simp
            with_reducible rfl
           rotate_left
           ·simp only [Act.put, List.setIfInBounds_toArray, List.set_cons_zero, List.set_cons_succ, i64_w, i32_w]
            rfl
           refine pure_ (i := 24) (N := some 46) (v := ?_) (a' := ?_) #[true, true, true, true, true, true, true, true, true, true, true, true, true, true, true, true, true, true, true, true, true, true, true, true, true, false] rfl rfl (any_of HT_.out (by kernel_rfl)) (fun _ _ _ h => h) (Or.inl ⟨by rfl, ?_⟩) ?_ ?_
           rotate_left
           ·intro w'
            go_simp
            with_reducible rfl
           rotate_left
           ·simp only [Act.put, List.setIfInBounds_toArray, List.set_cons_zero, List.set_cons_succ, i64_w, i32_w]
            rfl
           refine pure_ (i := 25) (N := some 3) (v := ?_) (a' := ?_) #[true, true, true, true, true, true, true, true, true, true, true, true, true, true, true, true, true, true, true, true, true, true, true, true, true, true] rfl rfl (any_of HT_.out (by kernel_rfl)) (fun _ _ _ h => h) (Or.inl ⟨by rfl, ?_⟩) ?_ ?_
           rotate_left
           ·intro w'
            go_simp
            with_reducible rfl
           rotate_left
           ·simp only [Act.put, List.setIfInBounds_toArray, List.set_cons_zero, List.set_cons_succ, i64_w, i32_w]
            rfl
           refine done_ (done_of HT_.out (by kernel_rfl)) ?_
           try go_wp2
           go_roundg k1
           case measure => have := HK1.out; omega
           case rel => exact ⟨(x3_1 ++ ((((strOfNums y259) ++ (rdOf ByteArray.empty l0_0 x17_1)) ++ (strOfNums y263)) ++ (rdOf ByteArray.empty l0_1 x17_1))), (wrap64 (x17_1 + 1)), (by first | rfl | (simp; done) | (simp [*]; done) | (simp [bne]; done)), (by first | rfl | (simp; done) | (simp [*]; done) | (simp [bne]; done)), H', ⟨by have := HK1.out; omega⟩, ⟨by (with_reducible repeat (first | refine blk_drewN ?_ _ | refine blk_drew ?_ | refine blk_alloc ?_ _)); exact BK254.out⟩, ⟨by repeat (first | (with_reducible first | exact HB.out | apply below_alloc | apply pw_below_drewN | apply below_drew1 | refine below_set ?_ GE254.out) | exact HB.out)⟩⟩
          ·rw [if_neg c15] at H
           exact absurd H (by simp)
         ·rw [if_neg c14] at H
          exact absurd H (by simp)
        ·rw [if_neg c13] at H
         exact absurd H (by simp)
       ·rw [if_neg c12] at H
        exact absurd H (by simp)
      ·rw [if_neg c11] at H
       exact absurd H (by simp)
     ·rw [if_neg c10] at H
      exact absurd H (by simp)
    ·rw [if_neg c9] at H
     exact absurd H (by simp)
   ·rw [if_neg c8] at H
    have c8b0 : decide (x17_1 < (l0_0.length : Int)) = false := decide_eq_false c8
    clear c8
    obtain ⟨y267, hy267⟩ : ∃ y_ : List Int, y_ = (([((l0_2.length : Int)) % 256] : List Int)) := ⟨_, rfl⟩
    replace H : (if x3_1.size + (strOfNums y267).size ≤ 9223372036854775807 then (spec_l6Bytes.l1 k1 (x3_1 ++ (strOfNums y267)) l0_2 (l0_2.length : Int) 0) else (none)) = some r := by first | (rw [hy267]; with_reducible exact H) | (have H2_ := (Option.bind_some _ _).symm.trans H; rw [hy267]; with_reducible exact H2_) | (have H2_ := (Option.bind_some _ _).symm.trans H; with_reducible exact H2_) | with_reducible exact H | (rw [hy267]; exact H) | exact H
    have Ny267 := Aside0.mk hy267
    clear hy267
    by_cases c24 : x3_1.size + (strOfNums y267).size ≤ 9223372036854775807
    ·rw [if_pos c24] at H
     have c24b0 := eq_true c24
     have c24b1 : decide (x3_1.size + (strOfNums y267).size ≤ 9223372036854775807) = true := decide_eq_true c24
     try have c24b2 : (9223372036854775807 < x3_1.size + (strOfNums y267).size) = False := eq_false (Nat.not_lt.2 c24)
     have H' := Aside0.mk H
     clear H
     have hcz25_0 : wr.cell? ⟨gb254, 0, none⟩ = some (.slice A0_0 l0_0.length c0_0) := (blk_cell BK254.out 0).trans rfl
     have hcz25_1 : wr.cell? ⟨gb254, 1, none⟩ = some (.slice A0_1 l0_1.length c0_1) := (blk_cell BK254.out 1).trans rfl
     have hcz25_2 : wr.cell? ⟨gb254, 2, none⟩ = some (.slice A0_2 l0_2.length c0_2) := (blk_cell BK254.out 2).trans rfl
     have hcz25_3 : wr.cell? ⟨gb254, 3, none⟩ = some (.int .i64 a0_3) := (blk_cell BK254.out 3).trans rfl
     have hfz25_0 := blk_frozen BK254.out 0
     have hfz25_1 := blk_frozen BK254.out 1
     have hfz25_2 := blk_frozen BK254.out 2
     have hfz25_3 := blk_frozen BK254.out 3
     go_wp2_with (first | ((with_reducible refine gate_dst (N := 53) rfl ?_); refine Kd.R_lit (Kd.int .u8) _ 5 ?hg (N := 53) ?hd (xs := ([((l0_2.length : Int)) % 256] : List Int)) (inner := [.int .u8 (((l0_2.length : Int)) % 256)]) (ok := fun _ => True) (okp := fun _ => True) ?hr ?hp (fun _ hk => hk) trivial (Below.refl _ _) (Nat.le_refl _) (by simp) ?_; (case hd => rfl); (case hg => rfl); (case hr => first | (go_simp; done) | (go_simp; rfl)); (case hp => exact (Reps.one (show Kd.M (Kd.int .u8) _ _ _ (((l0_2.length : Int)) % 256) [.int .u8 (((l0_2.length : Int)) % 256)] from rfl) (Reps.none _ _))); intro v268 w26 ho27 hb hg_ hnew_; clear hg_ hnew_; (first | rw [← Ny267.out] at ho27 | (simp only [Int.reduceToNat] at ho27; rw [← Ny267.out] at ho27)); have n0_ := Aside0.mk (Kd.R_lower ho27 (below_size (by repeat (first | (with_reducible first | exact HB.out | apply below_alloc | apply pw_below_drewN | apply below_drew1 | refine below_set ?_ GE254.out) | exact HB.out)))); have n1_ := Aside0.mk (blk_below (g := gb254) (o := .cells #[.slice A0_0 l0_0.length c0_0, .slice A0_1 l0_1.length c0_1, .slice A0_2 l0_2.length c0_2, .int .i64 a0_3] 33 (0, 0)) (by (with_reducible repeat (first | refine blk_drewN ?_ _ | refine blk_drew ?_ | refine blk_alloc ?_ _)); exact BK254.out) hb); have n2_ := Aside0.mk (below_step (by repeat (first | (with_reducible first | exact HB.out | apply below_alloc | apply pw_below_drewN | apply below_drew1 | refine below_set ?_ GE254.out) | exact HB.out)) hb); clear BK254; clear HB; have HO269 := n0_; have BK254 := n1_; have HB := n2_; clear n0_ n1_ n2_; clear hb ho27; have hcv28 := own_string (P := Try.prog) Try.underlying51 Try.underlying5 Try.underlying9 (Kd.own_of_R HO269.out); have hcz29_0 : w26.cell? ⟨gb254, 0, none⟩ = some (.slice A0_0 l0_0.length c0_0) := (blk_cell BK254.out 0).trans rfl; have hcz29_1 : w26.cell? ⟨gb254, 1, none⟩ = some (.slice A0_1 l0_1.length c0_1) := (blk_cell BK254.out 1).trans rfl; have hcz29_2 : w26.cell? ⟨gb254, 2, none⟩ = some (.slice A0_2 l0_2.length c0_2) := (blk_cell BK254.out 2).trans rfl; have hcz29_3 : w26.cell? ⟨gb254, 3, none⟩ = some (.int .i64 a0_3) := (blk_cell BK254.out 3).trans rfl; have hfz29_0 := blk_frozen BK254.out 0; have hfz29_1 := blk_frozen BK254.out 1; have hfz29_2 := blk_frozen BK254.out 2; have hfz29_3 := blk_frozen BK254.out 3))
     go_loopg [3, 59] k1 (fun kq v3 v59 w' => ∃ (x3_2 : ByteArray) (x59_2 : Int), v3 = .string x3_2 ∧ v59 = .int .i64 x59_2 ∧ Aside0 (spec_l6Bytes.l1 kq x3_2 l0_2 (l0_2.length : Int) x59_2 = some r) ∧ Aside0 (kq ≤ k1) ∧ Aside0 (w'.heap[gb254]? = some (.cells #[(.slice A0_0 l0_0.length c0_0), (.slice A0_1 l0_1.length c0_1), (.slice A0_2 l0_2.length c0_2), .int .i64 a0_3] 33 (0, 0))) ∧ Aside0 (Below w.heap.size w w'))
     case atStart => exact ⟨(x3_1 ++ (strOfNums y267)), (0), (by first | rfl | (simp; done) | (simp [*]; done) | (simp [bne]; done)), (by first | rfl | (simp; done) | (simp [*]; done) | (simp [bne]; done)), H', ⟨Nat.le_refl _⟩, ⟨by (with_reducible repeat (first | refine blk_drewN ?_ _ | refine blk_drew ?_ | refine blk_alloc ?_ _)); exact BK254.out⟩, ⟨by repeat (first | (with_reducible first | exact HB.out | apply below_alloc | apply pw_below_drewN | apply below_drew1 | refine below_set ?_ GE254.out) | exact HB.out)⟩⟩
     case round =>
      clear H'
      try clear c1
      try clear c2
      try clear p2
      try clear hcv2
      try clear p6
      try clear c8
      try clear c8b0
      try clear c9
      try clear c10
      try clear c11
      try clear c12
      try clear c13
      try clear c14
      try clear c15
      try clear hcv20
      try clear hcv22
      try clear hcv23
      try clear c24
      try clear c24b0
      try clear c24b1
      try clear c24b2
      try clear hcv28
      try clear hcz25_0
      try clear hcz25_1
      try clear hcz25_2
      try clear hcz25_3
      try clear hcz29_0
      try clear hcz29_1
      try clear hcz29_2
      try clear hcz29_3
      try clear hfz25_0
      try clear hfz25_1
      try clear hfz25_2
      try clear hfz25_3
      try clear hfz29_0
      try clear hfz29_1
      try clear hfz29_2
      try clear hfz29_3
      obtain ⟨x3_2, x59_2, rfl, rfl, HA, HK2, BK254, HB⟩ := hrel
      cases gk with
      | zero => exact absurd HA.out (by simp [spec_l6Bytes.l1])
      | succ k2 =>
       have H := HA.out
       clear HA
       simp only [spec_l6Bytes.l1] at H
       by_cases c30 : x59_2 < (l0_2.length : Int)
       ·rw [if_pos c30] at H
        have c30b0 : decide (x59_2 < (l0_2.length : Int)) = true := decide_eq_true c30
        clear c30
        by_cases c31 : 0 ≤ x59_2
        ·rw [if_pos c31] at H
         have c31b0 : decide (0 ≤ x59_2) = true := decide_eq_true c31
         clear c31
         by_cases c32 : x59_2 < (l0_2.length : Int)
         ·rw [if_pos c32] at H
          have c32b0 : decide (x59_2 < (l0_2.length : Int)) = true := decide_eq_true c32
          clear c32
          by_cases c33 : x3_2.size + (rdOf ByteArray.empty l0_2 x59_2).size ≤ 9223372036854775807
          ·rw [if_pos c33] at H
           have c33b0 := eq_true c33
           have c33b1 : decide (x3_2.size + (rdOf ByteArray.empty l0_2 x59_2).size ≤ 9223372036854775807) = true := decide_eq_true c33
           try have c33b2 : (9223372036854775807 < x3_2.size + (rdOf ByteArray.empty l0_2 x59_2).size) = False := eq_false (Nat.not_lt.2 c33)
           have H' := Aside0.mk H
           clear H
           have p270 : 0 ≤ (x59_2 : Int) := of_decide_eq_true (by first | (with_reducible assumption) | assumption)
           have q270 : x59_2 < (l0_2.length : Int) := of_decide_eq_true (by first | (with_reducible assumption) | assumption)
           obtain ⟨ad270, e270, hx270_0⟩ := Kd.at_string HR0_2.out x59_2 p270 q270
           cases e270
           replace hx270_0 := (HB.out.cell (World.block_lt_of_cell? w _ hx270_0)).trans hx270_0
           replace p270 := eq_true p270
           replace q270 := eq_true q270
           go_wp2
           go_roundg k2
           case measure => have := HK1.out; have := HK2.out; omega
           case rel => exact ⟨(x3_2 ++ (rdOf ByteArray.empty l0_2 x59_2)), (wrap64 (x59_2 + 1)), (by first | rfl | (simp; done) | (simp [*]; done) | (simp [bne]; done)), (by first | rfl | (simp; done) | (simp [*]; done) | (simp [bne]; done)), H', ⟨by have := HK1.out; have := HK2.out; omega⟩, ⟨by (with_reducible repeat (first | refine blk_drewN ?_ _ | refine blk_drew ?_ | refine blk_alloc ?_ _)); exact BK254.out⟩, ⟨by repeat (first | (with_reducible first | exact HB.out | apply below_alloc | apply pw_below_drewN | apply below_drew1 | refine below_set ?_ GE254.out) | exact HB.out)⟩⟩
          ·rw [if_neg c33] at H
           exact absurd H (by simp)
         ·rw [if_neg c32] at H
          exact absurd H (by simp)
        ·rw [if_neg c31] at H
         exact absurd H (by simp)
       ·rw [if_neg c30] at H
        have c30b0 : decide (x59_2 < (l0_2.length : Int)) = false := decide_eq_false c30
        clear c30
        obtain rfl := Option.some.inj H
        go_wp2
        go_ret
        exact ⟨by first | rfl | (simp [errW_none, errW_some] <;> rfl) | (simp [*, errW_none, errW_some] <;> rfl), by repeat (first | (with_reducible first | exact HB.out | apply below_alloc | apply pw_below_drewN | apply below_drew1 | refine below_set ?_ GE254.out) | exact HB.out)⟩
    ·rw [if_neg c24] at H
     exact absurd H (by simp)

end Go.Proofs.Ytleegjkloclolaa.PA
