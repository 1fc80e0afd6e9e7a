/- For the law FnExactPutBlock (laid by merge.py). -/
import Derived.Test.YtpbepgffbcfaoaaMFnExactPutBlockb
import Derived.Laws.BitsLemmas
section
namespace Go.Proofs.Ytpbepgffbcfaoaa.PA
open Go.RowKit Go.Proofs.YtpbepgffbcfaoaaW.PrintWords Go.Proofs.YtpbepgffbcfaoaaW.PrintLast Go.Proofs.YtpbepgffbcfaoaaW.PrintMore
attribute [local go_sem] max2_int min2_int max_two min_two max_three min_three max_four min_four
set_option linter.unusedVariables false
set_option linter.unusedSimpArgs false
set_option maxHeartbeats 60000000
set_option maxRecDepth 100000
def impl_Block_bytes.l0 : Nat → ByteArray → List ByteArray → Int → Int → Option (ByteArray)
 | 0, _, _, _, _ => none
 | k + 1, x3, x12, x13, x14 => if x14 < x13 then (if 0 ≤ x14 then (if x14 < (x12.length : Int) then ((impl_oneByte.f ((rdOf ByteArray.empty x12 x14).size : Int)).bind fun t10 => (if t10.size + (rdOf ByteArray.empty x12 x14).size ≤ 9223372036854775807 then (if x3.size + (t10 ++ (rdOf ByteArray.empty x12 x14)).size ≤ 9223372036854775807 then (impl_Block_bytes.l0 k (x3 ++ (t10 ++ (rdOf ByteArray.empty x12 x14))) x12 x13 (wrap64 (x14 + 1))) else (none)) else (none))) else (none)) else (none)) else (some x3)
def impl_Block_bytes.f (k : Nat) (a0_0 : ByteArray) (a0_1 : ByteArray) (l0_2 : List ByteArray) : Option (ByteArray) := if a0_0.size + a0_1.size ≤ 9223372036854775807 then (impl_Block_bytes.l0 k (a0_0 ++ a0_1) l0_2 (l0_2.length : Int) 0) else (none)
theorem impl_Block_bytes.calls (k : Nat) (a0_0 : ByteArray) (a0_1 : ByteArray) (A0_2 : Option Addr) (c0_2 : Nat) (l0_2 : List ByteArray) (r : ByteArray) (w : World) (hr0_2 : Kd.C Kd.string w A0_2 l0_2.length l0_2) (hc0_2 : l0_2.length ≤ c0_2) (h : impl_Block_bytes.f k a0_0 a0_1 l0_2 = some r) :
  Calls Try.prog 74 #[.agg #[.string a0_0, .string a0_1, .slice A0_2 l0_2.length c0_2]] w fun e w' => e = .returned (.string r) ∧ Below w.heap.size w w' := by
 have hu51 := Try.underlying51; have HR0_2 := zA hr0_2; have HC0_2 := zA hc0_2; clear hr0_2 hc0_2; have HB := zA (Below.refl w.heap.size w); have H : (if a0_0.size + a0_1.size ≤ 9223372036854775807 then (impl_Block_bytes.l0 k (a0_0 ++ a0_1) l0_2 (l0_2.length : Int) 0) else (none)) = some r := h; clear h
 by_cases c2 : a0_0.size + a0_1.size ≤ 9223372036854775807
 ·rw [if_pos c2] at H
  have c2b0 := eq_true c2; have c2b1 : decide (a0_0.size + a0_1.size ≤ 9223372036854775807) = true := zX c2
  try have c2b2 : (9223372036854775807 < a0_0.size + a0_1.size) = False := eq_false (Nat.not_lt.2 c2)
  have H' := zA H; clear H; go_enter Try.func74, Try.ntmps74; go_wp2_with (first | ((with_reducible refine gate_dst (N := 1) rfl ?_); refine box_event ?hg (N := 1) ?hd (cs := #[.string a0_0, .string a0_1, .slice A0_2 l0_2.length c0_2]) (t := 51) ?hr ?_; (case hd => rfl); (case hg => rfl); (case hr => first | (go_simp; done) | (go_simp; rfl)); intro gb12 hg w3 hbox hb; have n0_ := zA (zAD (by (with_reducible repeat first | exact HB.out | apply zH | apply zF | apply zG) <;> exact HB.out) hb); have n1_ := zA (hbox); have n2_ := zA ((by rw [hg]; exact (zAE (by (with_reducible repeat first | exact HB.out | apply zH | apply zF | apply zG) <;> exact HB.out)) : w.heap.size ≤ gb12)); have n3_ := zA ((by rw [hg]; exact (zAE (by (with_reducible repeat first | exact HB.out | apply zH | apply zF | apply zG) <;> exact HB.out)) : w.heap.size ≤ gb12)); clear HB; have HB := n0_; have BK12 := n1_; have GW12 := n2_; have GE12 := n3_; clear n0_ n1_ n2_ n3_; clear hb hbox hg; have hcz4_0 := yL BK12.out 0 (.string a0_0) rfl; have hcz4_1 := yL BK12.out 1 (.string a0_1) rfl; have hcz4_2 := yL BK12.out 2 (.slice A0_2 l0_2.length c0_2) rfl; have hfz4_0 := zO BK12.out 0; have hfz4_1 := zO BK12.out 1; have hfz4_2 := zO BK12.out 2)); go_loopg [3, 14] k (fun kq v3 v14 w' => ∃ (x3_1 : ByteArray) (x14_1 : Int), v3 = .string x3_1 ∧ v14 = .int .i64 x14_1 ∧ Aside0 (impl_Block_bytes.l0 kq x3_1 l0_2 (l0_2.length : Int) x14_1 = some r) ∧ Aside0 (kq ≤ k) ∧ Aside0 (w'.heap[gb12]? = some (.cells #[.string a0_0, .string a0_1, (.slice A0_2 l0_2.length c0_2)] 51 (0, 0))) ∧ Aside0 (Below w.heap.size w w'))
  case atStart => exact ⟨(a0_0 ++ a0_1), (0), (by first | rfl | (simp; done) | (simp [*]; done) | (simp [bne]; done)), (by first | rfl | (simp; done) | (simp [*]; done) | (simp [bne]; done)), H', ⟨Nat.le_refl _⟩, ⟨by (with_reducible repeat (first | refine zL ?_ _ | refine zN ?_ | refine zM ?_ _)); exact BK12.out⟩, ⟨by repeat (first | (with_reducible first | exact HB.out | apply zH | apply zF | apply zG | refine zI ?_ GE12.out) | exact HB.out)⟩⟩
  case round =>
   clear H'
   try clear c2
   try clear c2b0
   try clear c2b1
   try clear c2b2
   try clear p2
   try clear hcz4_0
   try clear hcz4_1
   try clear hcz4_2
   try clear hfz4_0
   try clear hfz4_1
   try clear hfz4_2
   obtain ⟨x3_1, x14_1, rfl, rfl, HA, HK1, BK12, HB⟩ := hrel
   cases gk with
   | zero => exact absurd HA.out (by simp [impl_Block_bytes.l0])
   | succ k1 =>
    have H := HA.out; clear HA; simp only [impl_Block_bytes.l0] at H
    by_cases c5 : x14_1 < (l0_2.length : Int)
    ·rw [if_pos c5] at H
     have c5b0 : decide (x14_1 < (l0_2.length : Int)) = true := zX c5; clear c5
     by_cases c6 : 0 ≤ x14_1
     ·rw [if_pos c6] at H
      have c6b0 : decide (0 ≤ x14_1) = true := zX c6; clear c6
      by_cases c7 : x14_1 < (l0_2.length : Int)
      ·rw [if_pos c7] at H
       have c7b0 : decide (x14_1 < (l0_2.length : Int)) = true := zX c7; clear c7; replace H := zAF H; obtain ⟨t13, A80, H⟩ := H; replace H : (if t13.size + (rdOf ByteArray.empty l0_2 x14_1).size ≤ 9223372036854775807 then (if x3_1.size + (t13 ++ (rdOf ByteArray.empty l0_2 x14_1)).size ≤ 9223372036854775807 then (impl_Block_bytes.l0 k1 (x3_1 ++ (t13 ++ (rdOf ByteArray.empty l0_2 x14_1))) l0_2 (l0_2.length : Int) (wrap64 (x14_1 + 1))) else (none)) else (none)) = some r := H; have A8 := zA A80; clear A80
       by_cases c9 : t13.size + (rdOf ByteArray.empty l0_2 x14_1).size ≤ 9223372036854775807
       ·rw [if_pos c9] at H
        have c9b0 := eq_true c9; have c9b1 : decide (t13.size + (rdOf ByteArray.empty l0_2 x14_1).size ≤ 9223372036854775807) = true := zX c9
        try have c9b2 : (9223372036854775807 < t13.size + (rdOf ByteArray.empty l0_2 x14_1).size) = False := eq_false (Nat.not_lt.2 c9)
        by_cases c10 : x3_1.size + (t13 ++ (rdOf ByteArray.empty l0_2 x14_1)).size ≤ 9223372036854775807
        ·rw [if_pos c10] at H
         have c10b0 := eq_true c10; have c10b1 : decide (x3_1.size + (t13 ++ (rdOf ByteArray.empty l0_2 x14_1)).size ≤ 9223372036854775807) = true := zX c10; (try (have c10b3 := (show x3_1.size + (t13 ++ (rdOf ByteArray.empty l0_2 x14_1)).size ≤ 9223372036854775807 from c10); simp only [ByteArray.size_append, ByteArray.size_extract, Nat.min_self, Nat.sub_zero] at c10b3; have c10b4 := eq_true c10b3; have c10b5 : decide (_) = true := zX c10b3; have c10b6 := eq_false (Nat.not_lt.2 c10b3); clear c10b3))
         try have c10b2 : (9223372036854775807 < x3_1.size + (t13 ++ (rdOf ByteArray.empty l0_2 x14_1)).size) = False := eq_false (Nat.not_lt.2 c10)
         have H' := zA H; clear H; have p15 : 0 ≤ (x14_1 : Int) := zW (by first | (with_reducible assumption) | assumption); have q15 : x14_1 < (l0_2.length : Int) := zW (by first | (with_reducible assumption) | assumption); obtain ⟨ad15, e15, hx15_0⟩ := Kd.at_string HR0_2.out x14_1 p15 q15
         cases e15
         replace hx15_0 := (HB.out.cell (zB w _ hx15_0)).trans hx15_0; replace p15 := eq_true p15; replace q15 := eq_true q15; go_wp2_with (first | ((with_reducible refine yB (f := 88) rfl ?_); refine goesL_ (some 21) rfl rfl Try.func88 (by kernel_rfl) rfl #[.int .i64 ((rdOf ByteArray.empty l0_2 x14_1).size : Int)] rfl (by (try simp only [zAA, zAB, zAC]); first | done | rfl) ?_; (with_reducible refine (impl_oneByte.calls ((rdOf ByteArray.empty l0_2 x14_1).size : Int) t13 _ A8.out).mono ?_); rintro e w11 ⟨rfl, hb⟩; refine ⟨_, rfl, ?_⟩; have n0_ := zA (yE (g := gb12) (o := .cells #[.string a0_0, .string a0_1, .slice (some ad15) l0_2.length c0_2] 51 (0, 0)) (by (with_reducible repeat (first | refine zL ?_ _ | refine zN ?_ | refine zM ?_ _)); exact BK12.out) hb); have n1_ := zA (zAD (by repeat (first | (with_reducible first | exact HB.out | apply zH | apply zF | apply zG | refine zI ?_ GE12.out) | exact HB.out)) hb); clear BK12; clear HB; have BK12 := n0_; have HB := n1_; clear n0_ n1_; (try clear hb))); go_roundg k1
         case measure => have := HK1.out; omega
         case rel => exact ⟨(x3_1 ++ (t13 ++ (rdOf ByteArray.empty l0_2 x14_1))), (wrap64 (x14_1 + 1)), (by first | rfl | (simp; done) | (simp [*]; done) | (simp [bne]; done)), (by first | rfl | (simp; done) | (simp [*]; done) | (simp [bne]; done)), H', ⟨by have := HK1.out; omega⟩, ⟨by (with_reducible repeat (first | refine zL ?_ _ | refine zN ?_ | refine zM ?_ _)); exact BK12.out⟩, ⟨by repeat (first | (with_reducible first | exact HB.out | apply zH | apply zF | apply zG | refine zI ?_ GE12.out) | exact HB.out)⟩⟩
        ·rw [if_neg c10] at H
         exact absurd H (by simp)
       ·rw [if_neg c9] at H
        exact absurd H (by simp)
      ·rw [if_neg c7] at H
       exact absurd H (by simp)
     ·rw [if_neg c6] at H
      exact absurd H (by simp)
    ·rw [if_neg c5] at H
     have c5b0 : decide (x14_1 < (l0_2.length : Int)) = false := decide_eq_false c5; clear c5; obtain rfl := yM H; go_wp2; go_ret; exact ⟨by first | rfl | (simp <;> rfl) | (simp [*] <;> rfl), by repeat (first | (with_reducible first | exact HB.out | apply zH | apply zF | apply zG | refine zI ?_ GE12.out) | exact HB.out)⟩
 ·rw [if_neg c2] at H
  exact absurd H (by simp)
def impl_Block_digest.f (k : Nat) (a0_0 : ByteArray) (a0_1 : ByteArray) (l0_2 : List ByteArray) : Option (ByteArray) := (impl_Block_bytes.f k a0_0 a0_1 l0_2).bind fun t10 => ((impl_digest.f k 104 t10).bind fun t11 => (some t11))
theorem impl_Block_digest.calls (k : Nat) (a0_0 : ByteArray) (a0_1 : ByteArray) (A0_2 : Option Addr) (c0_2 : Nat) (l0_2 : List ByteArray) (r : ByteArray) (w : World) (hr0_2 : Kd.C Kd.string w A0_2 l0_2.length l0_2) (hc0_2 : l0_2.length ≤ c0_2) (h : impl_Block_digest.f k a0_0 a0_1 l0_2 = some r) :
  Calls Try.prog 51 #[.agg #[.string a0_0, .string a0_1, .slice A0_2 l0_2.length c0_2]] w fun e w' => e = .returned (.string r) ∧ Below w.heap.size w w' := by
 have hu51 := Try.underlying51; have HR0_2 := zA hr0_2; have HC0_2 := zA hc0_2; clear hr0_2 hc0_2; have HB := zA (Below.refl w.heap.size w); have H : ((impl_Block_bytes.f k a0_0 a0_1 l0_2).bind fun t10 => ((impl_digest.f k 104 t10).bind fun t11 => (some t11))) = some r := h; clear h; replace H := zAF H; obtain ⟨t10, A20, H⟩ := H; replace H : ((impl_digest.f k 104 t10).bind fun t11 => (some t11)) = some r := H; have A2 := zA A20; clear A20; replace H := zAF H; obtain ⟨t11, A30, H⟩ := H; replace H : (some t11) = some r := H; have A3 := zA A30; clear A30; obtain rfl := yM H; go_enter Try.func51, Try.ntmps51; go_wp2_with (first | ((with_reducible refine gate_dst (N := 1) rfl ?_); refine box_event ?hg (N := 1) ?hd (cs := #[.string a0_0, .string a0_1, .slice A0_2 l0_2.length c0_2]) (t := 51) ?hr ?_; (case hd => rfl); (case hg => rfl); (case hr => first | (go_simp; done) | (go_simp; rfl)); intro gb12 hg w4 hbox hb; have n0_ := zA (zAD (by (with_reducible repeat first | exact HB.out | apply zH | apply zF | apply zG) <;> exact HB.out) hb); have n1_ := zA (hbox); have n2_ := zA ((by rw [hg]; exact (zAE (by (with_reducible repeat first | exact HB.out | apply zH | apply zF | apply zG) <;> exact HB.out)) : w.heap.size ≤ gb12)); have n3_ := zA ((by rw [hg]; exact (zAE (by (with_reducible repeat first | exact HB.out | apply zH | apply zF | apply zG) <;> exact HB.out)) : w.heap.size ≤ gb12)); clear HB; have HB := n0_; have BK12 := n1_; have GW12 := n2_; have GE12 := n3_; clear n0_ n1_ n2_ n3_; clear hb hbox hg; have hcz5_0 := yL BK12.out 0 (.string a0_0) rfl; have hcz5_1 := yL BK12.out 1 (.string a0_1) rfl; have hcz5_2 := yL BK12.out 2 (.slice A0_2 l0_2.length c0_2) rfl; have hfz5_0 := zO BK12.out 0; have hfz5_1 := zO BK12.out 1; have hfz5_2 := zO BK12.out 2) | ((with_reducible refine yB (f := 74) rfl ?_); refine goesL_ (some 4) rfl rfl Try.func74 (by kernel_rfl) rfl #[.agg #[.string a0_0, .string a0_1, .slice A0_2 l0_2.length c0_2]] rfl (by (try simp only [zAA, zAB, zAC]); first | done | rfl | (simp only [zZ, zY]; rfl)) ?_; (with_reducible refine (impl_Block_bytes.calls k a0_0 a0_1 _ _ l0_2 t10 _ ?side1 ?side2 A2.out).mono ?_); (case side1 => repeat (first | exact (yN HR0_2.out HB.out) | (with_reducible first | refine zT ?_ _ | refine zU ?_ _ | refine zV ?_))); (case side2 => exact HC0_2.out); rintro e w6 ⟨rfl, hb⟩; refine ⟨_, rfl, ?_⟩; have n0_ := zA (yE (g := gb12) (o := .cells #[.string a0_0, .string a0_1, .slice A0_2 l0_2.length c0_2] 51 (0, 0)) (by (with_reducible repeat (first | refine zL ?_ _ | refine zN ?_ | refine zM ?_ _)); exact BK12.out) hb); have n1_ := zA (zAD (by repeat (first | (with_reducible first | exact HB.out | apply zH | apply zF | apply zG | refine zI ?_ GE12.out) | exact HB.out)) hb); clear BK12; clear HB; have BK12 := n0_; have HB := n1_; clear n0_ n1_; (try clear hb)) | ((with_reducible refine yB (f := 69) rfl ?_); refine goesL_ (some 5) rfl rfl Try.func69 (by kernel_rfl) rfl #[.int .u8 104, .string t10] rfl (by (try simp only [zAA, zAB, zAC]); first | done | rfl) ?_; (with_reducible refine (impl_digest.calls k 104 t10 t11 _ A3.out).mono ?_); rintro e w7 ⟨rfl, hb⟩; refine ⟨_, rfl, ?_⟩; have n0_ := zA (yE (g := gb12) (o := .cells #[.string a0_0, .string a0_1, .slice A0_2 l0_2.length c0_2] 51 (0, 0)) (by (with_reducible repeat (first | refine zL ?_ _ | refine zN ?_ | refine zM ?_ _)); exact BK12.out) hb); have n1_ := zA (zAD (by repeat (first | (with_reducible first | exact HB.out | apply zH | apply zF | apply zG | refine zI ?_ GE12.out) | exact HB.out)) hb); clear BK12; clear HB; have BK12 := n0_; have HB := n1_; clear n0_ n1_; (try clear hb))); go_ret; exact ⟨by first | rfl | (simp <;> rfl) | (simp [*] <;> rfl), by repeat (first | (with_reducible first | exact HB.out | apply zH | apply zF | apply zG | refine zI ?_ GE12.out) | exact HB.out)⟩
def impl_lastDigest.f (k : Nat) (l0 : List (S51)) : Option (ByteArray) := if (l0.length : Int) = 0 then (some (⟨#[0, 0, 0, 0]⟩ : ByteArray)) else (if 0 ≤ (wrap64 ((l0.length : Int) - 1)) then (if (wrap64 ((l0.length : Int) - 1)) < (l0.length : Int) then ((impl_Block_digest.f k ((rd_T51 l0 (wrap64 ((l0.length : Int) - 1))).f0) ((rd_T51 l0 (wrap64 ((l0.length : Int) - 1))).f1) ((rd_T51 l0 (wrap64 ((l0.length : Int) - 1))).f2)).bind fun t10 => (some t10)) else (none)) else (none))
theorem impl_lastDigest.calls (k : Nat) (A0 : Option Addr) (c0 : Nat) (l0 : List (S51)) (r : ByteArray) (w : World) (hr0 : Kd.C k51 w A0 l0.length l0) (hc0 : l0.length ≤ c0) (h : impl_lastDigest.f k l0 = some r) :
  Calls Try.prog 32 #[.slice A0 l0.length c0] w fun e w' => e = .returned (.string r) ∧ Below w.heap.size w w' := by
 have hu51 := Try.underlying51; have HR0 := zA hr0; have HC0 := zA hc0; clear hr0 hc0; have HB := zA (Below.refl w.heap.size w); have H : (if (l0.length : Int) = 0 then (some (⟨#[0, 0, 0, 0]⟩ : ByteArray)) else (if 0 ≤ (wrap64 ((l0.length : Int) - 1)) then (if (wrap64 ((l0.length : Int) - 1)) < (l0.length : Int) then ((impl_Block_digest.f k ((rd_T51 l0 (wrap64 ((l0.length : Int) - 1))).f0) ((rd_T51 l0 (wrap64 ((l0.length : Int) - 1))).f1) ((rd_T51 l0 (wrap64 ((l0.length : Int) - 1))).f2)).bind fun t10 => (some t10)) else (none)) else (none))) = some r := h; clear h
 by_cases c2 : (l0.length : Int) = 0
 ·rw [if_pos c2] at H
  have c2b0 : ((l0.length : Int) == 0) = true := beq_iff_eq.mpr c2; have c2b1 : ((l0.length : Int) != 0) = false := bne_eq_false_iff_eq.mpr c2; clear c2; obtain rfl := yM H; go_enter Try.func32, Try.ntmps32; go_wp2; go_ret; exact ⟨by first | rfl | (simp <;> rfl) | (simp [*] <;> rfl), by (with_reducible repeat first | exact HB.out | apply zH | apply zF | apply zG) <;> exact HB.out⟩
 ·rw [if_neg c2] at H
  have c2b0 : ((l0.length : Int) == 0) = false := beq_eq_false_iff_ne.mpr c2; have c2b1 : ((l0.length : Int) != 0) = true := bne_iff_ne.mpr c2; have c2b2 : ¬ (l0 = []) := fun h_ => c2 (by rw [h_]; rfl)
  obtain ⟨ji3, hji3⟩ : ∃ j_ : Int, (wrap64 ((l0.length : Int) - 1)) = j_ := ⟨_, rfl⟩; replace H : (if 0 ≤ (ji3) then (if (ji3) < (l0.length : Int) then ((impl_Block_digest.f k ((rd_T51 l0 (ji3)).f0) ((rd_T51 l0 (ji3)).f1) ((rd_T51 l0 (ji3)).f2)).bind fun t10 => (some t10)) else (none)) else (none)) = some r := by first | (rw [hji3] at H; exact H) | (simp only [hji3] at H ⊢; exact H)
  have hji3w : (IntKind.i64.wrap ((l0.length : Int) - 1)) = ji3 := (i64_w _).trans hji3
  by_cases c4 : 0 ≤ (ji3)
  ·rw [if_pos c4] at H
   have c4b0 : decide (0 ≤ (ji3)) = true := zX c4; clear c4
   by_cases c5 : (ji3) < (l0.length : Int)
   ·rw [if_pos c5] at H
    have c5b0 : decide ((ji3) < (l0.length : Int)) = true := zX c5; clear c5; replace H := zAF H; obtain ⟨t10, A60, H⟩ := H; replace H : (some t10) = some r := H; have A6 := zA A60; clear A60; obtain rfl := yM H; have p11 : 0 ≤ ((ji3) : Int) := zW (by first | (with_reducible assumption) | assumption); have q11 : (ji3) < (l0.length : Int) := zW (by first | (with_reducible assumption) | assumption); obtain ⟨ad11, A11_2, c11_2, e11, hx11_0, hx11_1, hx11_2, hl11_2, hi11_2⟩ := at_T51 HR0.out (ji3) p11 q11
    cases e11
    have HR11_2 := zA hi11_2; have HC11_2 := zA hl11_2; clear hi11_2 hl11_2; replace p11 := eq_true p11; replace q11 := eq_true q11; go_enter Try.func32, Try.ntmps32; go_wp2_with (first | ((with_reducible refine yB (f := 51) rfl ?_); refine goesL_ (some 12) rfl rfl Try.func51 (by kernel_rfl) rfl #[.agg #[.string ((rd_T51 l0 (ji3)).f0), .string ((rd_T51 l0 (ji3)).f1), .slice A11_2 ((rd_T51 l0 (ji3)).f2).length c11_2]] rfl (by (try simp only [zAA, zAB, zAC]); first | done | (simp only [hji3]; rfl) | rfl | (simp only [zZ, zY]; rfl)) ?_; (with_reducible refine (impl_Block_digest.calls k ((rd_T51 l0 (ji3)).f0) ((rd_T51 l0 (ji3)).f1) _ _ ((rd_T51 l0 (ji3)).f2) t10 _ ?side1 ?side2 A6.out).mono ?_); (case side1 => repeat (first | exact HR11_2.out | (with_reducible first | refine zT ?_ _ | refine zU ?_ _ | refine zV ?_))); (case side2 => exact HC11_2.out); rintro e w7 ⟨rfl, hb⟩; refine ⟨_, rfl, ?_⟩; have n0_ := zA (zAD (by (with_reducible repeat first | exact HB.out | apply zH | apply zF | apply zG) <;> exact HB.out) hb); clear HB; have HB := n0_; clear n0_; (try clear hb))); go_ret; exact ⟨by first | rfl | (simp [errW_none, errW_some] <;> rfl) | (simp only [← hji3]; first | rfl | (simp [errW_none, errW_some] <;> rfl)) | (simp [*, errW_none, errW_some] <;> rfl), by (with_reducible repeat first | exact HB.out | apply zH | apply zF | apply zG) <;> exact HB.out⟩
   ·rw [if_neg c5] at H
    exact absurd H (by simp)
  ·rw [if_neg c4] at H
   exact absurd H (by simp)
def impl_isDigest.f (a0 : ByteArray) : Option (Bool) := some ((a0.size : Int) == 4)
theorem impl_isDigest.calls (a0 : ByteArray) (r : Bool) (w : World) (h : impl_isDigest.f a0 = some r) :
  Calls Try.prog 52 #[.string a0] w fun e w' => e = .returned (.bool r) ∧ Drawn0 w w' := by
 have H : (some ((a0.size : Int) == 4)) = some r := h; clear h; obtain rfl := yM H; go_enter Try.func52, Try.ntmps52; go_wp2; go_ret; exact ⟨by first | rfl | (simp; done) | (simp [*]; done) | (simp [bne]; done), by repeat (first | exact Drawn0.refl _ | apply Drawn0.step)⟩
def impl_GoodBlock_1.f (a0 : ByteArray) : Option (Bool) := some (decide ((a0.size : Int) > 60))
theorem impl_GoodBlock_1.calls (a0 : ByteArray) (r : Bool) (w : World) (h : impl_GoodBlock_1.f a0 = some r) :
  Calls Try.prog 54 #[.string a0] w fun e w' => e = .returned (.bool r) ∧ Drawn0 w w' := by
 have H : (some (decide ((a0.size : Int) > 60))) = some r := h; clear h; obtain rfl := yM H; go_enter Try.func54, Try.ntmps54; go_wp2; go_ret; exact ⟨by first | rfl | (simp; done) | (simp [*]; done) | (simp [bne]; done), by repeat (first | exact Drawn0.refl _ | apply Drawn0.step)⟩
def slices_IndexFunc_impl_GoodBlock_1.l0 : Nat → List ByteArray → Int → Int → Option (Int)
 | 0, _, _, _ => none
 | k + 1, x0, x7, x8 => if x8 < x7 then (if 0 ≤ x8 then (if x8 < (x0.length : Int) then ((impl_GoodBlock_1.f (rdOf ByteArray.empty x0 x8)).bind fun t10 => (if t10 = true then (some x8) else (slices_IndexFunc_impl_GoodBlock_1.l0 k x0 x7 (wrap64 (x8 + 1))))) else (none)) else (none)) else (some (-1))
def slices_IndexFunc_impl_GoodBlock_1.f (k : Nat) (l0 : List ByteArray)  : Option (Int) := slices_IndexFunc_impl_GoodBlock_1.l0 k l0 (l0.length : Int) 0
theorem slices_IndexFunc_impl_GoodBlock_1.calls (k : Nat) (A0 : Option Addr) (c0 : Nat) (l0 : List ByteArray)  (r : Int) (w : World) (hr0 : Kd.C Kd.string w A0 l0.length l0) (hc0 : l0.length ≤ c0) (h : slices_IndexFunc_impl_GoodBlock_1.f k l0 = some r) :
  Calls Try.prog 75 #[.slice A0 l0.length c0, .func (.func 54) #[] #[]] w fun e w' => e = .returned (.int .i64 r) ∧ Drawn0 w w' := by
 have HR0 := zA hr0; have HC0 := zA hc0; clear hr0 hc0; have H : (slices_IndexFunc_impl_GoodBlock_1.l0 k l0 (l0.length : Int) 0) = some r := h; clear h; have H' := zA H; clear H; go_enter Try.func75, Try.ntmps75; go_wp2; go_loopg [8] k (fun kq v8 w' => ∃ (x8_1 : Int), v8 = .int .i64 x8_1 ∧ Aside0 (slices_IndexFunc_impl_GoodBlock_1.l0 kq l0 (l0.length : Int) x8_1 = some r) ∧ Aside0 (kq ≤ k) ∧ Drawn0 w w')
 case atStart => exact ⟨(0), (by first | rfl | (simp; done) | (simp [*]; done) | (simp [bne]; done)), H', ⟨Nat.le_refl _⟩, by repeat (first | exact Drawn0.refl _ | apply Drawn0.step)⟩
 case round =>
  clear H'
  try clear p2
  obtain ⟨x8_1, rfl, HA, HK1, ⟨m1, rfl⟩⟩ := hrel
  cases gk with
  | zero => exact absurd HA.out (by simp [slices_IndexFunc_impl_GoodBlock_1.l0])
  | succ k1 =>
   have H := HA.out; clear HA; simp only [slices_IndexFunc_impl_GoodBlock_1.l0] at H
   by_cases c3 : x8_1 < (l0.length : Int)
   ·rw [if_pos c3] at H
    have c3b0 : decide (x8_1 < (l0.length : Int)) = true := zX c3; clear c3
    by_cases c4 : 0 ≤ x8_1
    ·rw [if_pos c4] at H
     have c4b0 : decide (0 ≤ x8_1) = true := zX c4; clear c4
     by_cases c5 : x8_1 < (l0.length : Int)
     ·rw [if_pos c5] at H
      have c5b0 : decide (x8_1 < (l0.length : Int)) = true := zX c5; clear c5; replace H := zAF H; obtain ⟨t10, A60, H⟩ := H; replace H : (if t10 = true then (some x8_1) else (slices_IndexFunc_impl_GoodBlock_1.l0 k1 l0 (l0.length : Int) (wrap64 (x8_1 + 1)))) = some r := H; have A6 := zA A60; clear A60
      by_cases c7 : t10 = true
      ·subst c7
       have H1 : (some x8_1) = some r := by rw [if_pos rfl] at H; exact H
       clear H; have H := H1; clear H1; obtain rfl := yM H; have p11 : 0 ≤ (x8_1 : Int) := zW (by first | (with_reducible assumption) | assumption); have q11 : x8_1 < (l0.length : Int) := zW (by first | (with_reducible assumption) | assumption); obtain ⟨ad11, e11, hx11_0⟩ := Kd.at_string HR0.out x8_1 p11 q11
       cases e11
       replace p11 := eq_true p11; replace q11 := eq_true q11; go_wp2_with (first | (go_at_call 54; (with_reducible refine (impl_GoodBlock_1.calls (rdOf ByteArray.empty l0 x8_1) true _ A6.out).mono ?_); rintro e w' ⟨rfl, ⟨nd, rfl⟩⟩)); go_ret; exact ⟨by first | rfl | (simp; done) | (simp [*]; done) | (simp [bne]; done), by repeat (first | exact Drawn0.refl _ | apply Drawn0.step)⟩
      ·replace c7 := yO c7
       subst c7; have H1 : (slices_IndexFunc_impl_GoodBlock_1.l0 k1 l0 (l0.length : Int) (wrap64 (x8_1 + 1))) = some r := by rw [if_neg (show ¬ (false = true) by decide)] at H; exact H
       clear H; have H := H1; clear H1; have H' := zA H; clear H; have p11 : 0 ≤ (x8_1 : Int) := zW (by first | (with_reducible assumption) | assumption); have q11 : x8_1 < (l0.length : Int) := zW (by first | (with_reducible assumption) | assumption); obtain ⟨ad11, e11, hx11_0⟩ := Kd.at_string HR0.out x8_1 p11 q11
       cases e11
       replace p11 := eq_true p11; replace q11 := eq_true q11; go_wp2_with (first | (go_at_call 54; (with_reducible refine (impl_GoodBlock_1.calls (rdOf ByteArray.empty l0 x8_1) false _ A6.out).mono ?_); rintro e w' ⟨rfl, ⟨nd, rfl⟩⟩)); go_roundg k1
       case measure => have := HK1.out; omega
       case rel => exact ⟨(wrap64 (x8_1 + 1)), (by first | rfl | (simp; done) | (simp [*]; done) | (simp [bne]; done)), H', ⟨by have := HK1.out; omega⟩, by repeat (first | exact Drawn0.refl _ | apply Drawn0.step)⟩
     ·rw [if_neg c5] at H
      exact absurd H (by simp)
    ·rw [if_neg c4] at H
     exact absurd H (by simp)
   ·rw [if_neg c3] at H
    have c3b0 : decide (x8_1 < (l0.length : Int)) = false := decide_eq_false c3; clear c3; obtain rfl := yM H; go_wp2; go_ret; exact ⟨by first | rfl | (simp; done) | (simp [*]; done) | (simp [bne]; done), by repeat (first | exact Drawn0.refl _ | apply Drawn0.step)⟩
def slices_ContainsFunc_impl_GoodBlock_1.f (k : Nat) (l0 : List ByteArray)  : Option (Bool) := (slices_IndexFunc_impl_GoodBlock_1.f k l0).bind fun t10 => (some (decide (t10 ≥ 0)))
theorem slices_ContainsFunc_impl_GoodBlock_1.calls (k : Nat) (A0 : Option Addr) (c0 : Nat) (l0 : List ByteArray)  (r : Bool) (w : World) (hr0 : Kd.C Kd.string w A0 l0.length l0) (hc0 : l0.length ≤ c0) (h : slices_ContainsFunc_impl_GoodBlock_1.f k l0 = some r) :
  Calls Try.prog 53 #[.slice A0 l0.length c0, .func (.func 54) #[] #[]] w fun e w' => e = .returned (.bool r) ∧ Drawn0 w w' := by
 have HR0 := zA hr0; have HC0 := zA hc0; clear hr0 hc0; have H : ((slices_IndexFunc_impl_GoodBlock_1.f k l0).bind fun t10 => (some (decide (t10 ≥ 0)))) = some r := h; clear h; replace H := zAF H; obtain ⟨t10, A30, H⟩ := H; replace H : (some (decide (t10 ≥ 0))) = some r := H; have A3 := zA A30; clear A30; obtain rfl := yM H; go_enter Try.func53, Try.ntmps53; go_wp2_with (first | ((with_reducible refine yB (f := 75) rfl ?_); refine goesL_ (some 7) rfl rfl Try.func75 (by kernel_rfl) rfl #[.slice A0 l0.length c0, .func (.func 54) #[] #[]] rfl (by (try simp only [zAA, zAB, zAC]); first | done | rfl) ?_; (with_reducible refine (slices_IndexFunc_impl_GoodBlock_1.calls k _ _ l0  t10 _ ?side1 ?side2 A3.out).mono ?_); (case side1 => repeat (first | exact HR0.out | (with_reducible first | refine zT ?_ _ | refine zU ?_ _ | refine zV ?_))); (case side2 => exact HC0.out); rintro e w' ⟨rfl, ⟨nd, rfl⟩⟩; refine ⟨_, rfl, ?_⟩)); go_ret; exact ⟨by first | rfl | (simp; done) | (simp [*]; done) | (simp [bne]; done), by repeat (first | exact Drawn0.refl _ | apply Drawn0.step)⟩
def impl_GoodBlock.f (k : Nat) (a0_0 : ByteArray) (a0_1 : ByteArray) (l0_2 : List ByteArray) : Option (Bool) := (impl_isDigest.f a0_0).bind fun t10 => (if t10 = true then ((impl_isDigest.f a0_1).bind fun t11 => (if t11 = true then (if (l0_2.length : Int) ≤ 6 then ((slices_ContainsFunc_impl_GoodBlock_1.f k l0_2).bind fun t12 => (some (!t12))) else (some false)) else (some false))) else (some false))
theorem impl_GoodBlock.calls (k : Nat) (a0_0 : ByteArray) (a0_1 : ByteArray) (A0_2 : Option Addr) (c0_2 : Nat) (l0_2 : List ByteArray) (r : Bool) (w : World) (hr0_2 : Kd.C Kd.string w A0_2 l0_2.length l0_2) (hc0_2 : l0_2.length ≤ c0_2) (h : impl_GoodBlock.f k a0_0 a0_1 l0_2 = some r) :
  Calls Try.prog 33 #[.agg #[.string a0_0, .string a0_1, .slice A0_2 l0_2.length c0_2]] w fun e w' => e = .returned (.bool r) ∧ Below w.heap.size w w' := by
 have hu51 := Try.underlying51; have HR0_2 := zA hr0_2; have HC0_2 := zA hc0_2; clear hr0_2 hc0_2; have HB := zA (Below.refl w.heap.size w); have H : ((impl_isDigest.f a0_0).bind fun t16 => (if t16 = true then ((impl_isDigest.f a0_1).bind fun t17 => (if t17 = true then (if (l0_2.length : Int) ≤ 6 then ((slices_ContainsFunc_impl_GoodBlock_1.f k l0_2).bind fun t18 => (some (!t18))) else (some false)) else (some false))) else (some false))) = some r := h; clear h; replace H := zAF H; obtain ⟨t16, A20, H⟩ := H; replace H : (if t16 = true then ((impl_isDigest.f a0_1).bind fun t17 => (if t17 = true then (if (l0_2.length : Int) ≤ 6 then ((slices_ContainsFunc_impl_GoodBlock_1.f k l0_2).bind fun t18 => (some (!t18))) else (some false)) else (some false))) else (some false)) = some r := H; have A2 := zA A20; clear A20
 by_cases c3 : t16 = true
 ·subst c3
  have H1 : ((impl_isDigest.f a0_1).bind fun t17 => (if t17 = true then (if (l0_2.length : Int) ≤ 6 then ((slices_ContainsFunc_impl_GoodBlock_1.f k l0_2).bind fun t18 => (some (!t18))) else (some false)) else (some false))) = some r := by rw [if_pos rfl] at H; exact H
  clear H; have H := H1; clear H1; replace H := zAF H; obtain ⟨t17, A40, H⟩ := H; replace H : (if t17 = true then (if (l0_2.length : Int) ≤ 6 then ((slices_ContainsFunc_impl_GoodBlock_1.f k l0_2).bind fun t18 => (some (!t18))) else (some false)) else (some false)) = some r := H; have A4 := zA A40; clear A40
  by_cases c5 : t17 = true
  ·subst c5
   have H1 : (if (l0_2.length : Int) ≤ 6 then ((slices_ContainsFunc_impl_GoodBlock_1.f k l0_2).bind fun t18 => (some (!t18))) else (some false)) = some r := by rw [if_pos rfl] at H; exact H
   clear H; have H := H1; clear H1
   by_cases c6 : (l0_2.length : Int) ≤ 6
   ·rw [if_pos c6] at H
    have c6b0 : decide ((l0_2.length : Int) ≤ 6) = true := zX c6; have c6b1 : decide (l0_2.length ≤ 6) = true := zX (by omega); clear c6; replace H := zAF H; obtain ⟨t18, A70, H⟩ := H; replace H : (some (!t18)) = some r := H; have A7 := zA A70; clear A70; obtain rfl := yM H; go_enter Try.func33, Try.ntmps33; go_wp2_with (first | ((with_reducible refine gate_dst (N := 1) rfl ?_); (try (refine gate_guard (by rfl) ?_; dsimp only)); refine box_event ?hg (N := 1) ?hd (cs := #[.string a0_0, .string a0_1, .slice A0_2 l0_2.length c0_2]) (t := 51) ?hr ?_; (case hd => rfl); (case hg => rfl); (case hr => first | (go_simp; done) | (go_simp; rfl)); intro gb19 hg w8 hbox hb; have n0_ := zA (zAD (by (with_reducible repeat first | exact HB.out | apply zH | apply zF | apply zG) <;> exact HB.out) hb); have n1_ := zA (hbox); have n2_ := zA ((by rw [hg]; exact (zAE (by (with_reducible repeat first | exact HB.out | apply zH | apply zF | apply zG) <;> exact HB.out)) : w.heap.size ≤ gb19)); have n3_ := zA ((by rw [hg]; exact (zAE (by (with_reducible repeat first | exact HB.out | apply zH | apply zF | apply zG) <;> exact HB.out)) : w.heap.size ≤ gb19)); clear HB; have HB := n0_; have BK19 := n1_; have GW19 := n2_; have GE19 := n3_; clear n0_ n1_ n2_ n3_; clear hb hbox hg; have hcz9_0 := yL BK19.out 0 (.string a0_0) rfl; have hcz9_1 := yL BK19.out 1 (.string a0_1) rfl; have hcz9_2 := yL BK19.out 2 (.slice A0_2 l0_2.length c0_2) rfl; have hfz9_0 := zO BK19.out 0; have hfz9_1 := zO BK19.out 1; have hfz9_2 := zO BK19.out 2) | ((with_reducible refine yB (f := 52) rfl ?_); refine goesL_ (some 5) rfl rfl Try.func52 (by kernel_rfl) rfl #[.string a0_0] rfl (by (try simp only [zAA, zAB, zAC]); first | done | rfl) ?_; (with_reducible refine (impl_isDigest.calls a0_0 true _ A2.out).mono ?_); rintro e w' ⟨rfl, ⟨nd, rfl⟩⟩; refine ⟨_, rfl, ?_⟩) | (go_at_call 52; (with_reducible refine (impl_isDigest.calls a0_1 true _ A4.out).mono ?_); rintro e w' ⟨rfl, ⟨nd, rfl⟩⟩) | (go_at_call 53; (with_reducible refine (slices_ContainsFunc_impl_GoodBlock_1.calls k _ _ l0_2  t18 _ ?side1 ?side2 A7.out).mono ?_); (case side1 => repeat (first | exact (yN HR0_2.out (by repeat (first | (with_reducible first | exact HB.out | apply zH | apply zF | apply zG | refine zI ?_ GE19.out) | exact HB.out))) | (with_reducible first | refine zT ?_ _ | refine zU ?_ _ | refine zV ?_))); (case side2 => exact HC0_2.out); rintro e w' ⟨rfl, ⟨nd, rfl⟩⟩)); go_ret; exact ⟨by first | rfl | (simp <;> rfl) | (simp [*] <;> rfl), by repeat (first | (with_reducible first | exact HB.out | apply zH | apply zF | apply zG | refine zI ?_ GE19.out) | exact HB.out)⟩
   ·rw [if_neg c6] at H
    have c6b0 : decide ((l0_2.length : Int) ≤ 6) = false := decide_eq_false c6; have c6b1 : decide (l0_2.length ≤ 6) = false := decide_eq_false (by omega); clear c6; obtain rfl := yM H; go_enter Try.func33, Try.ntmps33; go_wp2_with (first | ((with_reducible refine gate_dst (N := 1) rfl ?_); (try (refine gate_guard (by rfl) ?_; dsimp only)); refine box_event ?hg (N := 1) ?hd (cs := #[.string a0_0, .string a0_1, .slice A0_2 l0_2.length c0_2]) (t := 51) ?hr ?_; (case hd => rfl); (case hg => rfl); (case hr => first | (go_simp; done) | (go_simp; rfl)); intro gb19 hg w10 hbox hb; have n0_ := zA (zAD (by (with_reducible repeat first | exact HB.out | apply zH | apply zF | apply zG) <;> exact HB.out) hb); have n1_ := zA (hbox); have n2_ := zA ((by rw [hg]; exact (zAE (by (with_reducible repeat first | exact HB.out | apply zH | apply zF | apply zG) <;> exact HB.out)) : w.heap.size ≤ gb19)); have n3_ := zA ((by rw [hg]; exact (zAE (by (with_reducible repeat first | exact HB.out | apply zH | apply zF | apply zG) <;> exact HB.out)) : w.heap.size ≤ gb19)); clear HB; have HB := n0_; have BK19 := n1_; have GW19 := n2_; have GE19 := n3_; clear n0_ n1_ n2_ n3_; clear hb hbox hg; have hcz11_0 := yL BK19.out 0 (.string a0_0) rfl; have hcz11_1 := yL BK19.out 1 (.string a0_1) rfl; have hcz11_2 := yL BK19.out 2 (.slice A0_2 l0_2.length c0_2) rfl; have hfz11_0 := zO BK19.out 0; have hfz11_1 := zO BK19.out 1; have hfz11_2 := zO BK19.out 2) | ((with_reducible refine yB (f := 52) rfl ?_); refine goesL_ (some 5) rfl rfl Try.func52 (by kernel_rfl) rfl #[.string a0_0] rfl (by (try simp only [zAA, zAB, zAC]); first | done | rfl) ?_; (with_reducible refine (impl_isDigest.calls a0_0 true _ A2.out).mono ?_); rintro e w' ⟨rfl, ⟨nd, rfl⟩⟩; refine ⟨_, rfl, ?_⟩) | (go_at_call 52; (with_reducible refine (impl_isDigest.calls a0_1 true _ A4.out).mono ?_); rintro e w' ⟨rfl, ⟨nd, rfl⟩⟩)); go_ret; exact ⟨by first | rfl | (simp <;> rfl) | (simp [*] <;> rfl), by repeat (first | (with_reducible first | exact HB.out | apply zH | apply zF | apply zG | refine zI ?_ GE19.out) | exact HB.out)⟩
  ·replace c5 := yO c5
   subst c5; have H1 : (some false) = some r := by rw [if_neg (show ¬ (false = true) by decide)] at H; exact H
   clear H; have H := H1; clear H1; obtain rfl := yM H; go_enter Try.func33, Try.ntmps33; go_wp2_with (first | ((with_reducible refine gate_dst (N := 1) rfl ?_); (try (refine gate_guard (by rfl) ?_; dsimp only)); refine box_event ?hg (N := 1) ?hd (cs := #[.string a0_0, .string a0_1, .slice A0_2 l0_2.length c0_2]) (t := 51) ?hr ?_; (case hd => rfl); (case hg => rfl); (case hr => first | (go_simp; done) | (go_simp; rfl)); intro gb19 hg w12 hbox hb; have n0_ := zA (zAD (by (with_reducible repeat first | exact HB.out | apply zH | apply zF | apply zG) <;> exact HB.out) hb); have n1_ := zA (hbox); have n2_ := zA ((by rw [hg]; exact (zAE (by (with_reducible repeat first | exact HB.out | apply zH | apply zF | apply zG) <;> exact HB.out)) : w.heap.size ≤ gb19)); have n3_ := zA ((by rw [hg]; exact (zAE (by (with_reducible repeat first | exact HB.out | apply zH | apply zF | apply zG) <;> exact HB.out)) : w.heap.size ≤ gb19)); clear HB; have HB := n0_; have BK19 := n1_; have GW19 := n2_; have GE19 := n3_; clear n0_ n1_ n2_ n3_; clear hb hbox hg; have hcz13_0 := yL BK19.out 0 (.string a0_0) rfl; have hcz13_1 := yL BK19.out 1 (.string a0_1) rfl; have hcz13_2 := yL BK19.out 2 (.slice A0_2 l0_2.length c0_2) rfl; have hfz13_0 := zO BK19.out 0; have hfz13_1 := zO BK19.out 1; have hfz13_2 := zO BK19.out 2) | ((with_reducible refine yB (f := 52) rfl ?_); refine goesL_ (some 5) rfl rfl Try.func52 (by kernel_rfl) rfl #[.string a0_0] rfl (by (try simp only [zAA, zAB, zAC]); first | done | rfl) ?_; (with_reducible refine (impl_isDigest.calls a0_0 true _ A2.out).mono ?_); rintro e w' ⟨rfl, ⟨nd, rfl⟩⟩; refine ⟨_, rfl, ?_⟩) | (go_at_call 52; (with_reducible refine (impl_isDigest.calls a0_1 false _ A4.out).mono ?_); rintro e w' ⟨rfl, ⟨nd, rfl⟩⟩)); go_ret; exact ⟨by first | rfl | (simp <;> rfl) | (simp [*] <;> rfl), by repeat (first | (with_reducible first | exact HB.out | apply zH | apply zF | apply zG | refine zI ?_ GE19.out) | exact HB.out)⟩
 ·replace c3 := yO c3
  subst c3; have H1 : (some false) = some r := by rw [if_neg (show ¬ (false = true) by decide)] at H; exact H
  clear H; have H := H1; clear H1; obtain rfl := yM H; go_enter Try.func33, Try.ntmps33; go_wp2_with (first | ((with_reducible refine gate_dst (N := 1) rfl ?_); (try (refine gate_guard (by rfl) ?_; dsimp only)); refine box_event ?hg (N := 1) ?hd (cs := #[.string a0_0, .string a0_1, .slice A0_2 l0_2.length c0_2]) (t := 51) ?hr ?_; (case hd => rfl); (case hg => rfl); (case hr => first | (go_simp; done) | (go_simp; rfl)); intro gb19 hg w14 hbox hb; have n0_ := zA (zAD (by (with_reducible repeat first | exact HB.out | apply zH | apply zF | apply zG) <;> exact HB.out) hb); have n1_ := zA (hbox); have n2_ := zA ((by rw [hg]; exact (zAE (by (with_reducible repeat first | exact HB.out | apply zH | apply zF | apply zG) <;> exact HB.out)) : w.heap.size ≤ gb19)); have n3_ := zA ((by rw [hg]; exact (zAE (by (with_reducible repeat first | exact HB.out | apply zH | apply zF | apply zG) <;> exact HB.out)) : w.heap.size ≤ gb19)); clear HB; have HB := n0_; have BK19 := n1_; have GW19 := n2_; have GE19 := n3_; clear n0_ n1_ n2_ n3_; clear hb hbox hg; have hcz15_0 := yL BK19.out 0 (.string a0_0) rfl; have hcz15_1 := yL BK19.out 1 (.string a0_1) rfl; have hcz15_2 := yL BK19.out 2 (.slice A0_2 l0_2.length c0_2) rfl; have hfz15_0 := zO BK19.out 0; have hfz15_1 := zO BK19.out 1; have hfz15_2 := zO BK19.out 2) | ((with_reducible refine yB (f := 52) rfl ?_); refine goesL_ (some 5) rfl rfl Try.func52 (by kernel_rfl) rfl #[.string a0_0] rfl (by (try simp only [zAA, zAB, zAC]); first | done | rfl) ?_; (with_reducible refine (impl_isDigest.calls a0_0 false _ A2.out).mono ?_); rintro e w' ⟨rfl, ⟨nd, rfl⟩⟩; refine ⟨_, rfl, ?_⟩)); go_ret; exact ⟨by first | rfl | (simp <;> rfl) | (simp [*] <;> rfl), by repeat (first | (with_reducible first | exact HB.out | apply zH | apply zF | apply zG | refine zI ?_ GE19.out) | exact HB.out)⟩
def impl_areBlocks_1.f (k : Nat) (a0_0 : ByteArray) (a0_1 : ByteArray) (l0_2 : List ByteArray) : Option (Bool) := (impl_GoodBlock.f k a0_0 a0_1 l0_2).bind fun t10 => (some (!t10))
theorem impl_areBlocks_1.calls (k : Nat) (a0_0 : ByteArray) (a0_1 : ByteArray) (A0_2 : Option Addr) (c0_2 : Nat) (l0_2 : List ByteArray) (r : Bool) (w : World) (hr0_2 : Kd.C Kd.string w A0_2 l0_2.length l0_2) (hc0_2 : l0_2.length ≤ c0_2) (h : impl_areBlocks_1.f k a0_0 a0_1 l0_2 = some r) :
  Calls Try.prog 73 #[.agg #[.string a0_0, .string a0_1, .slice A0_2 l0_2.length c0_2]] w fun e w' => e = .returned (.bool r) ∧ Below w.heap.size w w' := by
 have hu51 := Try.underlying51; have HR0_2 := zA hr0_2; have HC0_2 := zA hc0_2; clear hr0_2 hc0_2; have HB := zA (Below.refl w.heap.size w); have H : ((impl_GoodBlock.f k a0_0 a0_1 l0_2).bind fun t10 => (some (!t10))) = some r := h; clear h; replace H := zAF H; obtain ⟨t10, A20, H⟩ := H; replace H : (some (!t10)) = some r := H; have A2 := zA A20; clear A20; obtain rfl := yM H; go_enter Try.func73, Try.ntmps73; go_wp2_with (first | ((with_reducible refine gate_dst (N := 1) rfl ?_); refine box_event ?hg (N := 1) ?hd (cs := #[.string a0_0, .string a0_1, .slice A0_2 l0_2.length c0_2]) (t := 51) ?hr ?_; (case hd => rfl); (case hg => rfl); (case hr => first | (go_simp; done) | (go_simp; rfl)); intro gb11 hg w3 hbox hb; have n0_ := zA (zAD (by (with_reducible repeat first | exact HB.out | apply zH | apply zF | apply zG) <;> exact HB.out) hb); have n1_ := zA (hbox); have n2_ := zA ((by rw [hg]; exact (zAE (by (with_reducible repeat first | exact HB.out | apply zH | apply zF | apply zG) <;> exact HB.out)) : w.heap.size ≤ gb11)); have n3_ := zA ((by rw [hg]; exact (zAE (by (with_reducible repeat first | exact HB.out | apply zH | apply zF | apply zG) <;> exact HB.out)) : w.heap.size ≤ gb11)); clear HB; have HB := n0_; have BK11 := n1_; have GW11 := n2_; have GE11 := n3_; clear n0_ n1_ n2_ n3_; clear hb hbox hg; have hcz4_0 := yL BK11.out 0 (.string a0_0) rfl; have hcz4_1 := yL BK11.out 1 (.string a0_1) rfl; have hcz4_2 := yL BK11.out 2 (.slice A0_2 l0_2.length c0_2) rfl; have hfz4_0 := zO BK11.out 0; have hfz4_1 := zO BK11.out 1; have hfz4_2 := zO BK11.out 2) | ((with_reducible refine yB (f := 33) rfl ?_); refine goesL_ (some 4) rfl rfl Try.func33 (by kernel_rfl) rfl #[.agg #[.string a0_0, .string a0_1, .slice A0_2 l0_2.length c0_2]] rfl (by (try simp only [zAA, zAB, zAC]); first | done | rfl | (simp only [zZ, zY]; rfl)) ?_; (with_reducible refine (impl_GoodBlock.calls k a0_0 a0_1 _ _ l0_2 t10 _ ?side1 ?side2 A2.out).mono ?_); (case side1 => repeat (first | exact (yN HR0_2.out HB.out) | (with_reducible first | refine zT ?_ _ | refine zU ?_ _ | refine zV ?_))); (case side2 => exact HC0_2.out); rintro e w5 ⟨rfl, hb⟩; refine ⟨_, rfl, ?_⟩; have n0_ := zA (yE (g := gb11) (o := .cells #[.string a0_0, .string a0_1, .slice A0_2 l0_2.length c0_2] 51 (0, 0)) (by (with_reducible repeat (first | refine zL ?_ _ | refine zN ?_ | refine zM ?_ _)); exact BK11.out) hb); have n1_ := zA (zAD (by repeat (first | (with_reducible first | exact HB.out | apply zH | apply zF | apply zG | refine zI ?_ GE11.out) | exact HB.out)) hb); clear BK11; clear HB; have BK11 := n0_; have HB := n1_; clear n0_ n1_; (try clear hb))); go_ret; exact ⟨by first | rfl | (simp <;> rfl) | (simp [*] <;> rfl), by repeat (first | (with_reducible first | exact HB.out | apply zH | apply zF | apply zG | refine zI ?_ GE11.out) | exact HB.out)⟩
def slices_IndexFunc_impl_areBlocks_1.l0 : Nat → List (S51) → Int → Int → Option (Int)
 | 0, _, _, _ => none
 | k + 1, x0, x7, x8 => if x8 < x7 then (if 0 ≤ x8 then (if x8 < (x0.length : Int) then ((impl_areBlocks_1.f k ((rd_T51 x0 x8).f0) ((rd_T51 x0 x8).f1) ((rd_T51 x0 x8).f2)).bind fun t10 => (if t10 = true then (some x8) else (slices_IndexFunc_impl_areBlocks_1.l0 k x0 x7 (wrap64 (x8 + 1))))) else (none)) else (none)) else (some (-1))
def slices_IndexFunc_impl_areBlocks_1.f (k : Nat) (l0 : List (S51))  : Option (Int) := slices_IndexFunc_impl_areBlocks_1.l0 k l0 (l0.length : Int) 0
theorem slices_IndexFunc_impl_areBlocks_1.calls (k : Nat) (A0 : Option Addr) (c0 : Nat) (l0 : List (S51))  (r : Int) (w : World) (hr0 : Kd.C k51 w A0 l0.length l0) (hc0 : l0.length ≤ c0) (h : slices_IndexFunc_impl_areBlocks_1.f k l0 = some r) :
  Calls Try.prog 90 #[.slice A0 l0.length c0, .func (.func 73) #[] #[]] w fun e w' => e = .returned (.int .i64 r) ∧ Below w.heap.size w w' := by
 have hu51 := Try.underlying51; have HR0 := zA hr0; have HC0 := zA hc0; clear hr0 hc0; have HB := zA (Below.refl w.heap.size w); have H : (slices_IndexFunc_impl_areBlocks_1.l0 k l0 (l0.length : Int) 0) = some r := h; clear h; have H' := zA H; clear H; go_enter Try.func90, Try.ntmps90; go_wp2; go_loopg [8] k (fun kq v8 w' => ∃ (x8_1 : Int), v8 = .int .i64 x8_1 ∧ Aside0 (slices_IndexFunc_impl_areBlocks_1.l0 kq l0 (l0.length : Int) x8_1 = some r) ∧ Aside0 (kq ≤ k) ∧ Aside0 (Below w.heap.size w w'))
 case atStart => exact ⟨(0), (by first | rfl | (simp; done) | (simp [*]; done) | (simp [bne]; done)), H', ⟨Nat.le_refl _⟩, ⟨by (with_reducible repeat first | exact HB.out | apply zH | apply zF | apply zG) <;> exact HB.out⟩⟩
 case round =>
  clear H'
  try clear p2
  obtain ⟨x8_1, rfl, HA, HK1, HB⟩ := hrel
  cases gk with
  | zero => exact absurd HA.out (by simp [slices_IndexFunc_impl_areBlocks_1.l0])
  | succ k1 =>
   have H := HA.out; clear HA; simp only [slices_IndexFunc_impl_areBlocks_1.l0] at H
   by_cases c3 : x8_1 < (l0.length : Int)
   ·rw [if_pos c3] at H
    have c3b0 : decide (x8_1 < (l0.length : Int)) = true := zX c3; clear c3
    by_cases c4 : 0 ≤ x8_1
    ·rw [if_pos c4] at H
     have c4b0 : decide (0 ≤ x8_1) = true := zX c4; clear c4
     by_cases c5 : x8_1 < (l0.length : Int)
     ·rw [if_pos c5] at H
      have c5b0 : decide (x8_1 < (l0.length : Int)) = true := zX c5; clear c5; replace H := zAF H; obtain ⟨t10, A60, H⟩ := H; replace H : (if t10 = true then (some x8_1) else (slices_IndexFunc_impl_areBlocks_1.l0 k1 l0 (l0.length : Int) (wrap64 (x8_1 + 1)))) = some r := H; have A6 := zA A60; clear A60
      by_cases c7 : t10 = true
      ·subst c7
       have H1 : (some x8_1) = some r := by rw [if_pos rfl] at H; exact H
       clear H; have H := H1; clear H1; obtain rfl := yM H; have p11 : 0 ≤ (x8_1 : Int) := zW (by first | (with_reducible assumption) | assumption); have q11 : x8_1 < (l0.length : Int) := zW (by first | (with_reducible assumption) | assumption); obtain ⟨ad11, A11_2, c11_2, e11, hx11_0, hx11_1, hx11_2, hl11_2, hi11_2⟩ := at_T51 HR0.out x8_1 p11 q11
       cases e11
       replace hx11_0 := (HB.out.cell (zB w _ hx11_0)).trans hx11_0; replace hx11_1 := (HB.out.cell (zB w _ hx11_1)).trans hx11_1; replace hx11_2 := (HB.out.cell (zB w _ hx11_2)).trans hx11_2; have HR11_2 := zA hi11_2; have HC11_2 := zA hl11_2; clear hi11_2 hl11_2; replace p11 := eq_true p11; replace q11 := eq_true q11; go_wp2_with (first | (go_at_call 73; (with_reducible refine (impl_areBlocks_1.calls k1 ((rd_T51 l0 x8_1).f0) ((rd_T51 l0 x8_1).f1) _ _ ((rd_T51 l0 x8_1).f2) true _ ?side1 ?side2 A6.out).mono ?_); (case side1 => repeat (first | exact (yN HR11_2.out HB.out) | (with_reducible first | refine zT ?_ _ | refine zU ?_ _ | refine zV ?_))); (case side2 => exact HC11_2.out); rintro e w8 ⟨rfl, hb⟩; have n0_ := zA (zAD (by (with_reducible repeat first | exact HB.out | apply zH | apply zF | apply zG) <;> exact HB.out) hb); clear HB; have HB := n0_; clear n0_; (try clear hb))); go_ret; exact ⟨by first | rfl | (simp <;> rfl) | (simp [*] <;> rfl), by (with_reducible repeat first | exact HB.out | apply zH | apply zF | apply zG) <;> exact HB.out⟩
      ·replace c7 := yO c7
       subst c7; have H1 : (slices_IndexFunc_impl_areBlocks_1.l0 k1 l0 (l0.length : Int) (wrap64 (x8_1 + 1))) = some r := by rw [if_neg (show ¬ (false = true) by decide)] at H; exact H
       clear H; have H := H1; clear H1; have H' := zA H; clear H; have p11 : 0 ≤ (x8_1 : Int) := zW (by first | (with_reducible assumption) | assumption); have q11 : x8_1 < (l0.length : Int) := zW (by first | (with_reducible assumption) | assumption); obtain ⟨ad11, A11_2, c11_2, e11, hx11_0, hx11_1, hx11_2, hl11_2, hi11_2⟩ := at_T51 HR0.out x8_1 p11 q11
       cases e11
       replace hx11_0 := (HB.out.cell (zB w _ hx11_0)).trans hx11_0; replace hx11_1 := (HB.out.cell (zB w _ hx11_1)).trans hx11_1; replace hx11_2 := (HB.out.cell (zB w _ hx11_2)).trans hx11_2; have HR11_2 := zA hi11_2; have HC11_2 := zA hl11_2; clear hi11_2 hl11_2; replace p11 := eq_true p11; replace q11 := eq_true q11; go_wp2_with (first | (go_at_call 73; (with_reducible refine (impl_areBlocks_1.calls k1 ((rd_T51 l0 x8_1).f0) ((rd_T51 l0 x8_1).f1) _ _ ((rd_T51 l0 x8_1).f2) false _ ?side1 ?side2 A6.out).mono ?_); (case side1 => repeat (first | exact (yN HR11_2.out HB.out) | (with_reducible first | refine zT ?_ _ | refine zU ?_ _ | refine zV ?_))); (case side2 => exact HC11_2.out); rintro e w9 ⟨rfl, hb⟩; have n0_ := zA (zAD (by (with_reducible repeat first | exact HB.out | apply zH | apply zF | apply zG) <;> exact HB.out) hb); clear HB; have HB := n0_; clear n0_; (try clear hb))); go_roundg k1
       case measure => have := HK1.out; omega
       case rel => exact ⟨(wrap64 (x8_1 + 1)), (by first | rfl | (simp; done) | (simp [*]; done) | (simp [bne]; done)), H', ⟨by have := HK1.out; omega⟩, ⟨by (with_reducible repeat first | exact HB.out | apply zH | apply zF | apply zG) <;> exact HB.out⟩⟩
     ·rw [if_neg c5] at H
      exact absurd H (by simp)
    ·rw [if_neg c4] at H
     exact absurd H (by simp)
   ·rw [if_neg c3] at H
    have c3b0 : decide (x8_1 < (l0.length : Int)) = false := decide_eq_false c3; clear c3; obtain rfl := yM H; go_wp2; go_ret; exact ⟨by first | rfl | (simp <;> rfl) | (simp [*] <;> rfl), by (with_reducible repeat first | exact HB.out | apply zH | apply zF | apply zG) <;> exact HB.out⟩
def slices_ContainsFunc_impl_areBlocks_1.f (k : Nat) (l0 : List (S51))  : Option (Bool) := (slices_IndexFunc_impl_areBlocks_1.f k l0).bind fun t10 => (some (decide (t10 ≥ 0)))
theorem slices_ContainsFunc_impl_areBlocks_1.calls (k : Nat) (A0 : Option Addr) (c0 : Nat) (l0 : List (S51))  (r : Bool) (w : World) (hr0 : Kd.C k51 w A0 l0.length l0) (hc0 : l0.length ≤ c0) (h : slices_ContainsFunc_impl_areBlocks_1.f k l0 = some r) :
  Calls Try.prog 72 #[.slice A0 l0.length c0, .func (.func 73) #[] #[]] w fun e w' => e = .returned (.bool r) ∧ Below w.heap.size w w' := by
 have HR0 := zA hr0; have HC0 := zA hc0; clear hr0 hc0; have HB := zA (Below.refl w.heap.size w); have H : ((slices_IndexFunc_impl_areBlocks_1.f k l0).bind fun t10 => (some (decide (t10 ≥ 0)))) = some r := h; clear h; replace H := zAF H; obtain ⟨t10, A30, H⟩ := H; replace H : (some (decide (t10 ≥ 0))) = some r := H; have A3 := zA A30; clear A30; obtain rfl := yM H; go_enter Try.func72, Try.ntmps72; go_wp2_with (first | ((with_reducible refine yB (f := 90) rfl ?_); refine goesL_ (some 7) rfl rfl Try.func90 (by kernel_rfl) rfl #[.slice A0 l0.length c0, .func (.func 73) #[] #[]] rfl (by (try simp only [zAA, zAB, zAC]); first | done | rfl) ?_; (with_reducible refine (slices_IndexFunc_impl_areBlocks_1.calls k _ _ l0  t10 _ ?side1 ?side2 A3.out).mono ?_); (case side1 => repeat (first | exact HR0.out | (with_reducible first | refine zT ?_ _ | refine zU ?_ _ | refine zV ?_))); (case side2 => exact HC0.out); rintro e w4 ⟨rfl, hb⟩; refine ⟨_, rfl, ?_⟩; have n0_ := zA (zAD (by (with_reducible repeat first | exact HB.out | apply zH | apply zF | apply zG) <;> exact HB.out) hb); clear HB; have HB := n0_; clear n0_; (try clear hb))); go_ret; exact ⟨by first | rfl | (simp <;> rfl) | (simp [*] <;> rfl), by (with_reducible repeat first | exact HB.out | apply zH | apply zF | apply zG) <;> exact HB.out⟩
def impl_areBlocks.f (k : Nat) (l0 : List (S51)) : Option (Bool) := if (l0.length : Int) ≤ 12 then ((slices_ContainsFunc_impl_areBlocks_1.f k l0).bind fun t10 => (some (!t10))) else (some false)
theorem impl_areBlocks.calls (k : Nat) (A0 : Option Addr) (c0 : Nat) (l0 : List (S51)) (r : Bool) (w : World) (hr0 : Kd.C k51 w A0 l0.length l0) (hc0 : l0.length ≤ c0) (h : impl_areBlocks.f k l0 = some r) :
  Calls Try.prog 50 #[.slice A0 l0.length c0] w fun e w' => e = .returned (.bool r) ∧ Below w.heap.size w w' := by
 have HR0 := zA hr0; have HC0 := zA hc0; clear hr0 hc0; have HB := zA (Below.refl w.heap.size w); have H : (if (l0.length : Int) ≤ 12 then ((slices_ContainsFunc_impl_areBlocks_1.f k l0).bind fun t10 => (some (!t10))) else (some false)) = some r := h; clear h
 by_cases c2 : (l0.length : Int) ≤ 12
 ·rw [if_pos c2] at H
  have c2b0 : decide ((l0.length : Int) ≤ 12) = true := zX c2; have c2b1 : decide (l0.length ≤ 12) = true := zX (by omega); clear c2; replace H := zAF H; obtain ⟨t10, A30, H⟩ := H; replace H : (some (!t10)) = some r := H; have A3 := zA A30; clear A30; obtain rfl := yM H; go_enter Try.func50, Try.ntmps50; go_wp2_with (first | (go_at_call 72; (with_reducible refine (slices_ContainsFunc_impl_areBlocks_1.calls k _ _ l0  t10 _ ?side1 ?side2 A3.out).mono ?_); (case side1 => repeat (first | exact HR0.out | (with_reducible first | refine zT ?_ _ | refine zU ?_ _ | refine zV ?_))); (case side2 => exact HC0.out); rintro e w4 ⟨rfl, hb⟩; have n0_ := zA (zAD (by (with_reducible repeat first | exact HB.out | apply zH | apply zF | apply zG) <;> exact HB.out) hb); clear HB; have HB := n0_; clear n0_; (try clear hb))); go_ret; exact ⟨by first | rfl | (simp <;> rfl) | (simp [*] <;> rfl), by (with_reducible repeat first | exact HB.out | apply zH | apply zF | apply zG) <;> exact HB.out⟩
 ·rw [if_neg c2] at H
  have c2b0 : decide ((l0.length : Int) ≤ 12) = false := decide_eq_false c2; have c2b1 : decide (l0.length ≤ 12) = false := decide_eq_false (by omega); clear c2; obtain rfl := yM H; go_enter Try.func50, Try.ntmps50; go_wp2; go_ret; exact ⟨by first | rfl | (simp <;> rfl) | (simp [*] <;> rfl), by (with_reducible repeat first | exact HB.out | apply zH | apply zF | apply zG) <;> exact HB.out⟩
def impl_GoodChain.l0 : Nat → List (S51) → List (S51) → Int → Int → Option (Bool)
 | 0, _, _, _, _ => none
 | k + 1, x0, x8, x9, x10 => if x10 < x9 then (if 0 ≤ x10 then (if x10 < (x8.length : Int) then (if x10 ≤ (x0.length : Int) then ((impl_lastDigest.f k (x0.take (x10 : Int).toNat)).bind fun t11 => (if ((rd_T51 x8 x10).f0).toList = t11.toList then (impl_GoodChain.l0 k x0 x8 x9 (wrap64 (x10 + 1))) else (some false))) else (none)) else (none)) else (none)) else (some true)
def impl_GoodChain.f (k : Nat) (l0 : List (S51)) : Option (Bool) := (impl_areBlocks.f k l0).bind fun t10 => (if t10 = true then (impl_GoodChain.l0 k l0 l0 (l0.length : Int) 0) else (some false))
theorem impl_GoodChain.calls (k : Nat) (A0 : Option Addr) (c0 : Nat) (l0 : List (S51)) (r : Bool) (w : World) (hr0 : Kd.C k51 w A0 l0.length l0) (hc0 : l0.length ≤ c0) (h : impl_GoodChain.f k l0 = some r) :
  Calls Try.prog 31 #[.slice A0 l0.length c0] w fun e w' => e = .returned (.bool r) ∧ Below w.heap.size w w' := by
 have hu51 := Try.underlying51; have HR0 := zA hr0; have HC0 := zA hc0; clear hr0 hc0; have HB := zA (Below.refl w.heap.size w); have H : ((impl_areBlocks.f k l0).bind fun t25 => (if t25 = true then (impl_GoodChain.l0 k l0 l0 (l0.length : Int) 0) else (some false))) = some r := h; clear h; replace H := zAF H; obtain ⟨t25, A20, H⟩ := H; replace H : (if t25 = true then (impl_GoodChain.l0 k l0 l0 (l0.length : Int) 0) else (some false)) = some r := H; have A2 := zA A20; clear A20
 by_cases c3 : t25 = true
 ·subst c3
  have H1 : (impl_GoodChain.l0 k l0 l0 (l0.length : Int) 0) = some r := by rw [if_pos rfl] at H; exact H
  clear H; have H := H1; clear H1; have H' := zA H; clear H; go_enter Try.func31, Try.ntmps31; go_wp2_with (first | ((with_reducible refine yB (f := 50) rfl ?_); refine goesL_ (some 6) rfl rfl Try.func50 (by kernel_rfl) rfl #[.slice A0 l0.length c0] rfl (by (try simp only [zAA, zAB, zAC]); first | done | rfl | (simp only [zZ, zY]; rfl)) ?_; (with_reducible refine (impl_areBlocks.calls k _ _ l0 true _ ?side1 ?side2 A2.out).mono ?_); (case side1 => repeat (first | exact HR0.out | (with_reducible first | refine zT ?_ _ | refine zU ?_ _ | refine zV ?_))); (case side2 => exact HC0.out); rintro e w4 ⟨rfl, hb⟩; refine ⟨_, rfl, ?_⟩; have n0_ := zA (zAD (by (with_reducible repeat first | exact HB.out | apply zH | apply zF | apply zG) <;> exact HB.out) hb); clear HB; have HB := n0_; clear n0_; (try clear hb))); go_loopg [10] k (fun kq v10 w' => ∃ (x10_1 : Int), v10 = .int .i64 x10_1 ∧ Aside0 (impl_GoodChain.l0 kq l0 l0 (l0.length : Int) x10_1 = some r) ∧ Aside0 (kq ≤ k) ∧ Aside0 (Below w.heap.size w w'))
  case atStart => exact ⟨(0), (by first | rfl | (simp; done) | (simp [*]; done) | (simp [bne]; done)), H', ⟨Nat.le_refl _⟩, ⟨by (with_reducible repeat first | exact HB.out | apply zH | apply zF | apply zG) <;> exact HB.out⟩⟩
  case round =>
   clear H'
   try clear p2
   try clear c3
   obtain ⟨x10_1, rfl, HA, HK1, HB⟩ := hrel
   cases gk with
   | zero => exact absurd HA.out (by simp [impl_GoodChain.l0])
   | succ k1 =>
    have H := HA.out; clear HA; simp only [impl_GoodChain.l0] at H
    by_cases c5 : x10_1 < (l0.length : Int)
    ·rw [if_pos c5] at H
     have c5b0 : decide (x10_1 < (l0.length : Int)) = true := zX c5; clear c5
     by_cases c6 : 0 ≤ x10_1
     ·rw [if_pos c6] at H
      have c6b0 : decide (0 ≤ x10_1) = true := zX c6; clear c6
      by_cases c7 : x10_1 < (l0.length : Int)
      ·rw [if_pos c7] at H
       have c7b0 : decide (x10_1 < (l0.length : Int)) = true := zX c7; clear c7; have c8b0 := eq_true (zW (by first | (with_reducible assumption) | assumption) : 0 ≤ x10_1)
       by_cases c9 : x10_1 ≤ (l0.length : Int)
       ·rw [if_pos c9] at H
        have c9b0 := eq_true c9; have c9b1 : decide (x10_1 ≤ (l0.length : Int)) = true := zX c9; clear c9; obtain ⟨y26, hy26⟩ : ∃ y_ : List (S51), y_ = (l0.take (x10_1 : Int).toNat) := ⟨_, rfl⟩; replace H : ((impl_lastDigest.f k1 y26).bind fun t27 => (if ((rd_T51 l0 x10_1).f0).toList = t27.toList then (impl_GoodChain.l0 k1 l0 l0 (l0.length : Int) (wrap64 (x10_1 + 1))) else (some false))) = some r := by first | (rw [hy26]; with_reducible exact H) | (have H2_ := (Option.bind_some _ _).symm.trans H; rw [hy26]; with_reducible exact H2_) | (have H2_ := (Option.bind_some _ _).symm.trans H; with_reducible exact H2_) | with_reducible exact H | (rw [hy26]; exact H) | exact H
        have Ny26 := zA hy26; clear hy26; replace H := zAF H; obtain ⟨t27, A28, H⟩ := H; replace H : (if ((rd_T51 l0 x10_1).f0).toList = t27.toList then (impl_GoodChain.l0 k1 l0 l0 (l0.length : Int) (wrap64 (x10_1 + 1))) else (some false)) = some r := H; have A10 := zA A28; clear A28
        by_cases c11 : ((rd_T51 l0 x10_1).f0).toList = t27.toList
        ·rw [if_pos c11] at H
         have c11b0 : (((rd_T51 l0 x10_1).f0).toList == t27.toList) = true := beq_iff_eq.mpr c11; have c11b1 : (((rd_T51 l0 x10_1).f0).toList != t27.toList) = false := bne_eq_false_iff_eq.mpr c11; clear c11; have H' := zA H; clear H; have p29 : 0 ≤ (x10_1 : Int) := zW (by first | (with_reducible assumption) | assumption); have q29 : x10_1 < (l0.length : Int) := zW (by first | (with_reducible assumption) | assumption); obtain ⟨ad29, A29_2, c29_2, e29, hx29_0, hx29_1, hx29_2, hl29_2, hi29_2⟩ := at_T51 HR0.out x10_1 p29 q29
         cases e29
         replace hx29_0 := (HB.out.cell (zB w _ hx29_0)).trans hx29_0; replace hx29_1 := (HB.out.cell (zB w _ hx29_1)).trans hx29_1; replace hx29_2 := (HB.out.cell (zB w _ hx29_2)).trans hx29_2; have HR29_2 := zA hi29_2; have HC29_2 := zA hl29_2; clear hi29_2 hl29_2; replace p29 := eq_true p29; replace q29 := eq_true q29
         try go_wp2_with (first | ((with_reducible refine gate_dst (N := 4) rfl ?_); refine box_event ?hg (N := 4) ?hd (cs := #[.string (⟨#[]⟩ : ByteArray), .string (⟨#[]⟩ : ByteArray), .slice none 0 0]) (t := 51) ?hr ?_; (case hd => rfl); (case hg => rfl); (case hr => first | (go_simp; done) | (go_simp; rfl)); intro gb30 hg w12 hbox hb; have n0_ := zA (zAD (by (with_reducible repeat first | exact HB.out | apply zH | apply zF | apply zG) <;> exact HB.out) hb); have n1_ := zA (hbox); have n2_ := zA ((by rw [hg]; exact (zAE (by (with_reducible repeat first | exact HB.out | apply zH | apply zF | apply zG) <;> exact HB.out)) : w.heap.size ≤ gb30)); have n3_ := zA ((by rw [hg]; exact (zAE (by (with_reducible repeat first | exact HB.out | apply zH | apply zF | apply zG) <;> exact HB.out)) : w.heap.size ≤ gb30)); clear HB; have HB := n0_; have BK30 := n1_; have GW30 := n2_; have GE30 := n3_; clear n0_ n1_ n2_ n3_; clear hb hbox hg; have hcz13_0 := yL BK30.out 0 (.string (⟨#[]⟩ : ByteArray)) rfl; have hcz13_1 := yL BK30.out 1 (.string (⟨#[]⟩ : ByteArray)) rfl; have hcz13_2 := yL BK30.out 2 (.slice none 0 0) rfl; have hfz13_0 := zO BK30.out 0; have hfz13_1 := zO BK30.out 1; have hfz13_2 := zO BK30.out 2))
         have n0_ : Aside0 ((((w12.setCell ⟨gb30, 0, none⟩ (.string ((rd_T51 l0 x10_1).f0))).setCell ⟨gb30, 1, none⟩ (.string ((rd_T51 l0 x10_1).f1))).setCell ⟨gb30, 2, none⟩ (.slice A29_2 ((rd_T51 l0 x10_1).f2).length c29_2)).heap[gb30]? = some (.cells #[.string ((rd_T51 l0 x10_1).f0), .string ((rd_T51 l0 x10_1).f1), .slice A29_2 ((rd_T51 l0 x10_1).f2).length c29_2] 51 (0, 0))) := ⟨by (with_reducible repeat (first | refine zL ?_ _ | refine zN ?_ | refine zM ?_ _)); refine blk_put (cs := #[.string ((rd_T51 l0 x10_1).f0), .string ((rd_T51 l0 x10_1).f1), .slice none 0 0]) ?_ 2 _ rfl; (with_reducible repeat (first | refine zL ?_ _ | refine zN ?_ | refine zM ?_ _)); refine blk_put (cs := #[.string ((rd_T51 l0 x10_1).f0), .string (⟨#[]⟩ : ByteArray), .slice none 0 0]) ?_ 1 _ rfl; (with_reducible repeat (first | refine zL ?_ _ | refine zN ?_ | refine zM ?_ _)); refine blk_put (cs := #[.string (⟨#[]⟩ : ByteArray), .string (⟨#[]⟩ : ByteArray), .slice none 0 0]) ?_ 0 _ rfl; (with_reducible repeat (first | refine zL ?_ _ | refine zN ?_ | refine zM ?_ _)); exact BK30.out⟩; have n1_ : Aside0 (Below w.heap.size w (((w12.setCell ⟨gb30, 0, none⟩ (.string ((rd_T51 l0 x10_1).f0))).setCell ⟨gb30, 1, none⟩ (.string ((rd_T51 l0 x10_1).f1))).setCell ⟨gb30, 2, none⟩ (.slice A29_2 ((rd_T51 l0 x10_1).f2).length c29_2))) := ⟨by repeat (first | (with_reducible first | exact HB.out | apply zH | apply zF | apply zG | refine zI ?_ GE30.out) | exact HB.out)⟩; (try clear BK30); (try clear HB); generalize (((w12.setCell ⟨gb30, 0, none⟩ (.string ((rd_T51 l0 x10_1).f0))).setCell ⟨gb30, 1, none⟩ (.string ((rd_T51 l0 x10_1).f1))).setCell ⟨gb30, 2, none⟩ (.slice A29_2 ((rd_T51 l0 x10_1).f2).length c29_2)) = w14 at n0_ n1_ ⊢; have BK30 := n0_; have HB := n1_; clear n0_ n1_; (try (rw [show w14.drewN nd = w14.drewN nd from rfl]; have n0_ := zA (zL BK30.out nd); have n1_ := zA (zF HB.out nd); clear BK30 HB; generalize w14.drewN nd = w_nd at n0_ n1_ ⊢; have BK30 := n0_; have HB := n1_; clear n0_ n1_ w14; rename World => w14)); have n0_ := zA (zN BK30.out); have n1_ := zA (zG HB.out); clear BK30 HB; have BK30 := n0_; have HB := n1_; clear n0_ n1_; have q16 : (x10_1 : Int) ≤ ((l0.length : Int) : Int) := zW (by first | (with_reducible assumption) | assumption); obtain ⟨i016, hi31, _, hsz16, _⟩ := info_parts info51; have hroom16 : l0.length ≤ c0 := HC0.out; have hC16 : Kd.C k51 _ (some ad29) l0.length l0 := HR0.out; have hcut16 := cut_to (P := Try.prog) 26 51 .i64 Try.underlying26 hi31 (some ad29) l0.length c0 x10_1 (zW (by first | (with_reducible assumption) | assumption)) q16 hroom16; have hr16 := Kd.C_take (m := (x10_1 : Int).toNat) hC16 (by omega); have hy16 : y26.length = (x10_1 : Int).toNat := (by rw [Ny26.out, zY]; omega); rw [← Ny26.out] at hr16; rw [← hy16] at hcut16; have HR33 := zA hr16; have HC33 := zA (show y26.length ≤ c0 from by omega); clear hr16 hC16 hroom16 hi31 hsz16; have KY16 := zA hy16; clear hy16; replace q16 := eq_true q16; refine start_ (n := 7) (S := fun w' => w'.cell? ⟨gb30, 0, none⟩ = some (.string ((rd_T51 l0 x10_1).f0)) ∧ w'.cell? ⟨gb30, 1, none⟩ = some (.string ((rd_T51 l0 x10_1).f1)) ∧ w'.cell? ⟨gb30, 2, none⟩ = some (.slice A29_2 ((rd_T51 l0 x10_1).f2).length c29_2)) (ds := []) #[false, false, false, false, false, false, false] (by kernel_rfl) rfl rfl ⟨(zP BK30.out 0).trans rfl, (zP BK30.out 1).trans rfl, (zP BK30.out 2).trans rfl⟩ (fun hHeld => ?_); generalize w14.drew = w15 at BK30 HB HR33 hHeld ⊢; refine pure_ (i := 0) (N := some 15) (v := ?_) (a' := ?_) #[true, false, false, false, false, false, false] rfl rfl (by kernel_rfl) (fun _ _ _ h => h) (Or.inl ⟨by rfl, ?_⟩) ?_ ?_; rotate_left
         ·intro w'
          go_simp
          with_reducible rfl
         rotate_left
         ·simp only [Act.put, zC, zD, zE, i64_w]
          rfl
         refine pure_ (i := 2) (N := some 17) (v := ?_) (a' := ?_) #[true, false, true, false, false, false, false] rfl rfl (by kernel_rfl) (fun _ _ _ h => h) (Or.inl ⟨by rfl, ?_⟩) ?_ ?_; rotate_left
         ·intro w'
          go_simp
          with_reducible rfl
         rotate_left
         ·simp only [Act.put, zC, zD, zE, i64_w]
          rfl
         refine pure_ (i := 3) (N := some 18) (v := ?_) (a' := ?_) #[true, false, true, true, false, false, false] rfl rfl (by kernel_rfl) (fun _ _ _ h => h) (Or.inl ⟨by rfl, ?_⟩) ?_ ?_; rotate_left
         ·intro w'
          go_simp
          with_reducible rfl
         rotate_left
         ·simp only [Act.put, zC, zD, zE, i64_w]
          rfl
         refine pure_ (i := 4) (N := some 19) (v := ?_) (a' := ?_) #[true, false, true, true, true, false, false] rfl rfl (by kernel_rfl) (fun _ _ _ h => h) (Or.inl ⟨by rfl, ?_⟩) ?_ ?_; rotate_left
         ·intro w'
          go_simp
          with_reducible rfl
         rotate_left
         ·simp only [Act.put, zC, zD, zE, i64_w]
          rfl
         refine take_ (i := 1) (N := some 16) (v := ?_) (a' := ?_) #[true, true, true, true, true, false, false] rfl rfl (by kernel_rfl) (fun _ _ _ h => h) (Or.inl ⟨by rfl, ?_⟩) hHeld ?_ ?_; rotate_left
         ·rintro w' ⟨s0, s1, s2⟩
          go_simp
          with_reducible rfl
         rotate_left
         ·simp only [Act.put, zC, zD, zE, i64_w]
          rfl
         refine one_ (i := 5) (N := some 20) #[true, true, true, true, true, true, false] rfl rfl (by kernel_rfl) (by decide) (fun K hK => ?_); refine goes_ Try.func32 (by kernel_rfl) rfl #[.slice (some ad29) y26.length c0] (by rfl) rfl rfl (by (try simp only [zAA, zAB, zAC]); first | done | rfl | (simp only [zZ, zY]; rfl)) ?_
         with_reducible refine (impl_lastDigest.calls k1 _ _ y26 t27 _ ?side1 ?side2 A10.out).mono ?_
         (case side1 => repeat (first | exact (yN HR33.out HB.out) | (with_reducible first | refine zT ?_ _ | refine zU ?_ _ | refine zV ?_))); (case side2 => exact HC33.out); rintro e w17 ⟨rfl, hb⟩; refine ⟨_, rfl, ?_⟩; have n0_ := zA (yE (g := gb30) (o := .cells #[.string ((rd_T51 l0 x10_1).f0), .string ((rd_T51 l0 x10_1).f1), .slice A29_2 ((rd_T51 l0 x10_1).f2).length c29_2] 51 (0, 0)) (by (with_reducible repeat (first | refine zL ?_ _ | refine zN ?_ | refine zM ?_ _)); exact BK30.out) hb); have n1_ := zA (zAD (by repeat (first | (with_reducible first | exact HB.out | apply zH | apply zF | apply zG | refine zI ?_ GE30.out) | exact HB.out)) hb); clear BK30 HB; have BK30 := n0_; have HB := n1_; clear n0_ n1_; (try clear hb); refine hK.out _ _ ⟨(zP BK30.out 0).trans rfl, (zP BK30.out 1).trans rfl, (zP BK30.out 2).trans rfl⟩ (fun hHeld => ?_); clear hK K; refine norm_ (a' := ?_) ?_ ?_; rotate_left
         ·show Act.put _ (some 20) _ = _
          simp only [Act.put, zC, zD, zE, i64_w]; rfl
         refine pure_ (i := 6) (N := some 21) (v := ?_) (a' := ?_) #[true, true, true, true, true, true, true] rfl rfl (by kernel_rfl) (fun _ _ _ h => h) (Or.inl ⟨by rfl, ?_⟩) ?_ ?_; rotate_left
         ·intro w'
          go_simp
          with_reducible rfl
         rotate_left
         ·simp only [Act.put, zC, zD, zE, i64_w]
          rfl
         refine done_ (by kernel_rfl) ?_
         try go_wp2
         go_roundg k1
         case measure => have := HK1.out; omega
         case rel => exact ⟨(wrap64 (x10_1 + 1)), (by first | rfl | (simp; done) | (simp [*]; done) | (simp [bne]; done)), H', ⟨by have := HK1.out; omega⟩, ⟨by repeat (first | (with_reducible first | exact HB.out | apply zH | apply zF | apply zG | refine zI ?_ GE30.out) | exact HB.out)⟩⟩
        ·rw [if_neg c11] at H
         have c11b0 : (((rd_T51 l0 x10_1).f0).toList == t27.toList) = false := beq_eq_false_iff_ne.mpr c11; have c11b1 : (((rd_T51 l0 x10_1).f0).toList != t27.toList) = true := bne_iff_ne.mpr c11; obtain rfl := yM H; have p29 : 0 ≤ (x10_1 : Int) := zW (by first | (with_reducible assumption) | assumption); have q29 : x10_1 < (l0.length : Int) := zW (by first | (with_reducible assumption) | assumption); obtain ⟨ad29, A29_2, c29_2, e29, hx29_0, hx29_1, hx29_2, hl29_2, hi29_2⟩ := at_T51 HR0.out x10_1 p29 q29
         cases e29
         replace hx29_0 := (HB.out.cell (zB w _ hx29_0)).trans hx29_0; replace hx29_1 := (HB.out.cell (zB w _ hx29_1)).trans hx29_1; replace hx29_2 := (HB.out.cell (zB w _ hx29_2)).trans hx29_2; have HR29_2 := zA hi29_2; have HC29_2 := zA hl29_2; clear hi29_2 hl29_2; replace p29 := eq_true p29; replace q29 := eq_true q29
         try go_wp2_with (first | ((with_reducible refine gate_dst (N := 4) rfl ?_); refine box_event ?hg (N := 4) ?hd (cs := #[.string (⟨#[]⟩ : ByteArray), .string (⟨#[]⟩ : ByteArray), .slice none 0 0]) (t := 51) ?hr ?_; (case hd => rfl); (case hg => rfl); (case hr => first | (go_simp; done) | (go_simp; rfl)); intro gb30 hg w18 hbox hb; have n0_ := zA (zAD (by (with_reducible repeat first | exact HB.out | apply zH | apply zF | apply zG) <;> exact HB.out) hb); have n1_ := zA (hbox); have n2_ := zA ((by rw [hg]; exact (zAE (by (with_reducible repeat first | exact HB.out | apply zH | apply zF | apply zG) <;> exact HB.out)) : w.heap.size ≤ gb30)); have n3_ := zA ((by rw [hg]; exact (zAE (by (with_reducible repeat first | exact HB.out | apply zH | apply zF | apply zG) <;> exact HB.out)) : w.heap.size ≤ gb30)); clear HB; have HB := n0_; have BK30 := n1_; have GW30 := n2_; have GE30 := n3_; clear n0_ n1_ n2_ n3_; clear hb hbox hg; have hcz19_0 := yL BK30.out 0 (.string (⟨#[]⟩ : ByteArray)) rfl; have hcz19_1 := yL BK30.out 1 (.string (⟨#[]⟩ : ByteArray)) rfl; have hcz19_2 := yL BK30.out 2 (.slice none 0 0) rfl; have hfz19_0 := zO BK30.out 0; have hfz19_1 := zO BK30.out 1; have hfz19_2 := zO BK30.out 2))
         have n0_ : Aside0 ((((w18.setCell ⟨gb30, 0, none⟩ (.string ((rd_T51 l0 x10_1).f0))).setCell ⟨gb30, 1, none⟩ (.string ((rd_T51 l0 x10_1).f1))).setCell ⟨gb30, 2, none⟩ (.slice A29_2 ((rd_T51 l0 x10_1).f2).length c29_2)).heap[gb30]? = some (.cells #[.string ((rd_T51 l0 x10_1).f0), .string ((rd_T51 l0 x10_1).f1), .slice A29_2 ((rd_T51 l0 x10_1).f2).length c29_2] 51 (0, 0))) := ⟨by (with_reducible repeat (first | refine zL ?_ _ | refine zN ?_ | refine zM ?_ _)); refine blk_put (cs := #[.string ((rd_T51 l0 x10_1).f0), .string ((rd_T51 l0 x10_1).f1), .slice none 0 0]) ?_ 2 _ rfl; (with_reducible repeat (first | refine zL ?_ _ | refine zN ?_ | refine zM ?_ _)); refine blk_put (cs := #[.string ((rd_T51 l0 x10_1).f0), .string (⟨#[]⟩ : ByteArray), .slice none 0 0]) ?_ 1 _ rfl; (with_reducible repeat (first | refine zL ?_ _ | refine zN ?_ | refine zM ?_ _)); refine blk_put (cs := #[.string (⟨#[]⟩ : ByteArray), .string (⟨#[]⟩ : ByteArray), .slice none 0 0]) ?_ 0 _ rfl; (with_reducible repeat (first | refine zL ?_ _ | refine zN ?_ | refine zM ?_ _)); exact BK30.out⟩; have n1_ : Aside0 (Below w.heap.size w (((w18.setCell ⟨gb30, 0, none⟩ (.string ((rd_T51 l0 x10_1).f0))).setCell ⟨gb30, 1, none⟩ (.string ((rd_T51 l0 x10_1).f1))).setCell ⟨gb30, 2, none⟩ (.slice A29_2 ((rd_T51 l0 x10_1).f2).length c29_2))) := ⟨by repeat (first | (with_reducible first | exact HB.out | apply zH | apply zF | apply zG | refine zI ?_ GE30.out) | exact HB.out)⟩; (try clear BK30); (try clear HB); generalize (((w18.setCell ⟨gb30, 0, none⟩ (.string ((rd_T51 l0 x10_1).f0))).setCell ⟨gb30, 1, none⟩ (.string ((rd_T51 l0 x10_1).f1))).setCell ⟨gb30, 2, none⟩ (.slice A29_2 ((rd_T51 l0 x10_1).f2).length c29_2)) = w20 at n0_ n1_ ⊢; have BK30 := n0_; have HB := n1_; clear n0_ n1_; (try (rw [show w20.drewN nd = w20.drewN nd from rfl]; have n0_ := zA (zL BK30.out nd); have n1_ := zA (zF HB.out nd); clear BK30 HB; generalize w20.drewN nd = w_nd at n0_ n1_ ⊢; have BK30 := n0_; have HB := n1_; clear n0_ n1_ w20; rename World => w20)); have n0_ := zA (zN BK30.out); have n1_ := zA (zG HB.out); clear BK30 HB; have BK30 := n0_; have HB := n1_; clear n0_ n1_; have q22 : (x10_1 : Int) ≤ ((l0.length : Int) : Int) := zW (by first | (with_reducible assumption) | assumption); obtain ⟨i022, hi34, _, hsz22, _⟩ := info_parts info51; have hroom22 : l0.length ≤ c0 := HC0.out; have hC22 : Kd.C k51 _ (some ad29) l0.length l0 := HR0.out; have hcut22 := cut_to (P := Try.prog) 26 51 .i64 Try.underlying26 hi34 (some ad29) l0.length c0 x10_1 (zW (by first | (with_reducible assumption) | assumption)) q22 hroom22; have hr22 := Kd.C_take (m := (x10_1 : Int).toNat) hC22 (by omega); have hy22 : y26.length = (x10_1 : Int).toNat := (by rw [Ny26.out, zY]; omega); rw [← Ny26.out] at hr22; rw [← hy22] at hcut22; have HR33 := zA hr22; have HC33 := zA (show y26.length ≤ c0 from by omega); clear hr22 hC22 hroom22 hi34 hsz22; have KY22 := zA hy22; clear hy22; replace q22 := eq_true q22; refine start_ (n := 7) (S := fun w' => w'.cell? ⟨gb30, 0, none⟩ = some (.string ((rd_T51 l0 x10_1).f0)) ∧ w'.cell? ⟨gb30, 1, none⟩ = some (.string ((rd_T51 l0 x10_1).f1)) ∧ w'.cell? ⟨gb30, 2, none⟩ = some (.slice A29_2 ((rd_T51 l0 x10_1).f2).length c29_2)) (ds := []) #[false, false, false, false, false, false, false] (by kernel_rfl) rfl rfl ⟨(zP BK30.out 0).trans rfl, (zP BK30.out 1).trans rfl, (zP BK30.out 2).trans rfl⟩ (fun hHeld => ?_); generalize w20.drew = w21 at BK30 HB HR33 hHeld ⊢; refine pure_ (i := 0) (N := some 15) (v := ?_) (a' := ?_) #[true, false, false, false, false, false, false] rfl rfl (by kernel_rfl) (fun _ _ _ h => h) (Or.inl ⟨by rfl, ?_⟩) ?_ ?_; rotate_left
         ·intro w'
          go_simp
          with_reducible rfl
         rotate_left
         ·simp only [Act.put, zC, zD, zE, i64_w]
          rfl
         refine pure_ (i := 2) (N := some 17) (v := ?_) (a' := ?_) #[true, false, true, false, false, false, false] rfl rfl (by kernel_rfl) (fun _ _ _ h => h) (Or.inl ⟨by rfl, ?_⟩) ?_ ?_; rotate_left
         ·intro w'
          go_simp
          with_reducible rfl
         rotate_left
         ·simp only [Act.put, zC, zD, zE, i64_w]
          rfl
         refine pure_ (i := 3) (N := some 18) (v := ?_) (a' := ?_) #[true, false, true, true, false, false, false] rfl rfl (by kernel_rfl) (fun _ _ _ h => h) (Or.inl ⟨by rfl, ?_⟩) ?_ ?_; rotate_left
         ·intro w'
          go_simp
          with_reducible rfl
         rotate_left
         ·simp only [Act.put, zC, zD, zE, i64_w]
          rfl
         refine pure_ (i := 4) (N := some 19) (v := ?_) (a' := ?_) #[true, false, true, true, true, false, false] rfl rfl (by kernel_rfl) (fun _ _ _ h => h) (Or.inl ⟨by rfl, ?_⟩) ?_ ?_; rotate_left
         ·intro w'
          go_simp
          with_reducible rfl
         rotate_left
         ·simp only [Act.put, zC, zD, zE, i64_w]
          rfl
         refine take_ (i := 1) (N := some 16) (v := ?_) (a' := ?_) #[true, true, true, true, true, false, false] rfl rfl (by kernel_rfl) (fun _ _ _ h => h) (Or.inl ⟨by rfl, ?_⟩) hHeld ?_ ?_; rotate_left
         ·rintro w' ⟨s0, s1, s2⟩
          go_simp
          with_reducible rfl
         rotate_left
         ·simp only [Act.put, zC, zD, zE, i64_w]
          rfl
         refine one_ (i := 5) (N := some 20) #[true, true, true, true, true, true, false] rfl rfl (by kernel_rfl) (by decide) (fun K hK => ?_); refine goes_ Try.func32 (by kernel_rfl) rfl #[.slice (some ad29) y26.length c0] (by rfl) rfl rfl (by (try simp only [zAA, zAB, zAC]); first | done | rfl | (simp only [zZ, zY]; rfl)) ?_
         with_reducible refine (impl_lastDigest.calls k1 _ _ y26 t27 _ ?side1 ?side2 A10.out).mono ?_
         (case side1 => repeat (first | exact (yN HR33.out HB.out) | (with_reducible first | refine zT ?_ _ | refine zU ?_ _ | refine zV ?_))); (case side2 => exact HC33.out); rintro e w23 ⟨rfl, hb⟩; refine ⟨_, rfl, ?_⟩; have n0_ := zA (yE (g := gb30) (o := .cells #[.string ((rd_T51 l0 x10_1).f0), .string ((rd_T51 l0 x10_1).f1), .slice A29_2 ((rd_T51 l0 x10_1).f2).length c29_2] 51 (0, 0)) (by (with_reducible repeat (first | refine zL ?_ _ | refine zN ?_ | refine zM ?_ _)); exact BK30.out) hb); have n1_ := zA (zAD (by repeat (first | (with_reducible first | exact HB.out | apply zH | apply zF | apply zG | refine zI ?_ GE30.out) | exact HB.out)) hb); clear BK30 HB; have BK30 := n0_; have HB := n1_; clear n0_ n1_; (try clear hb); refine hK.out _ _ ⟨(zP BK30.out 0).trans rfl, (zP BK30.out 1).trans rfl, (zP BK30.out 2).trans rfl⟩ (fun hHeld => ?_); clear hK K; refine norm_ (a' := ?_) ?_ ?_; rotate_left
         ·show Act.put _ (some 20) _ = _
          simp only [Act.put, zC, zD, zE, i64_w]; rfl
         refine pure_ (i := 6) (N := some 21) (v := ?_) (a' := ?_) #[true, true, true, true, true, true, true] rfl rfl (by kernel_rfl) (fun _ _ _ h => h) (Or.inl ⟨by rfl, ?_⟩) ?_ ?_; rotate_left
         ·intro w'
          go_simp
          with_reducible rfl
         rotate_left
         ·simp only [Act.put, zC, zD, zE, i64_w]
          rfl
         refine done_ (by kernel_rfl) ?_
         try go_wp2
         go_ret; exact ⟨by first | rfl | (simp <;> rfl) | (simp [*] <;> rfl), by repeat (first | (with_reducible first | exact HB.out | apply zH | apply zF | apply zG | refine zI ?_ GE30.out) | exact HB.out)⟩
       ·rw [if_neg c9] at H
        exact absurd H (by simp)
      ·rw [if_neg c7] at H
       exact absurd H (by simp)
     ·rw [if_neg c6] at H
      exact absurd H (by simp)
    ·rw [if_neg c5] at H
     have c5b0 : decide (x10_1 < (l0.length : Int)) = false := decide_eq_false c5; clear c5; obtain rfl := yM H; go_wp2; go_ret; exact ⟨by first | rfl | (simp <;> rfl) | (simp [*] <;> rfl), by (with_reducible repeat first | exact HB.out | apply zH | apply zF | apply zG) <;> exact HB.out⟩
 ·replace c3 := yO c3
  subst c3; have H1 : (some false) = some r := by rw [if_neg (show ¬ (false = true) by decide)] at H; exact H
  clear H; have H := H1; clear H1; obtain rfl := yM H; go_enter Try.func31, Try.ntmps31; go_wp2_with (first | ((with_reducible refine yB (f := 50) rfl ?_); refine goesL_ (some 6) rfl rfl Try.func50 (by kernel_rfl) rfl #[.slice A0 l0.length c0] rfl (by (try simp only [zAA, zAB, zAC]); first | done | rfl | (simp only [zZ, zY]; rfl)) ?_; (with_reducible refine (impl_areBlocks.calls k _ _ l0 false _ ?side1 ?side2 A2.out).mono ?_); (case side1 => repeat (first | exact HR0.out | (with_reducible first | refine zT ?_ _ | refine zU ?_ _ | refine zV ?_))); (case side2 => exact HC0.out); rintro e w24 ⟨rfl, hb⟩; refine ⟨_, rfl, ?_⟩; have n0_ := zA (zAD (by (with_reducible repeat first | exact HB.out | apply zH | apply zF | apply zG) <;> exact HB.out) hb); clear HB; have HB := n0_; clear n0_; (try clear hb))); go_ret; exact ⟨by first | rfl | (simp <;> rfl) | (simp [*] <;> rfl), by (with_reducible repeat first | exact HB.out | apply zH | apply zF | apply zG) <;> exact HB.out⟩
def slices_Clone_string_string.f (l0 : List ByteArray) : Option (List ByteArray) := (some (([] : List ByteArray) : List ByteArray)).bind fun y10 => (if y10.length + l0.length < 8796093022208 then (some (y10 ++ l0)) else (none))
theorem slices_Clone_string_string.calls (A0 : Option Addr) (c0 : Nat) (l0 : List ByteArray) (r : List ByteArray) (w : World) (hr0 : Kd.C Kd.string w A0 l0.length l0) (hc0 : l0.length ≤ c0) (h : slices_Clone_string_string.f l0 = some r) :
  Calls Try.prog 55 #[.slice A0 l0.length c0] w fun e w' => ∃ v0_ : Value, e = .returned (v0_) ∧ Kd.R Kd.string 9 w' w.heap.size (fun _ => True) v0_ r ∧ Below w.heap.size w w' := by
 have HR0 := zA hr0; have HC0 := zA hc0; clear hr0 hc0; have HB := zA (Below.refl w.heap.size w); have H : ((some (([] : List ByteArray) : List ByteArray)).bind fun y10 => (if y10.length + l0.length < 8796093022208 then (some (y10 ++ l0)) else (none))) = some r := h; clear h; obtain ⟨y10, hy10⟩ : ∃ y_ : List ByteArray, y_ = (([] : List ByteArray)) := ⟨_, rfl⟩; replace H : (if y10.length + l0.length < 8796093022208 then (some (y10 ++ l0)) else (none)) = some r := by first | (rw [hy10]; with_reducible exact H) | (have H2_ := (Option.bind_some _ _).symm.trans H; rw [hy10]; with_reducible exact H2_) | (have H2_ := (Option.bind_some _ _).symm.trans H; with_reducible exact H2_) | with_reducible exact H | (rw [hy10]; exact H) | exact H
 have Ny10 := zA hy10; clear hy10
 by_cases c2 : y10.length + l0.length < 8796093022208
 ·rw [if_pos c2] at H
  have LMc2 := zA c2; clear c2; obtain ⟨y11, hy11⟩ : ∃ y_ : List ByteArray, y_ = (y10 ++ l0) := ⟨_, rfl⟩; replace H : (some y11) = some r := by first | (rw [hy11]; with_reducible exact H) | (have H2_ := (Option.bind_some _ _).symm.trans H; rw [hy11]; with_reducible exact H2_) | (have H2_ := (Option.bind_some _ _).symm.trans H; with_reducible exact H2_) | with_reducible exact H | (rw [hy11]; exact H) | exact H
  have Ny11 := zA hy11; clear hy11; obtain rfl := yM H
  cases A0 with
  | none =>
   have hl_ : l0 = [] := List.length_eq_zero_iff.mp (Nat.eq_zero_of_not_pos fun hp => by obtain ⟨a, e, _⟩ := HR0.out.2.2 hp; cases e); have eN_ : ∀ W_ : World, (binOp .eql 23 (.slice none l0.length c0) (.slice none 0 0)).run Try.prog W_ = .ok (.bool true) W_ := fun W_ => by rw [hl_]; kernel_rfl
   go_enter Try.func55, Try.ntmps55; go_wp2
   first | rw [eN_] | (rw [hl_] at eN_; rw [eN_]) | (simp only [hl_, List.length_nil] at eN_ ⊢; rw [eN_])
   go_wp2; go_ret; exact ⟨_, rfl, by rw [Ny11.out, Ny10.out, hl_]; first | exact Kd.R_nil _ _ _ _ _ | exact Kd.N_nil _ _ _ _ _ | exact Kd.V_nil _ _ _ _ _ | exact Kd.Q_nil _ _ _ _ _ | exact Kd.S_nil _ _ _ _ _, HB.out⟩
  | some a0_ =>
   have eN_ : ∀ W_ : World, (binOp .eql 23 (.slice (some a0_) l0.length c0) (.slice none 0 0)).run Try.prog W_ = .ok (.bool false) W_ := fun W_ => by kernel_rfl
   go_enter Try.func55, Try.ntmps55; go_wp2_with (first | ((with_reducible refine gate_dst (N := 5) rfl ?_); refine Kd.R_lit Kd.string _ 9 ?hg (N := 5) ?hd (xs := ([] : List ByteArray)) (inner := []) (ok := fun _ => True) (okp := fun _ => True) ?hr ?hp (fun _ hk => hk) trivial (Below.refl _ _) (Nat.le_refl _) (by simp) ?_; (case hd => rfl); (case hg => rfl); (case hr => first | (go_simp; done) | (go_simp; rfl)); (case hp => exact (Reps.none _ _)); intro v12 w3 ho4 hb hg_ hnew_; clear hg_ hnew_; (first | rw [← Ny10.out] at ho4 | (simp only [Int.reduceToNat] at ho4; rw [← Ny10.out] at ho4)); have n0_ := zA (Kd.R_lower ho4 (zAE (by (with_reducible repeat first | exact HB.out | apply zH | apply zF | apply zG) <;> exact HB.out))); have n1_ := zA (zAD (by (with_reducible repeat first | exact HB.out | apply zH | apply zF | apply zG) <;> exact HB.out) hb); clear HB; have HO13 := n0_; have HB := n1_; clear n0_ n1_; clear hb ho4) | ((with_reducible refine gate_builtin (b := .append) (xs := #[.tmp 5, .tmp 6]) rfl ?_); at_builtin; refine Kd.R_append_rows Kd.string (w0 := w) w.heap.size rfl (.tmp 5) (.tmp 6) 23 9 (.string ⟨#[]⟩) 16 rfl Try.underlying23 info9 rfl (by decide) (by omega) v12 y10 l0 _ _ _ (fun _ => True) (fun _ => False) rfl rfl ?aO ?aR (fun _ _ h => h) (fun _ h => h.elim) ?aF ?aB ?aS ?aL ?_; (case aR => repeat (first | exact (yN HR0.out HB.out) | (with_reducible first | refine zT ?_ _ | refine zU ?_ _ | refine zV ?_))); (case aB => exact (by (with_reducible repeat first | exact HB.out | apply zH | apply zF | apply zG) <;> exact HB.out)); (case aF => exact (fun _ _ => trivial)); (case aO => exact (by (with_reducible repeat first | apply zQ | apply zR | apply zS); exact HO13.out)); (case aS => exact (zAE (by (with_reducible repeat first | exact HB.out | apply zH | apply zF | apply zG) <;> exact HB.out))); (case aL => have := LMc2.out; omega); intro v14 w5 ho hb hg hat; rw [← Ny11.out] at ho; have n0_ := zA (hb); have n1_ := zA (ho); clear HB; clear HO13; have HB := n0_; have HO15 := n1_; clear n0_ n1_; clear ho hb hg hat)); go_ret; exact ⟨_, by first | rfl | (simp <;> rfl) | (simp [*] <;> rfl), by (with_reducible repeat first | apply zQ | apply zR | apply zS); exact HO15.out, by (with_reducible repeat first | exact HB.out | apply zH | apply zF | apply zG) <;> exact HB.out⟩
 ·rw [if_neg c2] at H
  exact absurd H (by simp)
def impl_Block_copied.f (a0_0 : ByteArray) (a0_1 : ByteArray) (l0_2 : List ByteArray) : Option (ByteArray × ByteArray × List ByteArray) := (slices_Clone_string_string.f l0_2).bind fun t10 => (some (a0_0, a0_1, t10))
theorem impl_Block_copied.calls (a0_0 : ByteArray) (a0_1 : ByteArray) (A0_2 : Option Addr) (c0_2 : Nat) (l0_2 : List ByteArray) (r1 : ByteArray) (r2 : ByteArray) (r3 : List ByteArray) (w : World) (hr0_2 : Kd.C Kd.string w A0_2 l0_2.length l0_2) (hc0_2 : l0_2.length ≤ c0_2) (h : impl_Block_copied.f a0_0 a0_1 l0_2 = some (r1, r2, r3)) :
  Calls Try.prog 34 #[.agg #[.string a0_0, .string a0_1, .slice A0_2 l0_2.length c0_2]] w fun e w' => ∃ v2_ : Value, e = .returned (.agg #[.string r1, .string r2, v2_]) ∧ Kd.R Kd.string 9 w' w.heap.size (fun _ => True) v2_ r3 ∧ Below w.heap.size w w' := by
 have hu51 := Try.underlying51; have HR0_2 := zA hr0_2; have HC0_2 := zA hc0_2; clear hr0_2 hc0_2; have HB := zA (Below.refl w.heap.size w); have H : ((slices_Clone_string_string.f l0_2).bind fun t11 => (some (a0_0, a0_1, t11))) = some (r1, r2, r3) := h; clear h; replace H := zAF H; obtain ⟨t11, A20, H⟩ := H; replace H : (some (a0_0, a0_1, t11)) = some (r1, r2, r3) := H; have A2 := zA A20; clear A20; simp only [Option.some.injEq, Prod.mk.injEq] at H; obtain ⟨rfl, rfl, rfl⟩ := H; go_enter Try.func34, Try.ntmps34; go_wp2_with (first | ((with_reducible refine gate_dst (N := 1) rfl ?_); refine box_event ?hg (N := 1) ?hd (cs := #[.string a0_0, .string a0_1, .slice A0_2 l0_2.length c0_2]) (t := 51) ?hr ?_; (case hd => rfl); (case hg => rfl); (case hr => first | (go_simp; done) | (go_simp; rfl)); intro gb12 hg w3 hbox hb; have n0_ := zA (zAD (by (with_reducible repeat first | exact HB.out | apply zH | apply zF | apply zG) <;> exact HB.out) hb); have n1_ := zA (hbox); have n2_ := zA ((by rw [hg]; exact (zAE (by (with_reducible repeat first | exact HB.out | apply zH | apply zF | apply zG) <;> exact HB.out)) : w.heap.size ≤ gb12)); have n3_ := zA ((by rw [hg]; exact (zAE (by (with_reducible repeat first | exact HB.out | apply zH | apply zF | apply zG) <;> exact HB.out)) : w.heap.size ≤ gb12)); clear HB; have HB := n0_; have BK12 := n1_; have GW12 := n2_; have GE12 := n3_; clear n0_ n1_ n2_ n3_; clear hb hbox hg) | ((with_reducible refine gate_dst (N := 2) rfl ?_); refine box_event ?hg (N := 2) ?hd (cs := #[.string (⟨#[]⟩ : ByteArray), .string (⟨#[]⟩ : ByteArray), .slice none 0 0]) (t := 51) ?hr ?_; (case hd => rfl); (case hg => rfl); (case hr => first | (go_simp; done) | (go_simp; rfl)); intro gb13 hg w4 hbox hb; have n0_ := zA (yE (g := gb12) (o := .cells #[.string a0_0, .string a0_1, .slice A0_2 l0_2.length c0_2] 51 (0, 0)) (by (with_reducible repeat (first | refine zL ?_ _ | refine zN ?_ | refine zM ?_ _)); exact BK12.out) hb); have n1_ := zA (zAD (by repeat (first | (with_reducible first | exact HB.out | apply zH | apply zF | apply zG | refine zI ?_ GE12.out) | exact HB.out)) hb); have n2_ := zA (hbox); have n3_ := zA ((by rw [hg]; exact (zAE (by repeat (first | (with_reducible first | exact HB.out | apply zH | apply zF | apply zG | refine zI ?_ GE12.out) | exact HB.out))) : w.heap.size ≤ gb13)); have n4_ := zA ((by rw [hg]; exact (zAE (by repeat (first | (with_reducible first | exact HB.out | apply zH | apply zF | apply zG | refine zI ?_ GE12.out) | exact HB.out))) : w.heap.size ≤ gb13)); have n5_ := zA ((by rw [hg]; exact zK (blk_lt (g := gb12) (o := .cells #[.string a0_0, .string a0_1, .slice A0_2 l0_2.length c0_2] 51 (0, 0)) (by (with_reducible repeat (first | refine zL ?_ _ | refine zN ?_ | refine zM ?_ _)); exact BK12.out)) : gb12 ≠ gb13)); have n6_ := zA ((by rw [hg]; exact Nat.ne_of_gt (blk_lt (g := gb12) (o := .cells #[.string a0_0, .string a0_1, .slice A0_2 l0_2.length c0_2] 51 (0, 0)) (by (with_reducible repeat (first | refine zL ?_ _ | refine zN ?_ | refine zM ?_ _)); exact BK12.out)) : gb13 ≠ gb12)); clear BK12; clear HB; have BK12 := n0_; have HB := n1_; have BK13 := n2_; have GW13 := n3_; have GE13 := n4_; have NB12_13 := n5_; have NB13_12 := n6_; clear n0_ n1_ n2_ n3_ n4_ n5_ n6_; clear hb hbox hg; have hnb5 := NB12_13.out; have hnc5 := NB13_12.out; have hcz6_0 := yL BK12.out 0 (.string a0_0) rfl; have hcz6_1 := yL BK12.out 1 (.string a0_1) rfl; have hcz6_2 := yL BK12.out 2 (.slice A0_2 l0_2.length c0_2) rfl; have hfz6_0 := zO BK12.out 0; have hfz6_1 := zO BK12.out 1; have hfz6_2 := zO BK12.out 2) | ((with_reducible refine yB (f := 55) rfl ?_); refine goesL_ (some 5) rfl rfl Try.func55 (by kernel_rfl) rfl #[.slice A0_2 l0_2.length c0_2] rfl (by (try simp only [zAA, zAB, zAC]); first | done | rfl | (simp only [zZ, zY]; rfl)) ?_; (with_reducible refine (slices_Clone_string_string.calls _ _ l0_2 t11 _ ?side1 ?side2 A2.out).mono ?_); (case side1 => repeat (first | exact (yN HR0_2.out HB.out) | (with_reducible first | refine zT ?_ _ | refine zU ?_ _ | refine zV ?_))); (case side2 => exact HC0_2.out); rintro e w7 ⟨v14, rfl, ho0, hb⟩; refine ⟨_, rfl, ?_⟩; have n0_ := zA (Kd.R_lower ho0 (zAE (by repeat (first | (with_reducible first | exact HB.out | apply zH | apply zF | apply zG | refine zI ?_ GE12.out | refine zI ?_ GE13.out) | exact HB.out)))); have n1_ := zA (yE (g := gb12) (o := .cells #[.string a0_0, .string a0_1, .slice A0_2 l0_2.length c0_2] 51 (0, 0)) (by (with_reducible repeat (first | refine zL ?_ _ | refine zN ?_ | refine zM ?_ _)); exact BK12.out) hb); have n2_ := zA (yE (g := gb13) (o := .cells #[.string (⟨#[]⟩ : ByteArray), .string (⟨#[]⟩ : ByteArray), .slice none 0 0] 51 (0, 0)) (by (with_reducible repeat (first | refine zL ?_ _ | refine zN ?_ | refine zM ?_ _)); exact BK13.out) hb); have n3_ := zA (zAD (by repeat (first | (with_reducible first | exact HB.out | apply zH | apply zF | apply zG | refine zI ?_ GE12.out | refine zI ?_ GE13.out) | exact HB.out)) hb); clear BK12; clear BK13; clear HB; have HO15 := n0_; have BK12 := n1_; have BK13 := n2_; have HB := n3_; clear n0_ n1_ n2_ n3_; (try clear hb); (try clear ho0); obtain ⟨Ao8, co8, eo8⟩ := Kd.R_slice HO15.out; subst eo8; have hcz9_0 := yL BK12.out 0 (.string a0_0) rfl; have hcz9_1 := yL BK12.out 1 (.string a0_1) rfl; have hcz9_2 := yL BK12.out 2 (.slice A0_2 l0_2.length c0_2) rfl; have hfz9_0 := zO BK12.out 0; have hfz9_1 := zO BK12.out 1; have hfz9_2 := zO BK12.out 2; have hcz10_0 := yL BK13.out 0 (.string (⟨#[]⟩ : ByteArray)) rfl; have hcz10_1 := yL BK13.out 1 (.string (⟨#[]⟩ : ByteArray)) rfl; have hcz10_2 := yL BK13.out 2 (.slice none 0 0) rfl; have hfz10_0 := zO BK13.out 0; have hfz10_1 := zO BK13.out 1; have hfz10_2 := zO BK13.out 2))
 refine bodyPost_ret (results_cell_row rfl _ _ gb13 51 #[.string a0_0, .string a0_1, .slice Ao8 t11.length co8] (0, 0) _ rfl (by (with_reducible repeat (first | refine zL ?_ _ | refine zN ?_ | refine zM ?_ _)); refine blk_put (cs := #[.string a0_0, .string a0_1, .slice none 0 0]) ?_ 2 _ rfl; (with_reducible repeat (first | refine zL ?_ _ | refine zN ?_ | refine zM ?_ _)); refine blk_put (cs := #[.string a0_0, .string (⟨#[]⟩ : ByteArray), .slice none 0 0]) ?_ 1 _ rfl; (with_reducible repeat (first | refine zL ?_ _ | refine zN ?_ | refine zM ?_ _)); refine blk_put (cs := #[.string (⟨#[]⟩ : ByteArray), .string (⟨#[]⟩ : ByteArray), .slice none 0 0]) ?_ 0 _ rfl; (with_reducible repeat (first | refine zL ?_ _ | refine zN ?_ | refine zM ?_ _)); refine blk_far ?_ NB13_12.out _; (with_reducible repeat (first | refine zL ?_ _ | refine zN ?_ | refine zM ?_ _)); exact BK13.out) Try.underlying51 rfl (by kernel_rfl)) rfl ?_; exact ⟨_, by first | rfl | (simp <;> rfl) | (simp [*] <;> rfl), by (with_reducible repeat first | apply zQ | apply zR | apply zS); exact yC (Kd.R_far (p := ⟨gb13, 2, none⟩) (Kd.R_far (p := ⟨gb13, 1, none⟩) (Kd.R_far (p := ⟨gb13, 0, none⟩) (Kd.R_far (p := ⟨gb12, 2, none⟩) (Kd.R_types (Kd.R_types HO15.out BK12.out (by decide)) BK13.out (by decide)) (fun _ hk => hk.1.2) (.slice Ao8 t11.length co8)) (fun _ hk => hk.2) (.string a0_0)) (fun _ hk => hk.2) (.string a0_1)) (fun _ hk => hk.2) (.slice Ao8 t11.length co8)) (fun _ hk => trivial), by repeat (first | (with_reducible first | exact HB.out | apply zH | apply zF | apply zG | refine zI ?_ GE12.out | refine zI ?_ GE13.out) | exact HB.out)⟩
mutual
def impl_PutBlock.j0 : Nat → List (S51) → ByteArray → List ByteArray → Bool → Option ((List (S51)) × Bool)
 | 0, _, _, _, _ => none
 | k + 1, x0, x1, x2, x19 => if x19 = true then (some (([] : List (S51)), false)) else ((impl_lastDigest.f k x0).bind fun t10 => ((impl_GoodBlock.f k t10 x1 x2).bind fun t11 => (if t11 = true then (impl_PutBlock.l0 k ([] : List (S51)) x0 (x0.length : Int) 0 t10 x1 x2) else (some (([] : List (S51)), false)))))
def impl_PutBlock.l0 : Nat → List (S51) → List (S51) → Int → Int → ByteArray → ByteArray → List ByteArray → Option ((List (S51)) × Bool)
 | 0, _, _, _, _, _, _, _ => none
 | k + 1, x9, x28, x29, x30, x12, x13, x14 => if x30 < x29 then (if 0 ≤ x30 then (if x30 < (x28.length : Int) then ((impl_Block_copied.f ((rd_T51 x28 x30).f0) ((rd_T51 x28 x30).f1) ((rd_T51 x28 x30).f2)).bind fun bt15 => (if x9.length < 2513169434916 then (impl_PutBlock.l0 k (x9 ++ [(⟨bt15.1, bt15.2.1, bt15.2.2⟩ : S51)]) x28 x29 (wrap64 (x30 + 1)) x12 x13 x14) else (none))) else (none)) else (none)) else ((impl_Block_copied.f x12 x13 x14).bind fun bt16 => (if x9.length < 2513169434916 then (some ((x9 ++ [(⟨bt16.1, bt16.2.1, bt16.2.2⟩ : S51)]), true)) else (none)))
end
def impl_PutBlock.f (k : Nat) (l0 : List (S51)) (a1 : ByteArray) (l2 : List ByteArray) : Option ((List (S51)) × Bool) := (impl_GoodChain.f k l0).bind fun t10 => (if t10 = true then (impl_PutBlock.j0 k l0 a1 l2 ((l0.length : Int) == 12)) else (impl_PutBlock.j0 k l0 a1 l2 true))
theorem impl_PutBlock.calls (k : Nat) (A0 : Option Addr) (c0 : Nat) (l0 : List (S51)) (a1 : ByteArray) (A2 : Option Addr) (c2 : Nat) (l2 : List ByteArray) (r1 : List (S51)) (r2 : Bool) (w : World) (hr0 : Kd.C k51 w A0 l0.length l0) (hc0 : l0.length ≤ c0) (hr2 : Kd.C Kd.string w A2 l2.length l2) (hc2 : l2.length ≤ c2) (h : impl_PutBlock.f k l0 a1 l2 = some (r1, r2)) :
  Calls Try.prog 10 #[.slice A0 l0.length c0, .string a1, .slice A2 l2.length c2] w fun e w' => ∃ v0_ : Value, e = .returned (.tuple #[v0_, .bool r2]) ∧ Kd.S k51 51 w' w.heap.size (fun _ => True) v0_ r1 ∧ Below w.heap.size w w' := by
 have hu51 := Try.underlying51; have HR0 := zA hr0; have HC0 := zA hc0; clear hr0 hc0; have HR2 := zA hr2; have HC2 := zA hc2; clear hr2 hc2; have HB := zA (Below.refl w.heap.size w); have H : ((impl_GoodChain.f k l0).bind fun t38 => (if t38 = true then (impl_PutBlock.j0 k l0 a1 l2 ((l0.length : Int) == 12)) else (impl_PutBlock.j0 k l0 a1 l2 true))) = some (r1, r2) := h; clear h; have HC4 := zA H; clear H; go_enter Try.func10, Try.ntmps10; go_upto_region 1 with (fail)
 go_cut [19] (fun v19 wc => ∃ (kq : Nat) (x19_3 : Bool), v19 = .bool x19_3 ∧ Aside0 (impl_PutBlock.j0 kq l0 a1 l2 x19_3 = some (r1, r2)) ∧ Aside0 (kq ≤ k) ∧ Aside0 (Below w.heap.size w wc))
 case first =>
  have H := HC4.out; clear HC4; replace H := zAF H; obtain ⟨t38, A50, H⟩ := H; replace H : (if t38 = true then (impl_PutBlock.j0 k l0 a1 l2 ((l0.length : Int) == 12)) else (impl_PutBlock.j0 k l0 a1 l2 true)) = some (r1, r2) := H; have A5 := zA A50; clear A50
  by_cases c6 : t38 = true
  ·subst c6
   have H1 : (impl_PutBlock.j0 k l0 a1 l2 ((l0.length : Int) == 12)) = some (r1, r2) := by rw [if_pos rfl] at H; exact H
   clear H; have H := H1; clear H1; have H' := zA H; clear H; go_wp2_with (first | ((with_reducible refine yB (f := 31) rfl ?_); refine goesL_ (some 13) rfl rfl Try.func31 (by kernel_rfl) rfl #[.slice A0 l0.length c0] rfl (by (try simp only [zAA, zAB, zAC]); first | done | rfl | (simp only [zZ, zY]; rfl)) ?_; (with_reducible refine (impl_GoodChain.calls k _ _ l0 true _ ?side1 ?side2 A5.out).mono ?_); (case side1 => repeat (first | exact (yN HR0.out HB.out) | (with_reducible first | refine zT ?_ _ | refine zU ?_ _ | refine zV ?_))); (case side2 => exact HC0.out); rintro e w7 ⟨rfl, hb⟩; refine ⟨_, rfl, ?_⟩; have n0_ := zA (zAD (by (with_reducible repeat first | exact HB.out | apply zH | apply zF | apply zG) <;> exact HB.out) hb); clear HB; have HB := n0_; clear n0_; (try clear hb))); go_meet
   case rel => exact ⟨_, (((l0.length : Int) == 12)), (by first | rfl | (simp; done) | (simp [*]; done) | (simp [bne]; done)), H', ⟨by first | omega | exact Nat.le_refl _⟩, ⟨by (with_reducible repeat first | exact HB.out | apply zH | apply zF | apply zG) <;> exact HB.out⟩⟩
  ·replace c6 := yO c6
   subst c6; have H1 : (impl_PutBlock.j0 k l0 a1 l2 true) = some (r1, r2) := by rw [if_neg (show ¬ (false = true) by decide)] at H; exact H
   clear H; have H := H1; clear H1; have H' := zA H; clear H; go_wp2_with (first | ((with_reducible refine yB (f := 31) rfl ?_); refine goesL_ (some 13) rfl rfl Try.func31 (by kernel_rfl) rfl #[.slice A0 l0.length c0] rfl (by (try simp only [zAA, zAB, zAC]); first | done | rfl | (simp only [zZ, zY]; rfl)) ?_; (with_reducible refine (impl_GoodChain.calls k _ _ l0 false _ ?side1 ?side2 A5.out).mono ?_); (case side1 => repeat (first | exact (yN HR0.out HB.out) | (with_reducible first | refine zT ?_ _ | refine zU ?_ _ | refine zV ?_))); (case side2 => exact HC0.out); rintro e w8 ⟨rfl, hb⟩; refine ⟨_, rfl, ?_⟩; have n0_ := zA (zAD (by (with_reducible repeat first | exact HB.out | apply zH | apply zF | apply zG) <;> exact HB.out) hb); clear HB; have HB := n0_; clear n0_; (try clear hb))); go_meet
   case rel => exact ⟨_, (true), (by first | rfl | (simp; done) | (simp [*]; done) | (simp [bne]; done)), H', ⟨by first | omega | exact Nat.le_refl _⟩, ⟨by (with_reducible repeat first | exact HB.out | apply zH | apply zF | apply zG) <;> exact HB.out⟩⟩
 case rest =>
  clear HC4
  try clear c1
  try clear c2
  try clear p2
  try clear c3
  try clear c6
  obtain ⟨kq, x19_3, rfl, HA, HJ3, HB⟩ := hcut
  cases kq with
  | zero => exact absurd HA.out (by simp [impl_PutBlock.j0])
  | succ kj3 =>
   have H := HA.out; clear HA; simp only [impl_PutBlock.j0] at H
   by_cases c9 : x19_3 = true
   ·subst c9
    have H1 : (some (([] : List (S51)), false)) = some (r1, r2) := by rw [if_pos rfl] at H; exact H
    clear H; have H := H1; clear H1; simp only [Option.some.injEq, Prod.mk.injEq] at H; obtain ⟨rfl, rfl⟩ := H; go_wp2; go_ret2; exact ⟨_, by first | rfl | (simp <;> rfl) | (simp [*] <;> rfl), by first | exact Kd.S_nil _ _ _ _ _ | exact Kd.N_nil _ _ _ _ _ | exact Kd.V_nil _ _ _ _ _ | exact Kd.Q_nil _ _ _ _ _ | exact Kd.R_nil _ _ _ _ _, by (with_reducible repeat first | exact HB.out | apply zH | apply zF | apply zG) <;> exact HB.out⟩
   ·replace c9 := yO c9
    subst c9; have H1 : ((impl_lastDigest.f kj3 l0).bind fun t39 => ((impl_GoodBlock.f kj3 t39 a1 l2).bind fun t40 => (if t40 = true then (impl_PutBlock.l0 kj3 ([] : List (S51)) l0 (l0.length : Int) 0 t39 a1 l2) else (some (([] : List (S51)), false))))) = some (r1, r2) := by rw [if_neg (show ¬ (false = true) by decide)] at H; exact H
    clear H; have H := H1; clear H1; replace H := zAF H; obtain ⟨t39, A41, H⟩ := H; replace H : ((impl_GoodBlock.f kj3 t39 a1 l2).bind fun t40 => (if t40 = true then (impl_PutBlock.l0 kj3 ([] : List (S51)) l0 (l0.length : Int) 0 t39 a1 l2) else (some (([] : List (S51)), false)))) = some (r1, r2) := H; have A10 := zA A41; clear A41; replace H := zAF H; obtain ⟨t40, A42, H⟩ := H; replace H : (if t40 = true then (impl_PutBlock.l0 kj3 ([] : List (S51)) l0 (l0.length : Int) 0 t39 a1 l2) else (some (([] : List (S51)), false))) = some (r1, r2) := H; have A11 := zA A42; clear A42
    by_cases c12 : t40 = true
    ·subst c12
     have H1 : (impl_PutBlock.l0 kj3 ([] : List (S51)) l0 (l0.length : Int) 0 t39 a1 l2) = some (r1, r2) := by rw [if_pos rfl] at H; exact H
     clear H; have H := H1; clear H1; have H' := zA H; clear H; go_wp2_with (first | ((with_reducible refine yB (f := 32) rfl ?_); refine goesL_ (some 21) rfl rfl Try.func32 (by kernel_rfl) rfl #[.slice A0 l0.length c0] rfl (by (try simp only [zAA, zAB, zAC]); first | done | rfl | (simp only [zZ, zY]; rfl)) ?_; (with_reducible refine (impl_lastDigest.calls kj3 _ _ l0 t39 _ ?side1 ?side2 A10.out).mono ?_); (case side1 => repeat (first | exact (yN HR0.out HB.out) | (with_reducible first | refine zT ?_ _ | refine zU ?_ _ | refine zV ?_))); (case side2 => exact HC0.out); rintro e w13 ⟨rfl, hb⟩; refine ⟨_, rfl, ?_⟩; have n0_ := zA (zAD (by (with_reducible repeat first | exact HB.out | apply zH | apply zF | apply zG) <;> exact HB.out) hb); clear HB; have HB := n0_; clear n0_; (try clear hb)) | ((with_reducible refine gate_dst (N := 8) rfl ?_); (try (refine gate_guard (by rfl) ?_; dsimp only)); refine box_event ?hg (N := 8) ?hd (cs := #[.string (⟨#[]⟩ : ByteArray), .string (⟨#[]⟩ : ByteArray), .slice none 0 0]) (t := 51) ?hr ?_; (case hd => rfl); (case hg => rfl); (case hr => first | (go_simp; done) | (go_simp; rfl)); intro gb43 hg w14 hbox hb; have n0_ := zA (zAD (by (with_reducible repeat first | exact HB.out | apply zH | apply zF | apply zG) <;> exact HB.out) hb); have n1_ := zA (hbox); have n2_ := zA ((by rw [hg]; exact (zAE (by (with_reducible repeat first | exact HB.out | apply zH | apply zF | apply zG) <;> exact HB.out)) : w.heap.size ≤ gb43)); have n3_ := zA ((by rw [hg]; exact (zAE (by (with_reducible repeat first | exact HB.out | apply zH | apply zF | apply zG) <;> exact HB.out)) : w.heap.size ≤ gb43)); clear HB; have HB := n0_; have BK43 := n1_; have GW43 := n2_; have GE43 := n3_; clear n0_ n1_ n2_ n3_; clear hb hbox hg; have hcz15_0 := yL BK43.out 0 (.string (⟨#[]⟩ : ByteArray)) rfl; have hcz15_1 := yL BK43.out 1 (.string (⟨#[]⟩ : ByteArray)) rfl; have hcz15_2 := yL BK43.out 2 (.slice none 0 0) rfl; have hfz15_0 := zO BK43.out 0; have hfz15_1 := zO BK43.out 1; have hfz15_2 := zO BK43.out 2) | ((with_reducible refine yB (f := 33) rfl ?_); refine goesL_ (some 26) rfl rfl Try.func33 (by kernel_rfl) rfl #[.agg #[.string t39, .string a1, .slice A2 l2.length c2]] rfl (by (try simp only [zAA, zAB, zAC]); first | done | rfl | (simp only [zZ, zY]; rfl)) ?_; (with_reducible refine (impl_GoodBlock.calls kj3 t39 a1 _ _ l2 true _ ?side1 ?side2 A11.out).mono ?_); (case side1 => exact yN HR2.out (by repeat (first | (with_reducible first | exact HB.out | apply zH | apply zF | apply zG | refine zI ?_ GE43.out) | exact HB.out))); (case side2 => exact HC2.out); rintro e w16 ⟨rfl, hb⟩; refine ⟨_, rfl, ?_⟩; have n0_ := zA (yE (g := gb43) (o := .cells #[.string t39, .string a1, .slice A2 l2.length c2] 51 (0, 0)) (by (with_reducible repeat (first | refine zL ?_ _ | refine zN ?_ | refine zM ?_ _)); refine blk_put (cs := #[.string t39, .string a1, .slice none 0 0]) ?_ 2 _ rfl; (with_reducible repeat (first | refine zL ?_ _ | refine zN ?_ | refine zM ?_ _)); refine blk_put (cs := #[.string t39, .string (⟨#[]⟩ : ByteArray), .slice none 0 0]) ?_ 1 _ rfl; (with_reducible repeat (first | refine zL ?_ _ | refine zN ?_ | refine zM ?_ _)); refine blk_put (cs := #[.string (⟨#[]⟩ : ByteArray), .string (⟨#[]⟩ : ByteArray), .slice none 0 0]) ?_ 0 _ rfl; (with_reducible repeat (first | refine zL ?_ _ | refine zN ?_ | refine zM ?_ _)); exact BK43.out) hb); have n1_ := zA (zAD (by repeat (first | (with_reducible first | exact HB.out | apply zH | apply zF | apply zG | refine zI ?_ GE43.out) | exact HB.out)) hb); clear BK43; clear HB; have BK43 := n0_; have HB := n1_; clear n0_ n1_; (try clear hb))); go_loopg [9, 30] kj3 (fun kq v9 v30 w' => ∃ (x9_2 : List (S51)) (x30_2 : Int), v30 = .int .i64 x30_2 ∧ Aside0 (impl_PutBlock.l0 kq x9_2 l0 (l0.length : Int) x30_2 t39 a1 l2 = some (r1, r2)) ∧ Aside0 (kq ≤ kj3) ∧ Aside0 (Kd.S k51 51 w' w.heap.size (fun k_ => k_ ≠ gb43) v9 x9_2) ∧ Aside0 (w'.heap[gb43]? = some (.cells #[.string t39, .string a1, (.slice A2 l2.length c2)] 51 (0, 0))) ∧ Aside0 (Below w.heap.size w w'))
     case atStart => exact ⟨(([] : List (S51))), (0), (by first | rfl | (simp; done) | (simp [*]; done) | (simp [bne]; done)), H', ⟨Nat.le_refl _⟩, ⟨by first | exact Kd.S_nil _ _ _ _ _ | exact Kd.N_nil _ _ _ _ _ | exact Kd.V_nil _ _ _ _ _ | exact Kd.Q_nil _ _ _ _ _ | exact Kd.R_nil _ _ _ _ _⟩, ⟨by (with_reducible repeat (first | refine zL ?_ _ | refine zN ?_ | refine zM ?_ _)); exact BK43.out⟩, ⟨by repeat (first | (with_reducible first | exact HB.out | apply zH | apply zF | apply zG | refine zI ?_ GE43.out) | exact HB.out)⟩⟩
     case round =>
      clear H'
      try clear c1
      try clear c2
      try clear p2
      try clear c3
      try clear c6
      try clear c9
      try clear c10
      try clear c12
      try clear hcz15_0
      try clear hcz15_1
      try clear hcz15_2
      try clear hfz15_0
      try clear hfz15_1
      try clear hfz15_2
      try clear p2
      obtain ⟨x9_2, x30_2, rfl, HA, HK2, HO_9, BK43, HB⟩ := hrel
      cases gk with
      | zero => exact absurd HA.out (by simp [impl_PutBlock.l0])
      | succ k2 =>
       have H := HA.out; clear HA; simp only [impl_PutBlock.l0] at H
       by_cases c17 : x30_2 < (l0.length : Int)
       ·rw [if_pos c17] at H
        have c17b0 : decide (x30_2 < (l0.length : Int)) = true := zX c17; clear c17
        by_cases c18 : 0 ≤ x30_2
        ·rw [if_pos c18] at H
         have c18b0 : decide (0 ≤ x30_2) = true := zX c18; clear c18
         by_cases c19 : x30_2 < (l0.length : Int)
         ·rw [if_pos c19] at H
          have c19b0 : decide (x30_2 < (l0.length : Int)) = true := zX c19; clear c19; replace H := zAF H; obtain ⟨⟨t44, t45, t46⟩, A47, H⟩ := H; replace H : (if x9_2.length < 2513169434916 then (impl_PutBlock.l0 k2 (x9_2 ++ [(⟨t44, t45, t46⟩ : S51)]) l0 (l0.length : Int) (wrap64 (x30_2 + 1)) t39 a1 l2) else (none)) = some (r1, r2) := H; have A20 := zA A47; clear A47
          by_cases c21 : x9_2.length < 2513169434916
          ·rw [if_pos c21] at H
           have LMc21 := zA c21; clear c21; obtain ⟨y48, hy48⟩ : ∃ y_ : List (S51), y_ = (x9_2 ++ [(⟨t44, t45, t46⟩ : S51)]) := ⟨_, rfl⟩; replace H : (impl_PutBlock.l0 k2 y48 l0 (l0.length : Int) (wrap64 (x30_2 + 1)) t39 a1 l2) = some (r1, r2) := by first | (rw [hy48]; with_reducible exact H) | (have H2_ := (Option.bind_some _ _).symm.trans H; rw [hy48]; with_reducible exact H2_) | (have H2_ := (Option.bind_some _ _).symm.trans H; with_reducible exact H2_) | with_reducible exact H | (rw [hy48]; exact H) | exact H
           have Ny48 := zA hy48; clear hy48; have H' := zA H; clear H; have p49 : 0 ≤ (x30_2 : Int) := zW (by first | (with_reducible assumption) | assumption); have q49 : x30_2 < (l0.length : Int) := zW (by first | (with_reducible assumption) | assumption); obtain ⟨ad49, A49_2, c49_2, e49, hx49_0, hx49_1, hx49_2, hl49_2, hi49_2⟩ := at_T51 HR0.out x30_2 p49 q49
           cases e49
           replace hx49_0 := (HB.out.cell (zB w _ hx49_0)).trans hx49_0; replace hx49_1 := (HB.out.cell (zB w _ hx49_1)).trans hx49_1; replace hx49_2 := (HB.out.cell (zB w _ hx49_2)).trans hx49_2; have HR49_2 := zA hi49_2; have HC49_2 := zA hl49_2; clear hi49_2 hl49_2; replace p49 := eq_true p49; replace q49 := eq_true q49; go_wp2_with (first | ((with_reducible refine gate_dst (N := 11) rfl ?_); (try (refine gate_guard (by rfl) ?_; dsimp only)); refine box_event ?hg (N := 11) ?hd (cs := #[.string (⟨#[]⟩ : ByteArray), .string (⟨#[]⟩ : ByteArray), .slice none 0 0]) (t := 51) ?hr ?_; (case hd => rfl); (case hg => rfl); (case hr => first | (go_simp; done) | (go_simp; rfl)); intro gb52 hg w22 hbox hb; have n0_ := zA (Kd.S_below (Kd.S_elderB (by (with_reducible repeat (first | apply Kd.S_alloc | apply Kd.S_drewN | apply Kd.S_drew)); exact HO_9.out) gb52 (Nat.le_of_eq hg.symm)) hb); have n1_ := zA (yE (g := gb43) (o := .cells #[.string t39, .string a1, .slice A2 l2.length c2] 51 (0, 0)) (by (with_reducible repeat (first | refine zL ?_ _ | refine zN ?_ | refine zM ?_ _)); exact BK43.out) hb); have n2_ := zA (zAD (by repeat (first | (with_reducible first | exact HB.out | apply zH | apply zF | apply zG | refine zI ?_ GE43.out) | exact HB.out)) hb); have n3_ := zA (hbox); have n4_ := zA ((by rw [hg]; exact (zAE (by repeat (first | (with_reducible first | exact HB.out | apply zH | apply zF | apply zG | refine zI ?_ GE43.out) | exact HB.out))) : w.heap.size ≤ gb52)); have n5_ := zA ((by rw [hg]; exact (zAE (by repeat (first | (with_reducible first | exact HB.out | apply zH | apply zF | apply zG | refine zI ?_ GE43.out) | exact HB.out))) : w.heap.size ≤ gb52)); have n6_ := zA ((by rw [hg]; exact zK (blk_lt (g := gb43) (o := .cells #[.string t39, .string a1, .slice A2 l2.length c2] 51 (0, 0)) (by (with_reducible repeat (first | refine zL ?_ _ | refine zN ?_ | refine zM ?_ _)); exact BK43.out)) : gb43 ≠ gb52)); have n7_ := zA ((by rw [hg]; exact Nat.ne_of_gt (blk_lt (g := gb43) (o := .cells #[.string t39, .string a1, .slice A2 l2.length c2] 51 (0, 0)) (by (with_reducible repeat (first | refine zL ?_ _ | refine zN ?_ | refine zM ?_ _)); exact BK43.out)) : gb52 ≠ gb43)); clear HO_9; clear BK43; clear HB; have HO_9 := n0_; have BK43 := n1_; have HB := n2_; have BK52 := n3_; have GW52 := n4_; have GE52 := n5_; have NB43_52 := n6_; have NB52_43 := n7_; clear n0_ n1_ n2_ n3_ n4_ n5_ n6_ n7_; clear hb hbox hg; have hnb23 := NB52_43.out; have hnc23 := NB43_52.out; have hcz24_0 := yL BK52.out 0 (.string (⟨#[]⟩ : ByteArray)) rfl; have hcz24_1 := yL BK52.out 1 (.string (⟨#[]⟩ : ByteArray)) rfl; have hcz24_2 := yL BK52.out 2 (.slice none 0 0) rfl; have hfz24_0 := zO BK52.out 0; have hfz24_1 := zO BK52.out 1; have hfz24_2 := zO BK52.out 2) | ((with_reducible refine yB (f := 34) rfl ?_); refine goesL_ (some 36) rfl rfl Try.func34 (by kernel_rfl) rfl #[.agg #[.string ((rd_T51 l0 x30_2).f0), .string ((rd_T51 l0 x30_2).f1), .slice A49_2 ((rd_T51 l0 x30_2).f2).length c49_2]] rfl (by (try simp only [zAA, zAB, zAC]); first | done | rfl | (simp only [zZ, zY]; rfl)) ?_; (with_reducible refine (impl_Block_copied.calls ((rd_T51 l0 x30_2).f0) ((rd_T51 l0 x30_2).f1) _ _ ((rd_T51 l0 x30_2).f2) t44 t45 t46 _ ?side1 ?side2 A20.out).mono ?_); (case side1 => exact yN HR49_2.out (by repeat (first | (with_reducible first | exact HB.out | apply zH | apply zF | apply zG | refine zI ?_ GE43.out | refine zI ?_ GE52.out) | exact HB.out))); (case side2 => exact HC49_2.out); rintro e w25 ⟨v53, rfl, ho0, hb⟩; refine ⟨_, rfl, ?_⟩; have n0_ := zA (Kd.S_elder' (by (with_reducible repeat (first | apply Kd.S_alloc | apply Kd.S_drewN | apply Kd.S_drew)); exact (Kd.S_mono (Kd.S_far (p := ⟨gb52, 2, none⟩) (Kd.S_far (p := ⟨gb52, 1, none⟩) (Kd.S_far (p := ⟨gb52, 0, none⟩) (Kd.S_mono HO_9.out (fun k_ hk => (⟨hk, hk.2⟩ : _ ∧ k_ ≠ gb52))) (fun _ hk => hk.2) (.string ((rd_T51 l0 x30_2).f0))) (fun _ hk => hk.2) (.string ((rd_T51 l0 x30_2).f1))) (fun _ hk => hk.2) (.slice A49_2 ((rd_T51 l0 x30_2).f2).length c49_2)) (fun _ h_ => h_.1))) (Kd.R_base ho0) hb); have n1_ := zA (Kd.R_lower ho0 (zAE (by repeat (first | (with_reducible first | exact HB.out | apply zH | apply zF | apply zG | refine zI ?_ GE43.out | refine zI ?_ GE52.out) | exact HB.out)))); have n2_ := zA (yE (g := gb43) (o := .cells #[.string t39, .string a1, .slice A2 l2.length c2] 51 (0, 0)) (by (with_reducible repeat (first | refine zL ?_ _ | refine zN ?_ | refine zM ?_ _)); refine blk_far ?_ NB43_52.out _; (with_reducible repeat (first | refine zL ?_ _ | refine zN ?_ | refine zM ?_ _)); refine blk_far ?_ NB43_52.out _; (with_reducible repeat (first | refine zL ?_ _ | refine zN ?_ | refine zM ?_ _)); refine blk_far ?_ NB43_52.out _; (with_reducible repeat (first | refine zL ?_ _ | refine zN ?_ | refine zM ?_ _)); exact BK43.out) hb); have n3_ := zA (yE (g := gb52) (o := .cells #[.string ((rd_T51 l0 x30_2).f0), .string ((rd_T51 l0 x30_2).f1), .slice A49_2 ((rd_T51 l0 x30_2).f2).length c49_2] 51 (0, 0)) (by (with_reducible repeat (first | refine zL ?_ _ | refine zN ?_ | refine zM ?_ _)); refine blk_put (cs := #[.string ((rd_T51 l0 x30_2).f0), .string ((rd_T51 l0 x30_2).f1), .slice none 0 0]) ?_ 2 _ rfl; (with_reducible repeat (first | refine zL ?_ _ | refine zN ?_ | refine zM ?_ _)); refine blk_put (cs := #[.string ((rd_T51 l0 x30_2).f0), .string (⟨#[]⟩ : ByteArray), .slice none 0 0]) ?_ 1 _ rfl; (with_reducible repeat (first | refine zL ?_ _ | refine zN ?_ | refine zM ?_ _)); refine blk_put (cs := #[.string (⟨#[]⟩ : ByteArray), .string (⟨#[]⟩ : ByteArray), .slice none 0 0]) ?_ 0 _ rfl; (with_reducible repeat (first | refine zL ?_ _ | refine zN ?_ | refine zM ?_ _)); exact BK52.out) hb); have n4_ := zA (zAD (by repeat (first | (with_reducible first | exact HB.out | apply zH | apply zF | apply zG | refine zI ?_ GE43.out | refine zI ?_ GE52.out) | exact HB.out)) hb); clear HO_9; clear BK43; clear BK52; clear HB; have HO_9 := n0_; have HO54 := n1_; have BK43 := n2_; have BK52 := n3_; have HB := n4_; clear n0_ n1_ n2_ n3_ n4_; (try clear hb); (try clear hk); (try clear ho0); obtain ⟨Ao27, co27, eo27⟩ := Kd.R_slice HO54.out; subst eo27) | ((with_reducible refine gate_builtin (b := .append) (xs := #[.tmp 34, .tmp 37]) rfl ?_); (try (refine gate_guard (by rfl) ?_; dsimp only)); at_builtin; refine Kd.S_append k51 (w0 := w) w.heap.size rfl (.tmp 34) (.tmp 37) 26 51 (.agg #[(.string ⟨#[]⟩), (.string ⟨#[]⟩), (.slice none 0 0)]) 56 rfl Try.underlying26 info51 rfl (by decide) (by omega) u9 x9_2 (⟨t44, t45, t46⟩ : S51) [.string t44, .string t45, .slice Ao27 t46.length co27] (fun k_ => k_ ≠ gb43 ∧ k_ ≠ gb52) (fun k_ => some k_ = (.slice Ao27 t46.length co27 : Value).ownBlock) rfl rfl ?aP (fun k_ hk_ => ((yC (ok' := fun k_ => ((fun k_ => k_ ≠ gb43 ∧ k_ ≠ gb52)) k_ ∧ some k_ ≠ (u9 : Value).ownBlock) (Kd.R_types (Kd.R_types (Kd.R_apart' (HO54.out) (Kd.S_typed HO_9.out) (by decide)) BK43.out (by decide)) BK52.out (by decide)) (fun k_ hk => ⟨⟨hk.1.2, hk.2⟩, hk.1.1.2⟩))).1 k_ hk_.symm) ?aF ?aO ?aB ?aS ?aL ?_; (case aP => exact k51_mkM _ _ _ (⟨t44, t45, t46⟩ : S51) (yC (Kd.R_tight rfl (yC (ok' := fun k_ => ((fun k_ => k_ ≠ gb43 ∧ k_ ≠ gb52)) k_ ∧ some k_ ≠ (u9 : Value).ownBlock) (Kd.R_types (Kd.R_types (Kd.R_apart' (HO54.out) (Kd.S_typed HO_9.out) (by decide)) BK43.out (by decide)) BK52.out (by decide)) (fun k_ hk => ⟨⟨hk.1.2, hk.2⟩, hk.1.1.2⟩))) (fun _ h_ => h_))); (case aB => exact (by repeat (first | (with_reducible first | exact HB.out | apply zH | apply zF | apply zG | refine zI ?_ GE43.out | refine zI ?_ GE52.out) | exact HB.out))); (case aF => exact (fun k_ hk => ⟨Kd.freshB (g := gb43) (o := .cells #[.string t39, .string a1, .slice A2 l2.length c2] 51 (0, 0)) (by (with_reducible repeat (first | refine zL ?_ _ | refine zN ?_ | refine zM ?_ _)); exact BK43.out) k_ hk, Kd.freshB (g := gb52) (o := .cells #[.string ((rd_T51 l0 x30_2).f0), .string ((rd_T51 l0 x30_2).f1), .slice A49_2 ((rd_T51 l0 x30_2).f2).length c49_2] 51 (0, 0)) (by (with_reducible repeat (first | refine zL ?_ _ | refine zN ?_ | refine zM ?_ _)); exact BK52.out) k_ hk⟩)); (case aO => exact (by (with_reducible repeat (first | apply Kd.S_alloc | apply Kd.S_drewN | apply Kd.S_drew)); exact Kd.S_mono HO_9.out (fun k_ hk => ⟨⟨hk.1.1, hk.1.2⟩, fun e_ => hk.2 e_⟩))); (case aS => exact (zAE (by repeat (first | (with_reducible first | exact HB.out | apply zH | apply zF | apply zG | refine zI ?_ GE43.out | refine zI ?_ GE52.out) | exact HB.out)))); (case aL => have := LMc21.out; omega); intro v55 w26 ho hb hg hat; rw [← Ny48.out] at ho; have n0_ := zA (blk_grown (g := gb43) (o := .cells #[.string t39, .string a1, .slice A2 l2.length c2] 51 (0, 0)) (by (with_reducible repeat (first | refine zL ?_ _ | refine zN ?_ | refine zM ?_ _)); exact BK43.out) hg (Kd.S_away HO_9.out (fun _ hk => hk.1.1))); have n1_ := zA (blk_grown (g := gb52) (o := .cells #[.string ((rd_T51 l0 x30_2).f0), .string ((rd_T51 l0 x30_2).f1), .slice A49_2 ((rd_T51 l0 x30_2).f2).length c49_2] 51 (0, 0)) (by (with_reducible repeat (first | refine zL ?_ _ | refine zN ?_ | refine zM ?_ _)); exact BK52.out) hg (Kd.S_away HO_9.out (fun _ hk => hk.1.2))); have n2_ := zA (hb); have n3_ := zA (ho); clear BK43; clear BK52; clear HB; clear HO_9; clear HO54; have BK43 := n0_; have BK52 := n1_; have HB := n2_; have HO56 := n3_; clear n0_ n1_ n2_ n3_; clear ho hb hg hat))
           go_roundg k2
           case measure => have := HJ3.out; have := HK2.out; omega
           case rel => exact ⟨(y48), (wrap64 (x30_2 + 1)), (by first | rfl | (simp; done) | (simp [*]; done) | (simp [bne]; done)), H', ⟨by have := HJ3.out; have := HK2.out; omega⟩, ⟨by (with_reducible repeat (first | apply Kd.S_alloc | apply Kd.S_drewN | apply Kd.S_drew)); exact Kd.S_mono HO56.out (fun _ hk => hk.1)⟩, ⟨by (with_reducible repeat (first | refine zL ?_ _ | refine zN ?_ | refine zM ?_ _)); exact BK43.out⟩, ⟨by repeat (first | (with_reducible first | exact HB.out | apply zH | apply zF | apply zG | refine zI ?_ GE43.out | refine zI ?_ GE52.out) | exact HB.out)⟩⟩
          ·rw [if_neg c21] at H
           exact absurd H (by simp)
         ·rw [if_neg c19] at H
          exact absurd H (by simp)
        ·rw [if_neg c18] at H
         exact absurd H (by simp)
       ·rw [if_neg c17] at H
        have c17b0 : decide (x30_2 < (l0.length : Int)) = false := decide_eq_false c17; clear c17; replace H := zAF H; obtain ⟨⟨t57, t58, t59⟩, A60, H⟩ := H; replace H : (if x9_2.length < 2513169434916 then (some ((x9_2 ++ [(⟨t57, t58, t59⟩ : S51)]), true)) else (none)) = some (r1, r2) := H; have A28 := zA A60; clear A60
        by_cases c29 : x9_2.length < 2513169434916
        ·rw [if_pos c29] at H
         have LMc29 := zA c29; clear c29; obtain ⟨y61, hy61⟩ : ∃ y_ : List (S51), y_ = (x9_2 ++ [(⟨t57, t58, t59⟩ : S51)]) := ⟨_, rfl⟩; replace H : (some (y61, true)) = some (r1, r2) := by first | (rw [hy61]; with_reducible exact H) | (have H2_ := (Option.bind_some _ _).symm.trans H; rw [hy61]; with_reducible exact H2_) | (have H2_ := (Option.bind_some _ _).symm.trans H; with_reducible exact H2_) | with_reducible exact H | (rw [hy61]; exact H) | exact H
         have Ny61 := zA hy61; clear hy61; simp only [Option.some.injEq, Prod.mk.injEq] at H; obtain ⟨rfl, rfl⟩ := H; have hcz30_0 := yL BK43.out 0 (.string t39) rfl; have hcz30_1 := yL BK43.out 1 (.string a1) rfl; have hcz30_2 := yL BK43.out 2 (.slice A2 l2.length c2) rfl; have hfz30_0 := zO BK43.out 0; have hfz30_1 := zO BK43.out 1; have hfz30_2 := zO BK43.out 2; go_wp2_with (first | ((with_reducible refine yB (f := 34) rfl ?_); refine goesL_ (some 42) rfl rfl Try.func34 (by kernel_rfl) rfl #[.agg #[.string t39, .string a1, .slice A2 l2.length c2]] rfl (by (try simp only [zAA, zAB, zAC]); first | done | rfl | (simp only [zZ, zY]; rfl)) ?_; (with_reducible refine (impl_Block_copied.calls t39 a1 _ _ l2 t57 t58 t59 _ ?side1 ?side2 A28.out).mono ?_); (case side1 => repeat (first | exact (yN HR2.out HB.out) | (with_reducible first | refine zT ?_ _ | refine zU ?_ _ | refine zV ?_))); (case side2 => exact HC2.out); rintro e w31 ⟨v62, rfl, ho0, hb⟩; refine ⟨_, rfl, ?_⟩; have n0_ := zA (Kd.S_elder' (by (with_reducible repeat (first | apply Kd.S_alloc | apply Kd.S_drewN | apply Kd.S_drew)); exact HO_9.out) (Kd.R_base ho0) hb); have n1_ := zA (Kd.R_lower ho0 (zAE (by repeat (first | (with_reducible first | exact HB.out | apply zH | apply zF | apply zG | refine zI ?_ GE43.out) | exact HB.out)))); have n2_ := zA (yE (g := gb43) (o := .cells #[.string t39, .string a1, .slice A2 l2.length c2] 51 (0, 0)) (by (with_reducible repeat (first | refine zL ?_ _ | refine zN ?_ | refine zM ?_ _)); exact BK43.out) hb); have n3_ := zA (zAD (by repeat (first | (with_reducible first | exact HB.out | apply zH | apply zF | apply zG | refine zI ?_ GE43.out) | exact HB.out)) hb); clear HO_9; clear BK43; clear HB; have HO_9 := n0_; have HO63 := n1_; have BK43 := n2_; have HB := n3_; clear n0_ n1_ n2_ n3_; (try clear hb); (try clear ho0); obtain ⟨Ao33, co33, eo33⟩ := Kd.R_slice HO63.out; subst eo33) | ((with_reducible refine gate_builtin (b := .append) (xs := #[.tmp 40, .tmp 43]) rfl ?_); (try (refine gate_guard (by rfl) ?_; dsimp only)); at_builtin; refine Kd.S_append k51 (w0 := w) w.heap.size rfl (.tmp 40) (.tmp 43) 26 51 (.agg #[(.string ⟨#[]⟩), (.string ⟨#[]⟩), (.slice none 0 0)]) 56 rfl Try.underlying26 info51 rfl (by decide) (by omega) u9 x9_2 (⟨t57, t58, t59⟩ : S51) [.string t57, .string t58, .slice Ao33 t59.length co33] (fun k_ => k_ ≠ gb43) (fun k_ => some k_ = (.slice Ao33 t59.length co33 : Value).ownBlock) rfl rfl ?aP (fun k_ hk_ => ((yC (ok' := fun k_ => ((fun k_ => k_ ≠ gb43)) k_ ∧ some k_ ≠ (u9 : Value).ownBlock) (Kd.R_types (Kd.R_apart' (HO63.out) (Kd.S_typed HO_9.out) (by decide)) BK43.out (by decide)) (fun k_ hk => ⟨hk.2, hk.1.2⟩))).1 k_ hk_.symm) ?aF ?aO ?aB ?aS ?aL ?_; (case aP => exact k51_mkM _ _ _ (⟨t57, t58, t59⟩ : S51) (yC (Kd.R_tight rfl (yC (ok' := fun k_ => ((fun k_ => k_ ≠ gb43)) k_ ∧ some k_ ≠ (u9 : Value).ownBlock) (Kd.R_types (Kd.R_apart' (HO63.out) (Kd.S_typed HO_9.out) (by decide)) BK43.out (by decide)) (fun k_ hk => ⟨hk.2, hk.1.2⟩))) (fun _ h_ => h_))); (case aB => exact (by repeat (first | (with_reducible first | exact HB.out | apply zH | apply zF | apply zG | refine zI ?_ GE43.out) | exact HB.out))); (case aF => exact (fun k_ hk => Kd.freshB (g := gb43) (o := .cells #[.string t39, .string a1, .slice A2 l2.length c2] 51 (0, 0)) (by (with_reducible repeat (first | refine zL ?_ _ | refine zN ?_ | refine zM ?_ _)); exact BK43.out) k_ hk)); (case aO => exact (by (with_reducible repeat (first | apply Kd.S_alloc | apply Kd.S_drewN | apply Kd.S_drew)); exact Kd.S_mono HO_9.out (fun k_ hk => ⟨hk.1, fun e_ => hk.2 e_⟩))); (case aS => exact (zAE (by repeat (first | (with_reducible first | exact HB.out | apply zH | apply zF | apply zG | refine zI ?_ GE43.out) | exact HB.out)))); (case aL => have := LMc29.out; omega); intro v65 w32 ho hb hg hat; rw [← Ny61.out] at ho; have n0_ := zA (blk_grown (g := gb43) (o := .cells #[.string t39, .string a1, .slice A2 l2.length c2] 51 (0, 0)) (by (with_reducible repeat (first | refine zL ?_ _ | refine zN ?_ | refine zM ?_ _)); exact BK43.out) hg (Kd.S_away HO_9.out (fun _ hk => hk.1))); have n1_ := zA (hb); have n2_ := zA (ho); clear BK43; clear HB; clear HO_9; clear HO63; have BK43 := n0_; have HB := n1_; have HO66 := n2_; clear n0_ n1_ n2_; clear ho hb hg hat)); go_ret2; exact ⟨_, by first | rfl | (simp <;> rfl) | (simp [*] <;> rfl), by (with_reducible repeat (first | apply Kd.S_alloc | apply Kd.S_drewN | apply Kd.S_drew)); exact Kd.S_mono HO66.out (fun _ hk => trivial), by repeat (first | (with_reducible first | exact HB.out | apply zH | apply zF | apply zG | refine zI ?_ GE43.out) | exact HB.out)⟩
        ·rw [if_neg c29] at H
         exact absurd H (by simp)
    ·replace c12 := yO c12
     subst c12; have H1 : (some (([] : List (S51)), false)) = some (r1, r2) := by rw [if_neg (show ¬ (false = true) by decide)] at H; exact H
     clear H; have H := H1; clear H1; simp only [Option.some.injEq, Prod.mk.injEq] at H; obtain ⟨rfl, rfl⟩ := H; go_wp2_with (first | ((with_reducible refine yB (f := 32) rfl ?_); refine goesL_ (some 21) rfl rfl Try.func32 (by kernel_rfl) rfl #[.slice A0 l0.length c0] rfl (by (try simp only [zAA, zAB, zAC]); first | done | rfl | (simp only [zZ, zY]; rfl)) ?_; (with_reducible refine (impl_lastDigest.calls kj3 _ _ l0 t39 _ ?side1 ?side2 A10.out).mono ?_); (case side1 => repeat (first | exact (yN HR0.out HB.out) | (with_reducible first | refine zT ?_ _ | refine zU ?_ _ | refine zV ?_))); (case side2 => exact HC0.out); rintro e w34 ⟨rfl, hb⟩; refine ⟨_, rfl, ?_⟩; have n0_ := zA (zAD (by (with_reducible repeat first | exact HB.out | apply zH | apply zF | apply zG) <;> exact HB.out) hb); clear HB; have HB := n0_; clear n0_; (try clear hb)) | ((with_reducible refine gate_dst (N := 8) rfl ?_); (try (refine gate_guard (by rfl) ?_; dsimp only)); refine box_event ?hg (N := 8) ?hd (cs := #[.string (⟨#[]⟩ : ByteArray), .string (⟨#[]⟩ : ByteArray), .slice none 0 0]) (t := 51) ?hr ?_; (case hd => rfl); (case hg => rfl); (case hr => first | (go_simp; done) | (go_simp; rfl)); intro gb43 hg w35 hbox hb; have n0_ := zA (zAD (by (with_reducible repeat first | exact HB.out | apply zH | apply zF | apply zG) <;> exact HB.out) hb); have n1_ := zA (hbox); have n2_ := zA ((by rw [hg]; exact (zAE (by (with_reducible repeat first | exact HB.out | apply zH | apply zF | apply zG) <;> exact HB.out)) : w.heap.size ≤ gb43)); have n3_ := zA ((by rw [hg]; exact (zAE (by (with_reducible repeat first | exact HB.out | apply zH | apply zF | apply zG) <;> exact HB.out)) : w.heap.size ≤ gb43)); clear HB; have HB := n0_; have BK43 := n1_; have GW43 := n2_; have GE43 := n3_; clear n0_ n1_ n2_ n3_; clear hb hbox hg; have hcz36_0 := yL BK43.out 0 (.string (⟨#[]⟩ : ByteArray)) rfl; have hcz36_1 := yL BK43.out 1 (.string (⟨#[]⟩ : ByteArray)) rfl; have hcz36_2 := yL BK43.out 2 (.slice none 0 0) rfl; have hfz36_0 := zO BK43.out 0; have hfz36_1 := zO BK43.out 1; have hfz36_2 := zO BK43.out 2) | ((with_reducible refine yB (f := 33) rfl ?_); refine goesL_ (some 26) rfl rfl Try.func33 (by kernel_rfl) rfl #[.agg #[.string t39, .string a1, .slice A2 l2.length c2]] rfl (by (try simp only [zAA, zAB, zAC]); first | done | rfl | (simp only [zZ, zY]; rfl)) ?_; (with_reducible refine (impl_GoodBlock.calls kj3 t39 a1 _ _ l2 false _ ?side1 ?side2 A11.out).mono ?_); (case side1 => exact yN HR2.out (by repeat (first | (with_reducible first | exact HB.out | apply zH | apply zF | apply zG | refine zI ?_ GE43.out) | exact HB.out))); (case side2 => exact HC2.out); rintro e w37 ⟨rfl, hb⟩; refine ⟨_, rfl, ?_⟩; have n0_ := zA (yE (g := gb43) (o := .cells #[.string t39, .string a1, .slice A2 l2.length c2] 51 (0, 0)) (by (with_reducible repeat (first | refine zL ?_ _ | refine zN ?_ | refine zM ?_ _)); refine blk_put (cs := #[.string t39, .string a1, .slice none 0 0]) ?_ 2 _ rfl; (with_reducible repeat (first | refine zL ?_ _ | refine zN ?_ | refine zM ?_ _)); refine blk_put (cs := #[.string t39, .string (⟨#[]⟩ : ByteArray), .slice none 0 0]) ?_ 1 _ rfl; (with_reducible repeat (first | refine zL ?_ _ | refine zN ?_ | refine zM ?_ _)); refine blk_put (cs := #[.string (⟨#[]⟩ : ByteArray), .string (⟨#[]⟩ : ByteArray), .slice none 0 0]) ?_ 0 _ rfl; (with_reducible repeat (first | refine zL ?_ _ | refine zN ?_ | refine zM ?_ _)); exact BK43.out) hb); have n1_ := zA (zAD (by repeat (first | (with_reducible first | exact HB.out | apply zH | apply zF | apply zG | refine zI ?_ GE43.out) | exact HB.out)) hb); clear BK43; clear HB; have BK43 := n0_; have HB := n1_; clear n0_ n1_; (try clear hb))); go_ret2; exact ⟨_, by first | rfl | (simp <;> rfl) | (simp [*] <;> rfl), by first | exact Kd.S_nil _ _ _ _ _ | exact Kd.N_nil _ _ _ _ _ | exact Kd.V_nil _ _ _ _ _ | exact Kd.Q_nil _ _ _ _ _ | exact Kd.R_nil _ _ _ _ _, by repeat (first | (with_reducible first | exact HB.out | apply zH | apply zF | apply zG | refine zI ?_ GE43.out) | exact HB.out)⟩
def laws_eqStringS.l0 : Nat → List ByteArray → List ByteArray → Int → Option (Bool)
 | 0, _, _, _ => none
 | k + 1, x0, x1, x5 => if x5 < (x0.length : Int) then (if 0 ≤ x5 then (if x5 < (x1.length : Int) then (if (rdOf ByteArray.empty x0 x5).toList = (rdOf ByteArray.empty x1 x5).toList then (laws_eqStringS.l0 k x0 x1 (wrap64 (x5 + 1))) else (some false)) else (none)) else (none)) else (some true)
def laws_eqStringS.f (k : Nat) (l0 : List ByteArray) (l1 : List ByteArray) : Option (Bool) := if (l0.length : Int) = (l1.length : Int) then (laws_eqStringS.l0 k l0 l1 0) else (some false)
theorem laws_eqStringS.calls (k : Nat) (A0 : Option Addr) (c0 : Nat) (l0 : List ByteArray) (A1 : Option Addr) (c1 : Nat) (l1 : List ByteArray) (r : Bool) (w : World) (hr0 : Kd.C Kd.string w A0 l0.length l0) (hc0 : l0.length ≤ c0) (hr1 : Kd.C Kd.string w A1 l1.length l1) (hc1 : l1.length ≤ c1) (h : laws_eqStringS.f k l0 l1 = some r) (hr_ : Aside0 (r = true)) :
  Calls Try.prog 12 #[.slice A0 l0.length c0, .slice A1 l1.length c1] w fun e w' => e = .returned (.bool r) ∧ Drawn0 w w' := by
 have HR0 := zA hr0; have HC0 := zA hc0; clear hr0 hc0; have HR1 := zA hr1; have HC1 := zA hc1; clear hr1 hc1; have H : (if (l0.length : Int) = (l1.length : Int) then (laws_eqStringS.l0 k l0 l1 0) else (some false)) = some r := h; clear h
 by_cases c3 : (l0.length : Int) = (l1.length : Int)
 ·rw [if_pos c3] at H
  have c3b0 : ((l0.length : Int) == (l1.length : Int)) = true := beq_iff_eq.mpr c3; have c3b1 : ((l0.length : Int) != (l1.length : Int)) = false := bne_eq_false_iff_eq.mpr c3; have c3b2 : (l0.length == l1.length) = true := by first | simpa using c3 | (simp at c3 ⊢; omega)
  clear c3; have H' := zA H; clear H; go_enter Try.func12, Try.ntmps12; go_wp2
  repeat (go_quiet (fail); try go_wp2)
  go_loopg [5] k (fun kq v5 w' => ∃ (x5_1 : Int), v5 = .int .i64 x5_1 ∧ Aside0 (laws_eqStringS.l0 kq l0 l1 x5_1 = some r) ∧ Aside0 (kq ≤ k) ∧ Drawn0 w w')
  case atStart => exact ⟨(0), (by first | rfl | (simp; done) | (simp [*]; done) | (simp [bne]; done)), H', ⟨Nat.le_refl _⟩, by repeat (first | exact Drawn0.refl _ | apply Drawn0.step)⟩
  case round =>
   clear H'
   try clear c1
   try clear p2
   try clear c3
   try clear c3b0
   try clear c3b1
   try clear c3b2
   obtain ⟨x5_1, rfl, HA, HK1, ⟨m1, rfl⟩⟩ := hrel
   cases gk with
   | zero => exact absurd HA.out (by simp [laws_eqStringS.l0])
   | succ k1 =>
    have H := HA.out; clear HA; simp only [laws_eqStringS.l0] at H
    by_cases c4 : x5_1 < (l0.length : Int)
    ·rw [if_pos c4] at H
     have c4b0 : decide (x5_1 < (l0.length : Int)) = true := zX c4; clear c4
     by_cases c5 : 0 ≤ x5_1
     ·rw [if_pos c5] at H
      have c5b0 : decide (0 ≤ x5_1) = true := zX c5; clear c5
      by_cases c6 : x5_1 < (l1.length : Int)
      ·rw [if_pos c6] at H
       have c6b0 : decide (x5_1 < (l1.length : Int)) = true := zX c6; clear c6
       by_cases c7 : (rdOf ByteArray.empty l0 x5_1).toList = (rdOf ByteArray.empty l1 x5_1).toList
       ·rw [if_pos c7] at H
        have c7b0 : ((rdOf ByteArray.empty l0 x5_1).toList == (rdOf ByteArray.empty l1 x5_1).toList) = true := beq_iff_eq.mpr c7; have c7b1 : ((rdOf ByteArray.empty l0 x5_1).toList != (rdOf ByteArray.empty l1 x5_1).toList) = false := bne_eq_false_iff_eq.mpr c7; clear c7; have H' := zA H; clear H; have p10 : 0 ≤ (x5_1 : Int) := zW (by first | (with_reducible assumption) | assumption); have q10 : x5_1 < (l0.length : Int) := zW (by first | (with_reducible assumption) | assumption); obtain ⟨ad10, e10, hx10_0⟩ := Kd.at_string HR0.out x5_1 p10 q10
        cases e10
        replace p10 := eq_true p10; replace q10 := eq_true q10; have p11 : 0 ≤ (x5_1 : Int) := zW (by first | (with_reducible assumption) | assumption); have q11 : x5_1 < (l1.length : Int) := zW (by first | (with_reducible assumption) | assumption); obtain ⟨ad11, e11, hx11_0⟩ := Kd.at_string HR1.out x5_1 p11 q11
        cases e11
        replace p11 := eq_true p11; replace q11 := eq_true q11; go_wp2
        repeat (go_quiet (fail); try go_wp2)
        go_roundg k1
        case measure => have := HK1.out; omega
        case rel => exact ⟨(wrap64 (x5_1 + 1)), (by first | rfl | (simp; done) | (simp [*]; done) | (simp [bne]; done)), H', ⟨by have := HK1.out; omega⟩, by repeat (first | exact Drawn0.refl _ | apply Drawn0.step)⟩
       ·rw [if_neg c7] at H
        have c7b0 : ((rdOf ByteArray.empty l0 x5_1).toList == (rdOf ByteArray.empty l1 x5_1).toList) = false := beq_eq_false_iff_ne.mpr c7; have c7b1 : ((rdOf ByteArray.empty l0 x5_1).toList != (rdOf ByteArray.empty l1 x5_1).toList) = true := bne_iff_ne.mpr c7; exact absurd ((yM H).trans hr_.out) (by decide)
      ·rw [if_neg c6] at H
       exact absurd H (by simp)
     ·rw [if_neg c5] at H
      exact absurd H (by simp)
    ·rw [if_neg c4] at H
     have c4b0 : decide (x5_1 < (l0.length : Int)) = false := decide_eq_false c4; clear c4; obtain rfl := yM H; go_wp2
     repeat (go_quiet (fail); try go_wp2)
     go_ret; exact ⟨by first | rfl | (simp; done) | (simp [*]; done) | (simp [bne]; done), by repeat (first | exact Drawn0.refl _ | apply Drawn0.step)⟩
 ·rw [if_neg c3] at H
  have c3b0 : ((l0.length : Int) == (l1.length : Int)) = false := beq_eq_false_iff_ne.mpr c3; have c3b1 : ((l0.length : Int) != (l1.length : Int)) = true := bne_iff_ne.mpr c3; have c3b2 : (l0.length == l1.length) = false := by first | simpa using c3 | (simp at c3 ⊢; omega)
  exact absurd ((yM H).trans hr_.out) (by decide)
def laws_eqBlock.f (k : Nat) (a0_0 : ByteArray) (a0_1 : ByteArray) (l0_2 : List ByteArray) (a1_0 : ByteArray) (a1_1 : ByteArray) (l1_2 : List ByteArray) : Option (Bool) := if a0_0.toList = a1_0.toList then (if a0_1.toList = a1_1.toList then ((laws_eqStringS.f k l0_2 l1_2).bind fun t10 => (if t10 = true then (some true) else (some false))) else (some false)) else (some false)
theorem laws_eqBlock.calls (k : Nat) (a0_0 : ByteArray) (a0_1 : ByteArray) (A0_2 : Option Addr) (c0_2 : Nat) (l0_2 : List ByteArray) (a1_0 : ByteArray) (a1_1 : ByteArray) (A1_2 : Option Addr) (c1_2 : Nat) (l1_2 : List ByteArray) (r : Bool) (w : World) (hr0_2 : Kd.C Kd.string w A0_2 l0_2.length l0_2) (hc0_2 : l0_2.length ≤ c0_2) (hr1_2 : Kd.C Kd.string w A1_2 l1_2.length l1_2) (hc1_2 : l1_2.length ≤ c1_2) (h : laws_eqBlock.f k a0_0 a0_1 l0_2 a1_0 a1_1 l1_2 = some r) (hr_ : Aside0 (r = true)) :
  Calls Try.prog 35 #[.agg #[.string a0_0, .string a0_1, .slice A0_2 l0_2.length c0_2], .agg #[.string a1_0, .string a1_1, .slice A1_2 l1_2.length c1_2]] w fun e w' => e = .returned (.bool r) ∧ Below w.heap.size w w' := by
 have hu51 := Try.underlying51; have HR0_2 := zA hr0_2; have HC0_2 := zA hc0_2; clear hr0_2 hc0_2; have HR1_2 := zA hr1_2; have HC1_2 := zA hc1_2; clear hr1_2 hc1_2; have HB := zA (Below.refl w.heap.size w); have H : (if a0_0.toList = a1_0.toList then (if a0_1.toList = a1_1.toList then ((laws_eqStringS.f k l0_2 l1_2).bind fun t12 => (if t12 = true then (some true) else (some false))) else (some false)) else (some false)) = some r := h; clear h
 by_cases c3 : a0_0.toList = a1_0.toList
 ·rw [if_pos c3] at H
  have c3b0 : (a0_0.toList == a1_0.toList) = true := beq_iff_eq.mpr c3; have c3b1 : (a0_0.toList != a1_0.toList) = false := bne_eq_false_iff_eq.mpr c3; clear c3
  by_cases c4 : a0_1.toList = a1_1.toList
  ·rw [if_pos c4] at H
   have c4b0 : (a0_1.toList == a1_1.toList) = true := beq_iff_eq.mpr c4; have c4b1 : (a0_1.toList != a1_1.toList) = false := bne_eq_false_iff_eq.mpr c4; clear c4; replace H := zAF H; obtain ⟨t12, A50, H⟩ := H; replace H : (if t12 = true then (some true) else (some false)) = some r := H; have A5 := zA A50; clear A50
   by_cases c6 : t12 = true
   ·subst c6
    have H1 : (some true) = some r := by rw [if_pos rfl] at H; exact H
    clear H; have H := H1; clear H1; obtain rfl := yM H; go_enter Try.func35, Try.ntmps35; go_wp2_with (first | ((with_reducible refine gate_dst (N := 2) rfl ?_); refine box_event ?hg (N := 2) ?hd (cs := #[.string a0_0, .string a0_1, .slice A0_2 l0_2.length c0_2]) (t := 51) ?hr ?_; (case hd => rfl); (case hg => rfl); (case hr => first | (go_simp; done) | (go_simp; rfl)); intro gb13 hg w7 hbox hb; have n0_ := zA (zAD (by (with_reducible repeat first | exact HB.out | apply zH | apply zF | apply zG) <;> exact HB.out) hb); have n1_ := zA (hbox); have n2_ := zA ((by rw [hg]; exact (zAE (by (with_reducible repeat first | exact HB.out | apply zH | apply zF | apply zG) <;> exact HB.out)) : w.heap.size ≤ gb13)); have n3_ := zA ((by rw [hg]; exact (zAE (by (with_reducible repeat first | exact HB.out | apply zH | apply zF | apply zG) <;> exact HB.out)) : w.heap.size ≤ gb13)); clear HB; have HB := n0_; have BK13 := n1_; have GW13 := n2_; have GE13 := n3_; clear n0_ n1_ n2_ n3_; clear hb hbox hg) | ((with_reducible refine gate_dst (N := 3) rfl ?_); refine box_event ?hg (N := 3) ?hd (cs := #[.string a1_0, .string a1_1, .slice A1_2 l1_2.length c1_2]) (t := 51) ?hr ?_; (case hd => rfl); (case hg => rfl); (case hr => first | (go_simp; done) | (go_simp; rfl)); intro gb14 hg w8 hbox hb; have n0_ := zA (yE (g := gb13) (o := .cells #[.string a0_0, .string a0_1, .slice A0_2 l0_2.length c0_2] 51 (0, 0)) (by (with_reducible repeat (first | refine zL ?_ _ | refine zN ?_ | refine zM ?_ _)); exact BK13.out) hb); have n1_ := zA (zAD (by repeat (first | (with_reducible first | exact HB.out | apply zH | apply zF | apply zG | refine zI ?_ GE13.out) | exact HB.out)) hb); have n2_ := zA (hbox); have n3_ := zA ((by rw [hg]; exact (zAE (by repeat (first | (with_reducible first | exact HB.out | apply zH | apply zF | apply zG | refine zI ?_ GE13.out) | exact HB.out))) : w.heap.size ≤ gb14)); have n4_ := zA ((by rw [hg]; exact (zAE (by repeat (first | (with_reducible first | exact HB.out | apply zH | apply zF | apply zG | refine zI ?_ GE13.out) | exact HB.out))) : w.heap.size ≤ gb14)); have n5_ := zA ((by rw [hg]; exact zK (blk_lt (g := gb13) (o := .cells #[.string a0_0, .string a0_1, .slice A0_2 l0_2.length c0_2] 51 (0, 0)) (by (with_reducible repeat (first | refine zL ?_ _ | refine zN ?_ | refine zM ?_ _)); exact BK13.out)) : gb13 ≠ gb14)); have n6_ := zA ((by rw [hg]; exact Nat.ne_of_gt (blk_lt (g := gb13) (o := .cells #[.string a0_0, .string a0_1, .slice A0_2 l0_2.length c0_2] 51 (0, 0)) (by (with_reducible repeat (first | refine zL ?_ _ | refine zN ?_ | refine zM ?_ _)); exact BK13.out)) : gb14 ≠ gb13)); clear BK13; clear HB; have BK13 := n0_; have HB := n1_; have BK14 := n2_; have GW14 := n3_; have GE14 := n4_; have NB13_14 := n5_; have NB14_13 := n6_; clear n0_ n1_ n2_ n3_ n4_ n5_ n6_; clear hb hbox hg; have hnb9 := NB13_14.out; have hnc9 := NB14_13.out; have hcz10_0 := yL BK13.out 0 (.string a0_0) rfl; have hcz10_1 := yL BK13.out 1 (.string a0_1) rfl; have hcz10_2 := yL BK13.out 2 (.slice A0_2 l0_2.length c0_2) rfl; have hfz10_0 := zO BK13.out 0; have hfz10_1 := zO BK13.out 1; have hfz10_2 := zO BK13.out 2; have hcz11_0 := yL BK14.out 0 (.string a1_0) rfl; have hcz11_1 := yL BK14.out 1 (.string a1_1) rfl; have hcz11_2 := yL BK14.out 2 (.slice A1_2 l1_2.length c1_2) rfl; have hfz11_0 := zO BK14.out 0; have hfz11_1 := zO BK14.out 1; have hfz11_2 := zO BK14.out 2) | ((with_reducible refine yB (f := 12) rfl ?_); refine goesL_ (some 19) rfl rfl Try.func12 (by kernel_rfl) rfl #[.slice A0_2 l0_2.length c0_2, .slice A1_2 l1_2.length c1_2] rfl (by (try simp only [zAA, zAB, zAC]); first | done | rfl | (simp only [zZ, zY]; rfl)) ?_; (with_reducible refine (laws_eqStringS.calls k _ _ l0_2 _ _ l1_2 true _ ?side1 ?side2 ?side3 ?side4 A5.out ⟨rfl⟩).mono ?_); (case side1 => repeat (first | exact (yN HR0_2.out HB.out) | (with_reducible first | refine zT ?_ _ | refine zU ?_ _ | refine zV ?_))); (case side2 => exact HC0_2.out); (case side3 => repeat (first | exact (yN HR1_2.out HB.out) | (with_reducible first | refine zT ?_ _ | refine zU ?_ _ | refine zV ?_))); (case side4 => exact HC1_2.out); rintro e w' ⟨rfl, ⟨nd, rfl⟩⟩; refine ⟨_, rfl, ?_⟩)); go_ret; exact ⟨by first | rfl | (simp <;> rfl) | (simp [*] <;> rfl), by repeat (first | (with_reducible first | exact HB.out | apply zH | apply zF | apply zG | refine zI ?_ GE13.out | refine zI ?_ GE14.out) | exact HB.out)⟩
   ·replace c6 := yO c6
    subst c6; have H1 : (some false) = some r := by rw [if_neg (show ¬ (false = true) by decide)] at H; exact H
    clear H; have H := H1; clear H1; exact absurd ((yM H).trans hr_.out) (by decide)
  ·rw [if_neg c4] at H
   have c4b0 : (a0_1.toList == a1_1.toList) = false := beq_eq_false_iff_ne.mpr c4; have c4b1 : (a0_1.toList != a1_1.toList) = true := bne_iff_ne.mpr c4; exact absurd ((yM H).trans hr_.out) (by decide)
 ·rw [if_neg c3] at H
  have c3b0 : (a0_0.toList == a1_0.toList) = false := beq_eq_false_iff_ne.mpr c3; have c3b1 : (a0_0.toList != a1_0.toList) = true := bne_iff_ne.mpr c3; exact absurd ((yM H).trans hr_.out) (by decide)
def laws_eqBlockS.l0 : Nat → List (S51) → List (S51) → Int → Option (Bool)
 | 0, _, _, _ => none
 | k + 1, x0, x1, x5 => if x5 < (x0.length : Int) then (if 0 ≤ x5 then (if x5 < (x1.length : Int) then ((laws_eqBlock.f k ((rd_T51 x0 x5).f0) ((rd_T51 x0 x5).f1) ((rd_T51 x0 x5).f2) ((rd_T51 x1 x5).f0) ((rd_T51 x1 x5).f1) ((rd_T51 x1 x5).f2)).bind fun t10 => (if t10 = true then (laws_eqBlockS.l0 k x0 x1 (wrap64 (x5 + 1))) else (some false))) else (none)) else (none)) else (some true)
def laws_eqBlockS.f (k : Nat) (l0 : List (S51)) (l1 : List (S51)) : Option (Bool) := if (l0.length : Int) = (l1.length : Int) then (laws_eqBlockS.l0 k l0 l1 0) else (some false)
def laws_eqBlockS.T6 : Bool × List (List Nat × List Nat) := (true, [([], []), ([], []), ([0, 1], [0, 1]), ([2], [2]), ([], []), ([], []), ([4, 5], [4, 5]), ([6], [6]), ([3, 7], [3, 7]), ([8], [8])])
def laws_eqBlockS.B6 : List Nat := [0, 0, 3, 7, 0, 0, 48, 112, 255, 511]
theorem laws_eqBlockS.tab6 : rtab .any (opsOf Try.f11 6) = laws_eqBlockS.T6 := by kernel_rfl
theorem laws_eqBlockS.bits6 : waitsOk laws_eqBlockS.T6.2 laws_eqBlockS.B6 = true := by kernel_rfl
theorem laws_eqBlockS.calls (k : Nat) (A0 : Option Addr) (c0 : Nat) (l0 : List (S51)) (A1 : Option Addr) (c1 : Nat) (l1 : List (S51)) (r : Bool) (w : World) (hr0 : Kd.C k51 w A0 l0.length l0) (hc0 : l0.length ≤ c0) (hr1 : Kd.C k51 w A1 l1.length l1) (hc1 : l1.length ≤ c1) (h : laws_eqBlockS.f k l0 l1 = some r) (hr_ : Aside0 (r = true)) :
  Calls Try.prog 11 #[.slice A0 l0.length c0, .slice A1 l1.length c1] w fun e w' => e = .returned (.bool r) ∧ Below w.heap.size w w' := by
 have hu51 := Try.underlying51; have HR0 := zA hr0; have HC0 := zA hc0; clear hr0 hc0; have HR1 := zA hr1; have HC1 := zA hc1; clear hr1 hc1; have HB := zA (Below.refl w.heap.size w); have H : (if (l0.length : Int) = (l1.length : Int) then (laws_eqBlockS.l0 k l0 l1 0) else (some false)) = some r := h; clear h
 by_cases c3 : (l0.length : Int) = (l1.length : Int)
 ·rw [if_pos c3] at H
  have c3b0 : ((l0.length : Int) == (l1.length : Int)) = true := beq_iff_eq.mpr c3; have c3b1 : ((l0.length : Int) != (l1.length : Int)) = false := bne_eq_false_iff_eq.mpr c3; have c3b2 : (l0.length == l1.length) = true := by first | simpa using c3 | (simp at c3 ⊢; omega)
  clear c3; have H' := zA H; clear H; go_enter Try.func11, Try.ntmps11; go_wp2; go_loopg [5] k (fun kq v5 w' => ∃ (x5_1 : Int), v5 = .int .i64 x5_1 ∧ Aside0 (laws_eqBlockS.l0 kq l0 l1 x5_1 = some r) ∧ Aside0 (kq ≤ k) ∧ Aside0 (Below w.heap.size w w'))
  case atStart => exact ⟨(0), (by first | rfl | (simp; done) | (simp [*]; done) | (simp [bne]; done)), H', ⟨Nat.le_refl _⟩, ⟨by (with_reducible repeat first | exact HB.out | apply zH | apply zF | apply zG) <;> exact HB.out⟩⟩
  case round =>
   clear H'
   try clear c1
   try clear p2
   try clear c3
   try clear c3b0
   try clear c3b1
   try clear c3b2
   obtain ⟨x5_1, rfl, HA, HK1, HB⟩ := hrel
   cases gk with
   | zero => exact absurd HA.out (by simp [laws_eqBlockS.l0])
   | succ k1 =>
    have H := HA.out; clear HA; simp only [laws_eqBlockS.l0] at H
    by_cases c4 : x5_1 < (l0.length : Int)
    ·rw [if_pos c4] at H
     have c4b0 : decide (x5_1 < (l0.length : Int)) = true := zX c4; clear c4
     by_cases c5 : 0 ≤ x5_1
     ·rw [if_pos c5] at H
      have c5b0 : decide (0 ≤ x5_1) = true := zX c5; clear c5
      by_cases c6 : x5_1 < (l1.length : Int)
      ·rw [if_pos c6] at H
       have c6b0 : decide (x5_1 < (l1.length : Int)) = true := zX c6; clear c6; replace H := zAF H; obtain ⟨t11, A70, H⟩ := H; replace H : (if t11 = true then (laws_eqBlockS.l0 k1 l0 l1 (wrap64 (x5_1 + 1))) else (some false)) = some r := H; have A7 := zA A70; clear A70
       by_cases c8 : t11 = true
       ·subst c8
        have H1 : (laws_eqBlockS.l0 k1 l0 l1 (wrap64 (x5_1 + 1))) = some r := by rw [if_pos rfl] at H; exact H
        clear H; have H := H1; clear H1; have H' := zA H; clear H
        try go_wp2
        have n0_ := zA (zG HB.out); clear HB; have HB := n0_; clear n0_; have p12 : 0 ≤ (x5_1 : Int) := zW (by first | (with_reducible assumption) | assumption); have q12 : x5_1 < (l0.length : Int) := zW (by first | (with_reducible assumption) | assumption); obtain ⟨ad12, A12_2, c12_2, e12, hx12_0, hx12_1, hx12_2, hl12_2, hi12_2⟩ := at_T51 HR0.out x5_1 p12 q12; have hw12_2 := hx12_2; have hw12_1 := hx12_1; have hw12_0 := hx12_0
        cases e12
        replace hx12_0 := (HB.out.cell (zB w _ hx12_0)).trans hx12_0; replace hx12_1 := (HB.out.cell (zB w _ hx12_1)).trans hx12_1; replace hx12_2 := (HB.out.cell (zB w _ hx12_2)).trans hx12_2; have HR12_2 := zA hi12_2; have HC12_2 := zA hl12_2; clear hi12_2 hl12_2; replace p12 := eq_true p12; replace q12 := eq_true q12; have p13 : 0 ≤ (x5_1 : Int) := zW (by first | (with_reducible assumption) | assumption); have q13 : x5_1 < (l1.length : Int) := zW (by first | (with_reducible assumption) | assumption); obtain ⟨ad13, A13_2, c13_2, e13, hx13_0, hx13_1, hx13_2, hl13_2, hi13_2⟩ := at_T51 HR1.out x5_1 p13 q13; have hw13_2 := hx13_2; have hw13_1 := hx13_1; have hw13_0 := hx13_0
        cases e13
        replace hx13_0 := (HB.out.cell (zB w _ hx13_0)).trans hx13_0; replace hx13_1 := (HB.out.cell (zB w _ hx13_1)).trans hx13_1; replace hx13_2 := (HB.out.cell (zB w _ hx13_2)).trans hx13_2; have HR13_2 := zA hi13_2; have HC13_2 := zA hl13_2; clear hi13_2 hl13_2; replace p13 := eq_true p13; replace q13 := eq_true q13; refine start_ (n := 10) (S := fun w' => w'.cell? (ad12.add ((x5_1).toNat * 3)) = some (.string ((rd_T51 l0 x5_1).f0)) ∧ w'.cell? ⟨(ad12.add ((x5_1).toNat * 3)).block, (ad12.add ((x5_1).toNat * 3)).off + 1, none⟩ = some (.string ((rd_T51 l0 x5_1).f1)) ∧ w'.cell? ⟨(ad12.add ((x5_1).toNat * 3)).block, (ad12.add ((x5_1).toNat * 3)).off + 2, none⟩ = some (.slice A12_2 ((rd_T51 l0 x5_1).f2).length c12_2) ∧ w'.cell? (ad13.add ((x5_1).toNat * 3)) = some (.string ((rd_T51 l1 x5_1).f0)) ∧ w'.cell? ⟨(ad13.add ((x5_1).toNat * 3)).block, (ad13.add ((x5_1).toNat * 3)).off + 1, none⟩ = some (.string ((rd_T51 l1 x5_1).f1)) ∧ w'.cell? ⟨(ad13.add ((x5_1).toNat * 3)).block, (ad13.add ((x5_1).toNat * 3)).off + 2, none⟩ = some (.slice A13_2 ((rd_T51 l1 x5_1).f2).length c13_2)) (ds := []) #[false, false, false, false, false, false, false, false, false, false] (by kernel_rfl) rfl rfl ⟨((HB.out.cell (zB w _ hw12_0)).trans hw12_0), ((HB.out.cell (zB w _ hw12_1)).trans hw12_1), ((HB.out.cell (zB w _ hw12_2)).trans hw12_2), ((HB.out.cell (zB w _ hw13_0)).trans hw13_0), ((HB.out.cell (zB w _ hw13_1)).trans hw13_1), ((HB.out.cell (zB w _ hw13_2)).trans hw13_2)⟩ (fun hHeld => ?_); refine with_tabW laws_eqBlockS.tab6 laws_eqBlockS.bits6 (fun HT_ HW_ => ?_); generalize wr.drew = w9 at HB HR12_2 HR13_2 hx12_0 hx12_1 hx12_2 hx13_0 hx13_1 hx13_2 hHeld ⊢; refine pure_ (i := 0) (N := some 17) (v := ?_) (a' := ?_) #[true, false, false, false, false, false, false, false, false, false] rfl rfl (any_of HT_.out (by kernel_rfl)) (fun _ _ _ h => h) (Or.inl ⟨by rfl, ?_⟩) ?_ ?_; rotate_left
        ·intro w'
         go_simp
         with_reducible rfl
        rotate_left
        ·simp only [Act.put, zC, zD, zE, i64_w]
         rfl
        refine pure_ (i := 1) (N := some 18) (v := ?_) (a' := ?_) #[true, true, false, false, false, false, false, false, false, false] rfl rfl (any_of HT_.out (by kernel_rfl)) (fun _ _ _ h => h) (Or.inl ⟨by rfl, ?_⟩) ?_ ?_; rotate_left
        ·intro w'
         go_simp
         with_reducible rfl
        rotate_left
        ·simp only [Act.put, zC, zD, zE, i64_w]
         rfl
        refine pure_ (i := 2) (N := some 19) (v := ?_) (a' := ?_) #[true, true, true, false, false, false, false, false, false, false] rfl rfl (any_of HT_.out (by kernel_rfl)) (fun _ _ _ h => h) (Or.inl ⟨by rfl, ?_⟩) ?_ ?_; rotate_left
        ·intro w'
         go_simp
         with_reducible rfl
        rotate_left
        ·simp only [Act.put, zC, zD, zE, i64_w]
         rfl
        refine pure_ (i := 4) (N := some 21) (v := ?_) (a' := ?_) #[true, true, true, false, true, false, false, false, false, false] rfl rfl (any_of HT_.out (by kernel_rfl)) (fun _ _ _ h => h) (Or.inl ⟨by rfl, ?_⟩) ?_ ?_; rotate_left
        ·intro w'
         go_simp
         with_reducible rfl
        rotate_left
        ·simp only [Act.put, zC, zD, zE, i64_w]
         rfl
        refine pure_ (i := 5) (N := some 22) (v := ?_) (a' := ?_) #[true, true, true, false, true, true, false, false, false, false] rfl rfl (any_of HT_.out (by kernel_rfl)) (fun _ _ _ h => h) (Or.inl ⟨by rfl, ?_⟩) ?_ ?_; rotate_left
        ·intro w'
         go_simp
         with_reducible rfl
        rotate_left
        ·simp only [Act.put, zC, zD, zE, i64_w]
         rfl
        refine pure_ (i := 6) (N := some 23) (v := ?_) (a' := ?_) #[true, true, true, false, true, true, true, false, false, false] rfl rfl (any_of HT_.out (by kernel_rfl)) (fun _ _ _ h => h) (Or.inl ⟨by rfl, ?_⟩) ?_ ?_; rotate_left
        ·intro w'
         go_simp
         with_reducible rfl
        rotate_left
        ·simp only [Act.put, zC, zD, zE, i64_w]
         rfl
        refine take_ (i := 3) (N := some 20) (v := ?_) (a' := ?_) #[true, true, true, true, true, true, true, false, false, false] rfl rfl (take_ofW HT_.out HW_.out (by kernel_rfl)) (fun _ _ _ h => h) (Or.inl ⟨by rfl, ?_⟩) hHeld ?_ ?_; rotate_left
        ·rintro w' ⟨s0, s1, s2, s3, s4, s5⟩
         go_simp
         with_reducible rfl
        rotate_left
        ·simp only [Act.put, zC, zD, zE, i64_w]
         rfl
        refine take_ (i := 7) (N := some 24) (v := ?_) (a' := ?_) #[true, true, true, true, true, true, true, true, false, false] rfl rfl (take_ofW HT_.out HW_.out (by kernel_rfl)) (fun _ _ _ h => h) (Or.inl ⟨by rfl, ?_⟩) hHeld ?_ ?_; rotate_left
        ·rintro w' ⟨s0, s1, s2, s3, s4, s5⟩
         go_simp
         with_reducible rfl
        rotate_left
        ·simp only [Act.put, zC, zD, zE, i64_w]
         rfl
        refine one_ (i := 8) (N := some 25) #[true, true, true, true, true, true, true, true, true, false] rfl rfl (one_of HT_.out (by kernel_rfl)) (by decide) (fun K hK => ?_); refine goes_ Try.func35 (by kernel_rfl) rfl #[.agg #[.string ((rd_T51 l0 x5_1).f0), .string ((rd_T51 l0 x5_1).f1), .slice A12_2 ((rd_T51 l0 x5_1).f2).length c12_2], .agg #[.string ((rd_T51 l1 x5_1).f0), .string ((rd_T51 l1 x5_1).f1), .slice A13_2 ((rd_T51 l1 x5_1).f2).length c13_2]] (by rfl) rfl rfl (by (try simp only [zAA, zAB, zAC]); first | done | rfl | (simp only [zZ, zY]; rfl)) ?_
        with_reducible refine (laws_eqBlock.calls k1 ((rd_T51 l0 x5_1).f0) ((rd_T51 l0 x5_1).f1) _ _ ((rd_T51 l0 x5_1).f2) ((rd_T51 l1 x5_1).f0) ((rd_T51 l1 x5_1).f1) _ _ ((rd_T51 l1 x5_1).f2) true _ ?side1 ?side2 ?side3 ?side4 A7.out ⟨rfl⟩).mono ?_
        (case side1 => repeat (first | exact (yN HR12_2.out HB.out) | (with_reducible first | refine zT ?_ _ | refine zU ?_ _ | refine zV ?_))); (case side2 => exact HC12_2.out); (case side3 => repeat (first | exact (yN HR13_2.out HB.out) | (with_reducible first | refine zT ?_ _ | refine zU ?_ _ | refine zV ?_))); (case side4 => exact HC13_2.out); rintro e w10 ⟨rfl, hb⟩; refine ⟨_, rfl, ?_⟩; have n0_ := zA (zAD (by (with_reducible repeat first | exact HB.out | apply zH | apply zF | apply zG) <;> exact HB.out) hb); clear HB; have HB := n0_; clear n0_; (try clear hb); refine hK.out _ _ ⟨((HB.out.cell (zB w _ hw12_0)).trans hw12_0), ((HB.out.cell (zB w _ hw12_1)).trans hw12_1), ((HB.out.cell (zB w _ hw12_2)).trans hw12_2), ((HB.out.cell (zB w _ hw13_0)).trans hw13_0), ((HB.out.cell (zB w _ hw13_1)).trans hw13_1), ((HB.out.cell (zB w _ hw13_2)).trans hw13_2)⟩ (fun hHeld => ?_); clear hK K; refine norm_ (a' := ?_) ?_ ?_; rotate_left
        ·show Act.put _ (some 25) _ = _
         simp only [Act.put, zC, zD, zE, i64_w]; rfl
        refine pure_ (i := 9) (N := some 26) (v := ?_) (a' := ?_) #[true, true, true, true, true, true, true, true, true, true] rfl rfl (any_of HT_.out (by kernel_rfl)) (fun _ _ _ h => h) (Or.inl ⟨by rfl, ?_⟩) ?_ ?_; rotate_left
        ·intro w'
         go_simp
         with_reducible rfl
        rotate_left
        ·simp only [Act.put, zC, zD, zE, i64_w]
         rfl
        refine done_ (done_of HT_.out (by kernel_rfl)) ?_
        try go_wp2
        go_roundg k1
        case measure => have := HK1.out; omega
        case rel => exact ⟨(wrap64 (x5_1 + 1)), (by first | rfl | (simp; done) | (simp [*]; done) | (simp [bne]; done)), H', ⟨by have := HK1.out; omega⟩, ⟨by (with_reducible repeat first | exact HB.out | apply zH | apply zF | apply zG) <;> exact HB.out⟩⟩
       ·replace c8 := yO c8
        subst c8; have H1 : (some false) = some r := by rw [if_neg (show ¬ (false = true) by decide)] at H; exact H
        clear H; have H := H1; clear H1; exact absurd ((yM H).trans hr_.out) (by decide)
      ·rw [if_neg c6] at H
       exact absurd H (by simp)
     ·rw [if_neg c5] at H
      exact absurd H (by simp)
    ·rw [if_neg c4] at H
     have c4b0 : decide (x5_1 < (l0.length : Int)) = false := decide_eq_false c4; clear c4; obtain rfl := yM H; go_wp2; go_ret; exact ⟨by first | rfl | (simp <;> rfl) | (simp [*] <;> rfl), by (with_reducible repeat first | exact HB.out | apply zH | apply zF | apply zG) <;> exact HB.out⟩
 ·rw [if_neg c3] at H
  have c3b0 : ((l0.length : Int) == (l1.length : Int)) = false := beq_eq_false_iff_ne.mpr c3; have c3b1 : ((l0.length : Int) != (l1.length : Int)) = true := bne_iff_ne.mpr c3; have c3b2 : (l0.length == l1.length) = false := by first | simpa using c3 | (simp at c3 ⊢; omega)
  exact absurd ((yM H).trans hr_.out) (by decide)
def laws_markText.l0 : Nat → Int → ByteArray → Option (ByteArray)
 | 0, _, _ => none
 | k + 1, x0, x3 => if x0 > 0 then ((some (([(wrap64 (48 + (Int.tmod x0 10))) % 256] : List Int) : List Int)).bind fun y10 => (if (strOfNums y10).size + x3.size ≤ 9223372036854775807 then (laws_markText.l0 k (wrap64 (Int.tdiv x0 10)) ((strOfNums y10) ++ x3)) else (none))) else (if 1 + x3.size ≤ 9223372036854775807 then (some ((⟨#[109]⟩ : ByteArray) ++ x3)) else (none))
def laws_markText.f (k : Nat) (a0 : Int) : Option (ByteArray) := if a0 ≤ 0 then (some (⟨#[109, 48]⟩ : ByteArray)) else (laws_markText.l0 k a0 (⟨#[]⟩ : ByteArray))
theorem laws_markText.calls (k : Nat) (a0 : Int) (r : ByteArray) (w : World) (h : laws_markText.f k a0 = some r) :
  Calls Try.prog 36 #[.int .i64 a0] w fun e w' => e = .returned (.string r) ∧ Below w.heap.size w w' := by
 have HB := zA (Below.refl w.heap.size w); have H : (if a0 ≤ 0 then (some (⟨#[109, 48]⟩ : ByteArray)) else (laws_markText.l0 k a0 (⟨#[]⟩ : ByteArray))) = some r := h; clear h
 by_cases c2 : a0 ≤ 0
 ·rw [if_pos c2] at H
  have c2b0 : decide (a0 ≤ 0) = true := zX c2; clear c2; obtain rfl := yM H; go_enter Try.func36, Try.ntmps36; go_wp2; go_ret; exact ⟨by first | rfl | (simp <;> rfl) | (simp [*] <;> rfl), by (with_reducible repeat first | exact HB.out | apply zH | apply zF | apply zG) <;> exact HB.out⟩
 ·rw [if_neg c2] at H
  have c2b0 : decide (a0 ≤ 0) = false := decide_eq_false c2; clear c2; have H' := zA H; clear H; go_enter Try.func36, Try.ntmps36; go_wp2; go_loopg [0, 3] k (fun kq v0 v3 w' => ∃ (x0_1 : Int) (x3_1 : ByteArray), v0 = .int .i64 x0_1 ∧ v3 = .string x3_1 ∧ Aside0 (laws_markText.l0 kq x0_1 x3_1 = some r) ∧ Aside0 (kq ≤ k) ∧ Aside0 (Below w.heap.size w w'))
  case atStart => exact ⟨(a0), ((⟨#[]⟩ : ByteArray)), (by first | rfl | (simp; done) | (simp [*]; done) | (simp [bne]; done)), (by first | rfl | (simp; done) | (simp [*]; done) | (simp [bne]; done)), H', ⟨Nat.le_refl _⟩, ⟨by (with_reducible repeat first | exact HB.out | apply zH | apply zF | apply zG) <;> exact HB.out⟩⟩
  case round =>
   clear H'
   try clear c2
   try clear c2b0
   try clear p2
   obtain ⟨x0_1, x3_1, rfl, rfl, HA, HK1, HB⟩ := hrel
   cases gk with
   | zero => exact absurd HA.out (by simp [laws_markText.l0])
   | succ k1 =>
    have H := HA.out; clear HA; simp only [laws_markText.l0] at H
    by_cases c3 : x0_1 > 0
    ·rw [if_pos c3] at H
     have c3b0 : decide (0 < x0_1) = true := zX c3; clear c3; obtain ⟨y10, hy10⟩ : ∃ y_ : List Int, y_ = (([(wrap64 (48 + (Int.tmod x0_1 10))) % 256] : List Int)) := ⟨_, rfl⟩; replace H : (if (strOfNums y10).size + x3_1.size ≤ 9223372036854775807 then (laws_markText.l0 k1 (wrap64 (Int.tdiv x0_1 10)) ((strOfNums y10) ++ x3_1)) else (none)) = some r := by first | (rw [hy10]; with_reducible exact H) | (have H2_ := (Option.bind_some _ _).symm.trans H; rw [hy10]; with_reducible exact H2_) | (have H2_ := (Option.bind_some _ _).symm.trans H; with_reducible exact H2_) | with_reducible exact H | (rw [hy10]; exact H) | exact H
     have Ny10 := zA hy10; clear hy10
     by_cases c4 : (strOfNums y10).size + x3_1.size ≤ 9223372036854775807
     ·rw [if_pos c4] at H
      have c4b0 := eq_true c4; have c4b1 : decide ((strOfNums y10).size + x3_1.size ≤ 9223372036854775807) = true := zX c4
      try have c4b2 : (9223372036854775807 < (strOfNums y10).size + x3_1.size) = False := eq_false (Nat.not_lt.2 c4)
      have H' := zA H; clear H; go_wp2_with (first | ((with_reducible refine gate_dst (N := 12) rfl ?_); refine Kd.R_lit (Kd.int .u8) _ 5 ?hg (N := 12) ?hd (xs := ([(wrap64 (48 + (Int.tmod x0_1 10))) % 256] : List Int)) (inner := [.int .u8 ((wrap64 (48 + (Int.tmod x0_1 10))) % 256)]) (ok := fun _ => True) (okp := fun _ => True) ?hr ?hp (fun _ hk => hk) trivial (Below.refl _ _) (Nat.le_refl _) (by simp) ?_; (case hd => rfl); (case hg => rfl); (case hr => first | (go_simp; done) | (go_simp; rfl)); (case hp => exact (Reps.one (show Kd.M (Kd.int .u8) _ _ _ ((wrap64 (48 + (Int.tmod x0_1 10))) % 256) [.int .u8 ((wrap64 (48 + (Int.tmod x0_1 10))) % 256)] from rfl) (Reps.none _ _))); intro v11 w5 ho6 hb hg_ hnew_; clear hg_ hnew_; (first | rw [← Ny10.out] at ho6 | (simp only [Int.reduceToNat] at ho6; rw [← Ny10.out] at ho6)); have n0_ := zA (Kd.R_lower ho6 (zAE (by (with_reducible repeat first | exact HB.out | apply zH | apply zF | apply zG) <;> exact HB.out))); have n1_ := zA (zAD (by (with_reducible repeat first | exact HB.out | apply zH | apply zF | apply zG) <;> exact HB.out) hb); clear HB; have HO12 := n0_; have HB := n1_; clear n0_ n1_; clear hb ho6; have hcv7 := own_string (P := Try.prog) Try.underlying73 Try.underlying5 Try.underlying9 (Kd.own_of_R HO12.out))); go_roundg k1
      case measure => have := HK1.out; omega
      case rel => exact ⟨(wrap64 (Int.tdiv x0_1 10)), ((strOfNums y10) ++ x3_1), (by first | rfl | (simp; done) | (simp [*]; done) | (simp [bne]; done)), (by first | rfl | (simp; done) | (simp [*]; done) | (simp [bne]; done)), H', ⟨by have := HK1.out; omega⟩, ⟨by (with_reducible repeat first | exact HB.out | apply zH | apply zF | apply zG) <;> exact HB.out⟩⟩
     ·rw [if_neg c4] at H
      exact absurd H (by simp)
    ·rw [if_neg c3] at H
     have c3b0 : decide (0 < x0_1) = false := decide_eq_false c3; clear c3
     by_cases c8 : 1 + x3_1.size ≤ 9223372036854775807
     ·rw [if_pos c8] at H
      have c8b0 := eq_true c8; have c8b1 : decide (1 + x3_1.size ≤ 9223372036854775807) = true := zX c8
      try have c8b2 : (9223372036854775807 < 1 + x3_1.size) = False := eq_false (Nat.not_lt.2 c8)
      obtain rfl := yM H; go_wp2; go_ret; exact ⟨by first | rfl | (simp <;> rfl) | (simp [*] <;> rfl), by (with_reducible repeat first | exact HB.out | apply zH | apply zF | apply zG) <;> exact HB.out⟩
     ·rw [if_neg c8] at H
      exact absurd H (by simp)
def laws_markStringS.l0 : Nat → List ByteArray → Int → Int → Option (Int × List ByteArray)
 | 0, _, _, _ => none
 | k + 1, x0, x1, x5 => if x5 < (x0.length : Int) then ((laws_markText.f k x1).bind fun t10 => (if 0 ≤ x5 then (laws_markStringS.l0 k (x0.set (x5 : Int).toNat t10) (wrap64 (x1 + 1)) (wrap64 (x5 + 1))) else (none))) else (some (x1, x0))
def laws_markStringS.f (k : Nat) (l0 : List ByteArray) (a1 : Int) : Option (Int × List ByteArray) := laws_markStringS.l0 k l0 a1 0
theorem laws_markStringS.calls (k : Nat) (P0_ : Nat → Prop) (u9000_ : Value) (l0 : List ByteArray) (a1 : Int) (r1 : Int) (r2 : List ByteArray) (w0 w : World) (hB : Below w0.heap.size w0 w) (ho0 : Kd.R Kd.string 9 w w0.heap.size P0_ u9000_ l0) (h : laws_markStringS.f k l0 a1 = some (r1, r2)) :
  Calls Try.prog 14 #[u9000_, .int .i64 a1] w fun e w' => e = .returned (.int .i64 r1) ∧ Kd.R Kd.string 9 w' w0.heap.size (fun k_ => (P0_ k_ ∨ w.heap.size ≤ k_)) u9000_ r2 ∧ Below w0.heap.size w0 w' ∧ Kept w w' (fun k_ => P0_ k_) := by
 have HO0 := zA (show Kd.R Kd.string 9 w w0.heap.size (fun k_ => (P0_ k_ ∨ w.heap.size ≤ k_)) u9000_ l0 from yC ho0 (fun k_ hk => (.inl hk))); have HK := zA (Kept.refl w (fun k_ => P0_ k_)); have HW0 := zA hB.size; have HB := zA hB; clear hB; have H : (laws_markStringS.l0 k l0 a1 0) = some (r1, r2) := h; clear h; have H' := zA H; clear H; go_enter Try.func14, Try.ntmps14; go_wp2; go_loopg [1, 5] k (fun kq v1 v5 w' => ∃ (x0_1 : List ByteArray) (x1_1 : Int) (x5_1 : Int), v1 = .int .i64 x1_1 ∧ v5 = .int .i64 x5_1 ∧ Aside0 (laws_markStringS.l0 kq x0_1 x1_1 x5_1 = some (r1, r2)) ∧ Aside0 (kq ≤ k) ∧ Aside0 (Kd.R Kd.string 9 w' w0.heap.size (fun k_ => (P0_ k_ ∨ w.heap.size ≤ k_)) u9000_ x0_1) ∧ Aside0 (Kept w w' (fun k_ => P0_ k_)) ∧ Aside0 (Below w0.heap.size w0 w'))
 case atStart => exact ⟨(l0), (a1), (0), (by first | rfl | (simp; done) | (simp [*]; done) | (simp [bne]; done)), (by first | rfl | (simp; done) | (simp [*]; done) | (simp [bne]; done)), H', ⟨Nat.le_refl _⟩, ⟨by (with_reducible repeat first | apply zQ | apply zR | apply zS); exact HO0.out⟩, ⟨by repeat (first | (with_reducible first | exact HK.out | apply Kept.alloc | apply Kept.drewN | apply Kept.drew) | exact HK.out)⟩, ⟨by (with_reducible repeat first | exact HB.out | apply zH | apply zF | apply zG) <;> exact HB.out⟩⟩
 case round =>
  clear H'
  try clear c1
  try clear p2
  obtain ⟨x0_1, x1_1, x5_1, rfl, rfl, HA, HK1, HO_0, HK, HB⟩ := hrel
  cases gk with
  | zero => exact absurd HA.out (by simp [laws_markStringS.l0])
  | succ k1 =>
   have H := HA.out; clear HA; simp only [laws_markStringS.l0] at H
   by_cases c3 : x5_1 < (x0_1.length : Int)
   ·rw [if_pos c3] at H
    have c3b0 : decide (x5_1 < (x0_1.length : Int)) = true := zX c3; clear c3; replace H := zAF H; obtain ⟨t12, A40, H⟩ := H; replace H : (if 0 ≤ x5_1 then (laws_markStringS.l0 k1 (x0_1.set (x5_1 : Int).toNat t12) (wrap64 (x1_1 + 1)) (wrap64 (x5_1 + 1))) else (none)) = some (r1, r2) := H; have A4 := zA A40; clear A40
    by_cases c5 : 0 ≤ x5_1
    ·rw [if_pos c5] at H
     have c5b0 : decide (0 ≤ x5_1) = true := zX c5; clear c5; obtain ⟨y13, hy13⟩ : ∃ y_ : List ByteArray, y_ = (x0_1.set (x5_1 : Int).toNat t12) := ⟨_, rfl⟩; replace H : (laws_markStringS.l0 k1 y13 (wrap64 (x1_1 + 1)) (wrap64 (x5_1 + 1))) = some (r1, r2) := by first | (rw [hy13]; with_reducible exact H) | (have H2_ := (Option.bind_some _ _).symm.trans H; rw [hy13]; with_reducible exact H2_) | (have H2_ := (Option.bind_some _ _).symm.trans H; with_reducible exact H2_) | with_reducible exact H | (rw [hy13]; exact H) | exact H
     have Ny13 := zA hy13; clear hy13; have H' := zA H; clear H; obtain ⟨Ao7, co7, eo7⟩ := Kd.R_slice HO_0.out; subst eo7; go_wp2_with (first | ((with_reducible refine yB (f := 36) rfl ?_); refine goesL_ (some 15) rfl rfl Try.func36 (by kernel_rfl) rfl #[.int .i64 x1_1] rfl (by (try simp only [zAA, zAB, zAC]); first | done | rfl) ?_; (with_reducible refine (laws_markText.calls k1 x1_1 t12 _ A4.out).mono ?_); rintro e w8 ⟨rfl, hb⟩; refine ⟨_, rfl, ?_⟩; have n0_ := zA (Kd.R_below (by (with_reducible repeat first | apply zQ | apply zR | apply zS); exact HO_0.out) hb); have n1_ := zA (Kept.below (S := (fun k_ => P0_ k_)) (by repeat (first | (with_reducible first | exact HK.out | apply Kept.alloc | apply Kept.drewN | apply Kept.drew) | exact HK.out)) hb); have n2_ := zA (zAD (by (with_reducible repeat first | exact HB.out | apply zH | apply zF | apply zG) <;> exact HB.out) hb); clear HO_0; clear HK; clear HB; have HO_0 := n0_; have HK := n1_; have HB := n2_; clear n0_ n1_ n2_; (try clear hb); have p6 : 0 ≤ (x5_1 : Int) := zW (by first | (with_reducible assumption) | assumption); have q6 : (x5_1 : Int) < ((x0_1.length : Int) : Int) := zW (by first | (with_reducible assumption) | assumption); obtain ⟨go6, co6, eo6, gb6, gl6, cl6, HG6⟩ := Kd.R_form HO_0.out (by omega); (first | cases eo6 | (injection eo6 with ea_ en_ ec_; (first | subst ea_ | (injection ea_ with ea_; subst ea_)); subst ec_; clear en_)); have GB6 := zA gb6; have GG6 := zA HG6; clear gb6 gl6 HG6; have HMgo6 := zA (show (P0_ go6 ∨ w.heap.size ≤ go6) from (HO_0.out.1 _ rfl)); obtain ⟨hx6_0, hf6_0⟩ := Kd.R_celln (⟨#[]⟩ : ByteArray) HO_0.out (x5_1 : Int) p6 q6; replace p6 := eq_true p6; replace q6 := eq_true q6; obtain ⟨hy9_, hz9_⟩ := Kd.R_celln (⟨#[]⟩ : ByteArray) HO_0.out (x5_1 : Int) (zW (by first | (with_reducible assumption) | assumption)) (zW (by first | (with_reducible assumption) | assumption)); have HP9 := Kd.R_putg HO_0.out (x5_1 : Int) t12) | ((with_reducible refine gate_store (t := 9) (p := 16) rfl ?_); refine store_event (t := 9) (p := 16) (v := ?vo_w10) (w1 := (w8.setCell ⟨go6, (x5_1 : Int).toNat, none⟩ (.string t12))) ?hg ?ho ?hn ?hr ?_; (case ho => rfl); (case hg => rfl); (case hn => rfl); (case hr => first | (go_simp; done) | (go_simp; rfl)); intro w10 hw; have hg : w8.grownBy w10 (some go6) := (by rw [hw]; exact HP9.2); have hp_ : Kd.R Kd.string 9 w10 w0.heap.size (fun k_ => (P0_ k_ ∨ w.heap.size ≤ k_)) (.slice (some ⟨go6, 0, none⟩) x0_1.length co7) y13 := (by rw [hw, Ny13.out]; exact HP9.1); clear HP9; have n0_ := zA (hp_); have n1_ := zA ((by rw [hw]; exact zI (HB.out) GB6.out : Below w0.heap.size w0 w10)); have n2_ := zA (Kept.of_grown (S := (fun k_ => P0_ k_)) hg (by repeat (first | (with_reducible first | exact HK.out | apply Kept.alloc | apply Kept.drewN | apply Kept.drew) | exact HK.out)) (fun k_ e_ => (HO_0.out.1 k_ e_))); clear HO_0; clear HB; clear HK; have HO_0 := n0_; have HB := n1_; have HK := n2_; clear n0_ n1_ n2_; clear hg hw hp_)); go_roundg k1
     case measure => have := HK1.out; omega
     case rel => exact ⟨(y13), (wrap64 (x1_1 + 1)), (wrap64 (x5_1 + 1)), (by first | rfl | (simp; done) | (simp [*]; done) | (simp [bne]; done)), (by first | rfl | (simp; done) | (simp [*]; done) | (simp [bne]; done)), H', ⟨by have := HK1.out; omega⟩, ⟨by (with_reducible repeat first | apply zQ | apply zR | apply zS); exact HO_0.out⟩, ⟨by repeat (first | (with_reducible first | exact HK.out | apply Kept.alloc | apply Kept.drewN | apply Kept.drew) | exact HK.out)⟩, ⟨by (with_reducible repeat first | exact HB.out | apply zH | apply zF | apply zG) <;> exact HB.out⟩⟩
    ·rw [if_neg c5] at H
     exact absurd H (by simp)
   ·rw [if_neg c3] at H
    have c3b0 : decide (x5_1 < (x0_1.length : Int)) = false := decide_eq_false c3; clear c3; simp only [Option.some.injEq, Prod.mk.injEq] at H; obtain ⟨rfl, rfl⟩ := H; obtain ⟨Ao11, co11, eo11⟩ := Kd.R_slice HO_0.out; subst eo11; go_wp2; go_ret; exact ⟨by first | rfl | (simp <;> rfl) | (simp [*] <;> rfl), by (with_reducible repeat first | apply zQ | apply zR | apply zS); exact HO_0.out, by (with_reducible repeat first | exact HB.out | apply zH | apply zF | apply zG) <;> exact HB.out, by repeat (first | (with_reducible first | exact HK.out | apply Kept.alloc | apply Kept.drewN | apply Kept.drew) | exact HK.out)⟩
def laws_heldStringS.l0 : Nat → List ByteArray → Int → Int → Option (Int)
 | 0, _, _, _ => none
 | k + 1, x0, x1, x5 => if x5 < (x0.length : Int) then (if 0 ≤ x5 then ((laws_markText.f k x1).bind fun t10 => (if (rdOf ByteArray.empty x0 x5).toList = t10.toList then (laws_heldStringS.l0 k x0 (wrap64 (x1 + 1)) (wrap64 (x5 + 1))) else (some (-1)))) else (none)) else (some x1)
def laws_heldStringS.f (k : Nat) (l0 : List ByteArray) (a1 : Int) : Option (Int) := laws_heldStringS.l0 k l0 a1 0
theorem laws_heldStringS.calls (k : Nat) (A0 : Option Addr) (c0 : Nat) (l0 : List ByteArray) (a1 : Int) (r : Int) (w : World) (hr0 : Kd.C Kd.string w A0 l0.length l0) (hc0 : l0.length ≤ c0) (h : laws_heldStringS.f k l0 a1 = some r) :
  Calls Try.prog 37 #[.slice A0 l0.length c0, .int .i64 a1] w fun e w' => e = .returned (.int .i64 r) ∧ Below w.heap.size w w' := by
 have HR0 := zA hr0; have HC0 := zA hc0; clear hr0 hc0; have HB := zA (Below.refl w.heap.size w); have H : (laws_heldStringS.l0 k l0 a1 0) = some r := h; clear h; have H' := zA H; clear H; go_enter Try.func37, Try.ntmps37; go_wp2; go_loopg [1, 5] k (fun kq v1 v5 w' => ∃ (x1_1 : Int) (x5_1 : Int), v1 = .int .i64 x1_1 ∧ v5 = .int .i64 x5_1 ∧ Aside0 (laws_heldStringS.l0 kq l0 x1_1 x5_1 = some r) ∧ Aside0 (kq ≤ k) ∧ Aside0 (Below w.heap.size w w'))
 case atStart => exact ⟨(a1), (0), (by first | rfl | (simp; done) | (simp [*]; done) | (simp [bne]; done)), (by first | rfl | (simp; done) | (simp [*]; done) | (simp [bne]; done)), H', ⟨Nat.le_refl _⟩, ⟨by (with_reducible repeat first | exact HB.out | apply zH | apply zF | apply zG) <;> exact HB.out⟩⟩
 case round =>
  clear H'
  try clear p2
  obtain ⟨x1_1, x5_1, rfl, rfl, HA, HK1, HB⟩ := hrel
  cases gk with
  | zero => exact absurd HA.out (by simp [laws_heldStringS.l0])
  | succ k1 =>
   have H := HA.out; clear HA; simp only [laws_heldStringS.l0] at H
   by_cases c3 : x5_1 < (l0.length : Int)
   ·rw [if_pos c3] at H
    have c3b0 : decide (x5_1 < (l0.length : Int)) = true := zX c3; clear c3
    by_cases c4 : 0 ≤ x5_1
    ·rw [if_pos c4] at H
     have c4b0 : decide (0 ≤ x5_1) = true := zX c4; clear c4; replace H := zAF H; obtain ⟨t11, A50, H⟩ := H; replace H : (if (rdOf ByteArray.empty l0 x5_1).toList = t11.toList then (laws_heldStringS.l0 k1 l0 (wrap64 (x1_1 + 1)) (wrap64 (x5_1 + 1))) else (some (-1))) = some r := H; have A5 := zA A50; clear A50
     by_cases c6 : (rdOf ByteArray.empty l0 x5_1).toList = t11.toList
     ·rw [if_pos c6] at H
      have c6b0 : ((rdOf ByteArray.empty l0 x5_1).toList == t11.toList) = true := beq_iff_eq.mpr c6; have c6b1 : ((rdOf ByteArray.empty l0 x5_1).toList != t11.toList) = false := bne_eq_false_iff_eq.mpr c6; clear c6; have H' := zA H; clear H
      try go_wp2
      have n0_ := zA (zG HB.out); clear HB; have HB := n0_; clear n0_; have p12 : 0 ≤ (x5_1 : Int) := zW (by first | (with_reducible assumption) | assumption); have q12 : x5_1 < (l0.length : Int) := zW (by first | (with_reducible assumption) | assumption); obtain ⟨ad12, e12, hx12_0⟩ := Kd.at_string HR0.out x5_1 p12 q12; have hw12_0 := hx12_0
      cases e12
      replace hx12_0 := (HB.out.cell (zB w _ hx12_0)).trans hx12_0; replace p12 := eq_true p12; replace q12 := eq_true q12; refine start_ (n := 7) (S := fun w' => w'.cell? (ad12.add (x5_1).toNat) = some (.string (rdOf ByteArray.empty l0 x5_1))) (ds := []) #[false, false, false, false, false, false, false] (by kernel_rfl) rfl rfl (((HB.out.cell (zB w _ hw12_0)).trans hw12_0)) (fun hHeld => ?_); generalize wr.drew = w7 at HB hx12_0 hHeld ⊢; refine pure_ (i := 0) (N := some 12) (v := ?_) (a' := ?_) #[true, false, false, false, false, false, false] rfl rfl (by kernel_rfl) (fun _ _ _ h => h) (Or.inl ⟨by rfl, ?_⟩) ?_ ?_; rotate_left
      ·intro w'
       go_simp
       with_reducible rfl
      rotate_left
      ·simp only [Act.put, zC, zD, zE, i64_w]
       rfl
      refine pure_ (i := 1) (N := some 13) (v := ?_) (a' := ?_) #[true, true, false, false, false, false, false] rfl rfl (by kernel_rfl) (fun _ _ _ h => h) (Or.inl ⟨by rfl, ?_⟩) ?_ ?_; rotate_left
      ·intro w'
       go_simp
       with_reducible rfl
      rotate_left
      ·simp only [Act.put, zC, zD, zE, i64_w]
       rfl
      refine pure_ (i := 2) (N := some 14) (v := ?_) (a' := ?_) #[true, true, true, false, false, false, false] rfl rfl (by kernel_rfl) (fun _ _ _ h => h) (Or.inl ⟨by rfl, ?_⟩) ?_ ?_; rotate_left
      ·intro w'
       go_simp
       with_reducible rfl
      rotate_left
      ·simp only [Act.put, zC, zD, zE, i64_w]
       rfl
      refine pure_ (i := 4) (N := some 16) (v := ?_) (a' := ?_) #[true, true, true, false, true, false, false] rfl rfl (by kernel_rfl) (fun _ _ _ h => h) (Or.inl ⟨by rfl, ?_⟩) ?_ ?_; rotate_left
      ·intro w'
       go_simp
       with_reducible rfl
      rotate_left
      ·simp only [Act.put, zC, zD, zE, i64_w]
       rfl
      refine take_ (i := 3) (N := some 15) (v := ?_) (a' := ?_) #[true, true, true, true, true, false, false] rfl rfl (by kernel_rfl) (fun _ _ _ h => h) (Or.inl ⟨by rfl, ?_⟩) hHeld ?_ ?_; rotate_left
      ·intro w' s0
       go_simp
       with_reducible rfl
      rotate_left
      ·simp only [Act.put, zC, zD, zE, i64_w]
       rfl
      refine one_ (i := 5) (N := some 17) #[true, true, true, true, true, true, false] rfl rfl (by kernel_rfl) (by decide) (fun K hK => ?_); refine goes_ Try.func36 (by kernel_rfl) rfl #[.int .i64 x1_1] (by rfl) rfl rfl (by (try simp only [zAA, zAB, zAC]); first | done | rfl) ?_
      with_reducible refine (laws_markText.calls k1 x1_1 t11 _ A5.out).mono ?_
      rintro e w8 ⟨rfl, hb⟩; refine ⟨_, rfl, ?_⟩; have n0_ := zA (zAD (by (with_reducible repeat first | exact HB.out | apply zH | apply zF | apply zG) <;> exact HB.out) hb); clear HB; have HB := n0_; clear n0_; (try clear hb); refine hK.out _ _ (((HB.out.cell (zB w _ hw12_0)).trans hw12_0)) (fun hHeld => ?_); clear hK K; refine norm_ (a' := ?_) ?_ ?_; rotate_left
      ·show Act.put _ (some 17) _ = _
       simp only [Act.put, zC, zD, zE, i64_w]; rfl
      refine pure_ (i := 6) (N := some 18) (v := ?_) (a' := ?_) #[true, true, true, true, true, true, true] rfl rfl (by kernel_rfl) (fun _ _ _ h => h) (Or.inl ⟨by rfl, ?_⟩) ?_ ?_; rotate_left
      ·intro w'
       go_simp
       with_reducible rfl
      rotate_left
      ·simp only [Act.put, zC, zD, zE, i64_w]
       rfl
      refine done_ (by kernel_rfl) ?_
      try go_wp2
      go_roundg k1
      case measure => have := HK1.out; omega
      case rel => exact ⟨(wrap64 (x1_1 + 1)), (wrap64 (x5_1 + 1)), (by first | rfl | (simp; done) | (simp [*]; done) | (simp [bne]; done)), (by first | rfl | (simp; done) | (simp [*]; done) | (simp [bne]; done)), H', ⟨by have := HK1.out; omega⟩, ⟨by (with_reducible repeat first | exact HB.out | apply zH | apply zF | apply zG) <;> exact HB.out⟩⟩
     ·rw [if_neg c6] at H
      have c6b0 : ((rdOf ByteArray.empty l0 x5_1).toList == t11.toList) = false := beq_eq_false_iff_ne.mpr c6; have c6b1 : ((rdOf ByteArray.empty l0 x5_1).toList != t11.toList) = true := bne_iff_ne.mpr c6; obtain rfl := yM H
      try go_wp2
      have n0_ := zA (zG HB.out); clear HB; have HB := n0_; clear n0_; have p12 : 0 ≤ (x5_1 : Int) := zW (by first | (with_reducible assumption) | assumption); have q12 : x5_1 < (l0.length : Int) := zW (by first | (with_reducible assumption) | assumption); obtain ⟨ad12, e12, hx12_0⟩ := Kd.at_string HR0.out x5_1 p12 q12; have hw12_0 := hx12_0
      cases e12
      replace hx12_0 := (HB.out.cell (zB w _ hx12_0)).trans hx12_0; replace p12 := eq_true p12; replace q12 := eq_true q12; refine start_ (n := 7) (S := fun w' => w'.cell? (ad12.add (x5_1).toNat) = some (.string (rdOf ByteArray.empty l0 x5_1))) (ds := []) #[false, false, false, false, false, false, false] (by kernel_rfl) rfl rfl (((HB.out.cell (zB w _ hw12_0)).trans hw12_0)) (fun hHeld => ?_); generalize wr.drew = w9 at HB hx12_0 hHeld ⊢; refine pure_ (i := 0) (N := some 12) (v := ?_) (a' := ?_) #[true, false, false, false, false, false, false] rfl rfl (by kernel_rfl) (fun _ _ _ h => h) (Or.inl ⟨by rfl, ?_⟩) ?_ ?_; rotate_left
      ·intro w'
       go_simp
       with_reducible rfl
      rotate_left
      ·simp only [Act.put, zC, zD, zE, i64_w]
       rfl
      refine pure_ (i := 1) (N := some 13) (v := ?_) (a' := ?_) #[true, true, false, false, false, false, false] rfl rfl (by kernel_rfl) (fun _ _ _ h => h) (Or.inl ⟨by rfl, ?_⟩) ?_ ?_; rotate_left
      ·intro w'
       go_simp
       with_reducible rfl
      rotate_left
      ·simp only [Act.put, zC, zD, zE, i64_w]
       rfl
      refine pure_ (i := 2) (N := some 14) (v := ?_) (a' := ?_) #[true, true, true, false, false, false, false] rfl rfl (by kernel_rfl) (fun _ _ _ h => h) (Or.inl ⟨by rfl, ?_⟩) ?_ ?_; rotate_left
      ·intro w'
       go_simp
       with_reducible rfl
      rotate_left
      ·simp only [Act.put, zC, zD, zE, i64_w]
       rfl
      refine pure_ (i := 4) (N := some 16) (v := ?_) (a' := ?_) #[true, true, true, false, true, false, false] rfl rfl (by kernel_rfl) (fun _ _ _ h => h) (Or.inl ⟨by rfl, ?_⟩) ?_ ?_; rotate_left
      ·intro w'
       go_simp
       with_reducible rfl
      rotate_left
      ·simp only [Act.put, zC, zD, zE, i64_w]
       rfl
      refine take_ (i := 3) (N := some 15) (v := ?_) (a' := ?_) #[true, true, true, true, true, false, false] rfl rfl (by kernel_rfl) (fun _ _ _ h => h) (Or.inl ⟨by rfl, ?_⟩) hHeld ?_ ?_; rotate_left
      ·intro w' s0
       go_simp
       with_reducible rfl
      rotate_left
      ·simp only [Act.put, zC, zD, zE, i64_w]
       rfl
      refine one_ (i := 5) (N := some 17) #[true, true, true, true, true, true, false] rfl rfl (by kernel_rfl) (by decide) (fun K hK => ?_); refine goes_ Try.func36 (by kernel_rfl) rfl #[.int .i64 x1_1] (by rfl) rfl rfl (by (try simp only [zAA, zAB, zAC]); first | done | rfl) ?_
      with_reducible refine (laws_markText.calls k1 x1_1 t11 _ A5.out).mono ?_
      rintro e w10 ⟨rfl, hb⟩; refine ⟨_, rfl, ?_⟩; have n0_ := zA (zAD (by (with_reducible repeat first | exact HB.out | apply zH | apply zF | apply zG) <;> exact HB.out) hb); clear HB; have HB := n0_; clear n0_; (try clear hb); refine hK.out _ _ (((HB.out.cell (zB w _ hw12_0)).trans hw12_0)) (fun hHeld => ?_); clear hK K; refine norm_ (a' := ?_) ?_ ?_; rotate_left
      ·show Act.put _ (some 17) _ = _
       simp only [Act.put, zC, zD, zE, i64_w]; rfl
      refine pure_ (i := 6) (N := some 18) (v := ?_) (a' := ?_) #[true, true, true, true, true, true, true] rfl rfl (by kernel_rfl) (fun _ _ _ h => h) (Or.inl ⟨by rfl, ?_⟩) ?_ ?_; rotate_left
      ·intro w'
       go_simp
       with_reducible rfl
      rotate_left
      ·simp only [Act.put, zC, zD, zE, i64_w]
       rfl
      refine done_ (by kernel_rfl) ?_
      try go_wp2
      go_ret; exact ⟨by first | rfl | (simp <;> rfl) | (simp [*] <;> rfl), by (with_reducible repeat first | exact HB.out | apply zH | apply zF | apply zG) <;> exact HB.out⟩
    ·rw [if_neg c4] at H
     exact absurd H (by simp)
   ·rw [if_neg c3] at H
    have c3b0 : decide (x5_1 < (l0.length : Int)) = false := decide_eq_false c3; clear c3; obtain rfl := yM H; go_wp2; go_ret; exact ⟨by first | rfl | (simp <;> rfl) | (simp [*] <;> rfl), by (with_reducible repeat first | exact HB.out | apply zH | apply zF | apply zG) <;> exact HB.out⟩
def laws_heldBlockS.l0 : Nat → List (S51) → Int → Int → Option (Int)
 | 0, _, _, _ => none
 | k + 1, x0, x1, x5 => if x5 < (x0.length : Int) then (if 0 ≤ x5 then ((laws_markText.f k x1).bind fun t10 => (if ((rd_T51 x0 x5).f0).toList = t10.toList then ((laws_markText.f k (wrap64 (x1 + 1))).bind fun t11 => (if ((rd_T51 x0 x5).f1).toList = t11.toList then ((laws_heldStringS.f k ((rd_T51 x0 x5).f2) (wrap64 ((wrap64 (x1 + 1)) + 1))).bind fun t12 => (if t12 < 0 then (some (-1)) else (laws_heldBlockS.l0 k x0 t12 (wrap64 (x5 + 1))))) else (some (-1)))) else (some (-1)))) else (none)) else (some x1)
def laws_heldBlockS.f (k : Nat) (l0 : List (S51)) (a1 : Int) : Option (Int) := laws_heldBlockS.l0 k l0 a1 0
def laws_heldBlockS.T4 : Bool × List (List Nat × List Nat) := (true, [([], []), ([], []), ([0, 1], [0, 1]), ([2], [2]), ([3], [3]), ([], []), ([5], [5]), ([4, 6], [4, 6])])
def laws_heldBlockS.B4 : List Nat := [0, 0, 3, 7, 15, 0, 32, 127]
theorem laws_heldBlockS.tab4 : rtab .any (opsOf Try.f15 4) = laws_heldBlockS.T4 := by kernel_rfl
theorem laws_heldBlockS.bits4 : waitsOk laws_heldBlockS.T4.2 laws_heldBlockS.B4 = true := by kernel_rfl
def laws_heldBlockS.T7 : Bool × List (List Nat × List Nat) := (true, [([], []), ([], []), ([0, 1], [0, 1]), ([2], [2]), ([3], [3]), ([], []), ([5], [5]), ([4, 6], [4, 6])])
def laws_heldBlockS.B7 : List Nat := [0, 0, 3, 7, 15, 0, 32, 127]
theorem laws_heldBlockS.tab7 : rtab .any (opsOf Try.f15 7) = laws_heldBlockS.T7 := by kernel_rfl
theorem laws_heldBlockS.bits7 : waitsOk laws_heldBlockS.T7.2 laws_heldBlockS.B7 = true := by kernel_rfl
theorem laws_heldBlockS.calls (k : Nat) (A0 : Option Addr) (c0 : Nat) (l0 : List (S51)) (a1 : Int) (r : Int) (w : World) (hr0 : Kd.C k51 w A0 l0.length l0) (hc0 : l0.length ≤ c0) (h : laws_heldBlockS.f k l0 a1 = some r) :
  Calls Try.prog 15 #[.slice A0 l0.length c0, .int .i64 a1] w fun e w' => e = .returned (.int .i64 r) ∧ Below w.heap.size w w' := by
 have HR0 := zA hr0; have HC0 := zA hc0; clear hr0 hc0; have HB := zA (Below.refl w.heap.size w); have H : (laws_heldBlockS.l0 k l0 a1 0) = some r := h; clear h; have H' := zA H; clear H; go_enter Try.func15, Try.ntmps15; go_wp2; go_loopg [1, 5] k (fun kq v1 v5 w' => ∃ (x1_1 : Int) (x5_1 : Int), v1 = .int .i64 x1_1 ∧ v5 = .int .i64 x5_1 ∧ Aside0 (laws_heldBlockS.l0 kq l0 x1_1 x5_1 = some r) ∧ Aside0 (kq ≤ k) ∧ Aside0 (Below w.heap.size w w'))
 case atStart => exact ⟨(a1), (0), (by first | rfl | (simp; done) | (simp [*]; done) | (simp [bne]; done)), (by first | rfl | (simp; done) | (simp [*]; done) | (simp [bne]; done)), H', ⟨Nat.le_refl _⟩, ⟨by (with_reducible repeat first | exact HB.out | apply zH | apply zF | apply zG) <;> exact HB.out⟩⟩
 case round =>
  clear H'
  try clear c1
  try clear p2
  obtain ⟨x1_1, x5_1, rfl, rfl, HA, HK1, HB⟩ := hrel
  cases gk with
  | zero => exact absurd HA.out (by simp [laws_heldBlockS.l0])
  | succ k1 =>
   have H := HA.out; clear HA; simp only [laws_heldBlockS.l0] at H
   by_cases c3 : x5_1 < (l0.length : Int)
   ·rw [if_pos c3] at H
    have c3b0 : decide (x5_1 < (l0.length : Int)) = true := zX c3; clear c3
    by_cases c4 : 0 ≤ x5_1
    ·rw [if_pos c4] at H
     have c4b0 : decide (0 ≤ x5_1) = true := zX c4; clear c4; replace H := zAF H; obtain ⟨t27, A50, H⟩ := H; replace H : (if ((rd_T51 l0 x5_1).f0).toList = t27.toList then ((laws_markText.f k1 (wrap64 (x1_1 + 1))).bind fun t28 => (if ((rd_T51 l0 x5_1).f1).toList = t28.toList then ((laws_heldStringS.f k1 ((rd_T51 l0 x5_1).f2) (wrap64 ((wrap64 (x1_1 + 1)) + 1))).bind fun t29 => (if t29 < 0 then (some (-1)) else (laws_heldBlockS.l0 k1 l0 t29 (wrap64 (x5_1 + 1))))) else (some (-1)))) else (some (-1))) = some r := H; have A5 := zA A50; clear A50
     by_cases c6 : ((rd_T51 l0 x5_1).f0).toList = t27.toList
     ·rw [if_pos c6] at H
      have c6b0 : (((rd_T51 l0 x5_1).f0).toList == t27.toList) = true := beq_iff_eq.mpr c6; have c6b1 : (((rd_T51 l0 x5_1).f0).toList != t27.toList) = false := bne_eq_false_iff_eq.mpr c6; clear c6; replace H := zAF H; obtain ⟨t28, A70, H⟩ := H; replace H : (if ((rd_T51 l0 x5_1).f1).toList = t28.toList then ((laws_heldStringS.f k1 ((rd_T51 l0 x5_1).f2) (wrap64 ((wrap64 (x1_1 + 1)) + 1))).bind fun t29 => (if t29 < 0 then (some (-1)) else (laws_heldBlockS.l0 k1 l0 t29 (wrap64 (x5_1 + 1))))) else (some (-1))) = some r := H; have A7 := zA A70; clear A70
      by_cases c8 : ((rd_T51 l0 x5_1).f1).toList = t28.toList
      ·rw [if_pos c8] at H
       have c8b0 : (((rd_T51 l0 x5_1).f1).toList == t28.toList) = true := beq_iff_eq.mpr c8; have c8b1 : (((rd_T51 l0 x5_1).f1).toList != t28.toList) = false := bne_eq_false_iff_eq.mpr c8; clear c8; replace H := zAF H; obtain ⟨t29, A90, H⟩ := H; replace H : (if t29 < 0 then (some (-1)) else (laws_heldBlockS.l0 k1 l0 t29 (wrap64 (x5_1 + 1)))) = some r := H; have A9 := zA A90; clear A90
       by_cases c10 : t29 < 0
       ·rw [if_pos c10] at H
        have c10b0 : decide (t29 < 0) = true := zX c10; clear c10; obtain rfl := yM H
        try go_wp2
        have n0_ := zA (zG HB.out); clear HB; have HB := n0_; clear n0_; have p30 : 0 ≤ (x5_1 : Int) := zW (by first | (with_reducible assumption) | assumption); have q30 : x5_1 < (l0.length : Int) := zW (by first | (with_reducible assumption) | assumption); obtain ⟨ad30, A30_2, c30_2, e30, hx30_0, hx30_1, hx30_2, hl30_2, hi30_2⟩ := at_T51 HR0.out x5_1 p30 q30; have hw30_2 := hx30_2; have hw30_1 := hx30_1; have hw30_0 := hx30_0
        cases e30
        have hy30_2 := zA hx30_2; replace hx30_0 := (HB.out.cell (zB w _ hx30_0)).trans hx30_0; replace hx30_1 := (HB.out.cell (zB w _ hx30_1)).trans hx30_1; replace hx30_2 := (HB.out.cell (zB w _ hx30_2)).trans hx30_2; have HR30_2 := zA hi30_2; have HC30_2 := zA hl30_2; clear hi30_2 hl30_2; replace p30 := eq_true p30; replace q30 := eq_true q30; refine start_ (n := 8) (S := fun w' => w'.cell? (ad30.add ((x5_1).toNat * 3)) = some (.string ((rd_T51 l0 x5_1).f0)) ∧ w'.cell? ⟨(ad30.add ((x5_1).toNat * 3)).block, (ad30.add ((x5_1).toNat * 3)).off + 1, none⟩ = some (.string ((rd_T51 l0 x5_1).f1)) ∧ w'.cell? ⟨(ad30.add ((x5_1).toNat * 3)).block, (ad30.add ((x5_1).toNat * 3)).off + 2, none⟩ = some (.slice A30_2 ((rd_T51 l0 x5_1).f2).length c30_2)) (ds := []) #[false, false, false, false, false, false, false, false] (by kernel_rfl) rfl rfl ⟨((HB.out.cell (zB w _ hw30_0)).trans hw30_0), ((HB.out.cell (zB w _ hw30_1)).trans hw30_1), ((HB.out.cell (zB w _ hw30_2)).trans hw30_2)⟩ (fun hHeld => ?_); refine with_tabW laws_heldBlockS.tab4 laws_heldBlockS.bits4 (fun HT_ HW_ => ?_); generalize wr.drew = w11 at HB HR30_2 hx30_0 hx30_1 hx30_2 hHeld ⊢; refine pure_ (i := 0) (N := some 12) (v := ?_) (a' := ?_) #[true, false, false, false, false, false, false, false] rfl rfl (any_of HT_.out (by kernel_rfl)) (fun _ _ _ h => h) (Or.inl ⟨by rfl, ?_⟩) ?_ ?_; rotate_left
        ·intro w'
         go_simp
         with_reducible rfl
        rotate_left
        ·simp only [Act.put, zC, zD, zE, i64_w]
         rfl
        refine pure_ (i := 1) (N := some 13) (v := ?_) (a' := ?_) #[true, true, false, false, false, false, false, false] rfl rfl (any_of HT_.out (by kernel_rfl)) (fun _ _ _ h => h) (Or.inl ⟨by rfl, ?_⟩) ?_ ?_; rotate_left
        ·intro w'
         go_simp
         with_reducible rfl
        rotate_left
        ·simp only [Act.put, zC, zD, zE, i64_w]
         rfl
        refine pure_ (i := 2) (N := some 14) (v := ?_) (a' := ?_) #[true, true, true, false, false, false, false, false] rfl rfl (any_of HT_.out (by kernel_rfl)) (fun _ _ _ h => h) (Or.inl ⟨by rfl, ?_⟩) ?_ ?_; rotate_left
        ·intro w'
         go_simp
         with_reducible rfl
        rotate_left
        ·simp only [Act.put, zC, zD, zE, i64_w]
         rfl
        refine pure_ (i := 3) (N := some 15) (v := ?_) (a' := ?_) #[true, true, true, true, false, false, false, false] rfl rfl (any_of HT_.out (by kernel_rfl)) (fun _ _ _ h => h) (Or.inl ⟨by rfl, ?_⟩) ?_ ?_; rotate_left
        ·intro w'
         go_simp
         with_reducible rfl
        rotate_left
        ·simp only [Act.put, zC, zD, zE, i64_w]
         rfl
        refine pure_ (i := 5) (N := some 17) (v := ?_) (a' := ?_) #[true, true, true, true, false, true, false, false] rfl rfl (any_of HT_.out (by kernel_rfl)) (fun _ _ _ h => h) (Or.inl ⟨by rfl, ?_⟩) ?_ ?_; rotate_left
        ·intro w'
         go_simp
         with_reducible rfl
        rotate_left
        ·simp only [Act.put, zC, zD, zE, i64_w]
         rfl
        refine take_ (i := 4) (N := some 16) (v := ?_) (a' := ?_) #[true, true, true, true, true, true, false, false] rfl rfl (take_ofW HT_.out HW_.out (by kernel_rfl)) (fun _ _ _ h => h) (Or.inl ⟨by rfl, ?_⟩) hHeld ?_ ?_; rotate_left
        ·rintro w' ⟨s0, s1, s2⟩
         go_simp
         with_reducible rfl
        rotate_left
        ·simp only [Act.put, zC, zD, zE, i64_w]
         rfl
        refine one_ (i := 6) (N := some 18) #[true, true, true, true, true, true, true, false] rfl rfl (one_of HT_.out (by kernel_rfl)) (by decide) (fun K hK => ?_); refine goes_ Try.func36 (by kernel_rfl) rfl #[.int .i64 x1_1] (by rfl) rfl rfl (by (try simp only [zAA, zAB, zAC]); first | done | rfl) ?_
        with_reducible refine (laws_markText.calls k1 x1_1 t27 _ A5.out).mono ?_
        rintro e w12 ⟨rfl, hb⟩; refine ⟨_, rfl, ?_⟩; have n0_ := zA (zAD (by (with_reducible repeat first | exact HB.out | apply zH | apply zF | apply zG) <;> exact HB.out) hb); clear HB; have HB := n0_; clear n0_; (try clear hb); refine hK.out _ _ ⟨((HB.out.cell (zB w _ hw30_0)).trans hw30_0), ((HB.out.cell (zB w _ hw30_1)).trans hw30_1), ((HB.out.cell (zB w _ hw30_2)).trans hw30_2)⟩ (fun hHeld => ?_); clear hK K; refine norm_ (a' := ?_) ?_ ?_; rotate_left
        ·show Act.put _ (some 18) _ = _
         simp only [Act.put, zC, zD, zE, i64_w]; rfl
        refine pure_ (i := 7) (N := some 19) (v := ?_) (a' := ?_) #[true, true, true, true, true, true, true, true] rfl rfl (any_of HT_.out (by kernel_rfl)) (fun _ _ _ h => h) (Or.inl ⟨by rfl, ?_⟩) ?_ ?_; rotate_left
        ·intro w'
         go_simp
         with_reducible rfl
        rotate_left
        ·simp only [Act.put, zC, zD, zE, i64_w]
         rfl
        refine done_ (done_of HT_.out (by kernel_rfl)) ?_
        try go_wp2
        have n0_ := zA (zG HB.out); clear HB; have HB := n0_; clear n0_; have p31 : 0 ≤ (x5_1 : Int) := zW (by first | (with_reducible assumption) | assumption); have q31 : x5_1 < (l0.length : Int) := zW (by first | (with_reducible assumption) | assumption); obtain ⟨ad31, A31_2, c31_2, e31, hx31_0, hx31_1, hx31_2, hl31_2, hi31_2⟩ := at_T51 HR0.out x5_1 p31 q31; have hw31_2 := hx31_2; have hw31_1 := hx31_1; have hw31_0 := hx31_0; obtain rfl : ad30 = ad31 := (by injection e31); have ez_ := hy30_2.out.symm.trans hx31_2; injection ez_ with ez_; injection ez_ with ez1_ _ ez3_; subst ez1_; subst ez3_
        replace hx31_0 := (HB.out.cell (zB w _ hx31_0)).trans hx31_0; replace hx31_1 := (HB.out.cell (zB w _ hx31_1)).trans hx31_1; replace hx31_2 := (HB.out.cell (zB w _ hx31_2)).trans hx31_2; have HR31_2 := zA hi31_2; have HC31_2 := zA hl31_2; clear hi31_2 hl31_2; replace p31 := eq_true p31; replace q31 := eq_true q31; refine start_ (n := 8) (S := fun w' => w'.cell? (ad30.add ((x5_1).toNat * 3)) = some (.string ((rd_T51 l0 x5_1).f0)) ∧ w'.cell? ⟨(ad30.add ((x5_1).toNat * 3)).block, (ad30.add ((x5_1).toNat * 3)).off + 1, none⟩ = some (.string ((rd_T51 l0 x5_1).f1)) ∧ w'.cell? ⟨(ad30.add ((x5_1).toNat * 3)).block, (ad30.add ((x5_1).toNat * 3)).off + 2, none⟩ = some (.slice A30_2 ((rd_T51 l0 x5_1).f2).length c30_2)) (ds := []) #[false, false, false, false, false, false, false, false] (by kernel_rfl) rfl rfl ⟨((HB.out.cell (zB w _ hw31_0)).trans hw31_0), ((HB.out.cell (zB w _ hw31_1)).trans hw31_1), ((HB.out.cell (zB w _ hw31_2)).trans hw31_2)⟩ (fun hHeld => ?_); refine with_tabW laws_heldBlockS.tab7 laws_heldBlockS.bits7 (fun HT_ HW_ => ?_); generalize w12.drew = w13 at HB HR31_2 hx31_0 hx31_1 hx31_2 hHeld ⊢; refine pure_ (i := 0) (N := some 22) (v := ?_) (a' := ?_) #[true, false, false, false, false, false, false, false] rfl rfl (any_of HT_.out (by kernel_rfl)) (fun _ _ _ h => h) (Or.inl ⟨by rfl, ?_⟩) ?_ ?_; rotate_left
        ·intro w'
         go_simp
         with_reducible rfl
        rotate_left
        ·simp only [Act.put, zC, zD, zE, i64_w]
         rfl
        refine pure_ (i := 1) (N := some 23) (v := ?_) (a' := ?_) #[true, true, false, false, false, false, false, false] rfl rfl (any_of HT_.out (by kernel_rfl)) (fun _ _ _ h => h) (Or.inl ⟨by rfl, ?_⟩) ?_ ?_; rotate_left
        ·intro w'
         go_simp
         with_reducible rfl
        rotate_left
        ·simp only [Act.put, zC, zD, zE, i64_w]
         rfl
        refine pure_ (i := 2) (N := some 24) (v := ?_) (a' := ?_) #[true, true, true, false, false, false, false, false] rfl rfl (any_of HT_.out (by kernel_rfl)) (fun _ _ _ h => h) (Or.inl ⟨by rfl, ?_⟩) ?_ ?_; rotate_left
        ·intro w'
         go_simp
         with_reducible rfl
        rotate_left
        ·simp only [Act.put, zC, zD, zE, i64_w]
         rfl
        refine pure_ (i := 3) (N := some 25) (v := ?_) (a' := ?_) #[true, true, true, true, false, false, false, false] rfl rfl (any_of HT_.out (by kernel_rfl)) (fun _ _ _ h => h) (Or.inl ⟨by rfl, ?_⟩) ?_ ?_; rotate_left
        ·intro w'
         go_simp
         with_reducible rfl
        rotate_left
        ·simp only [Act.put, zC, zD, zE, i64_w]
         rfl
        refine pure_ (i := 5) (N := some 27) (v := ?_) (a' := ?_) #[true, true, true, true, false, true, false, false] rfl rfl (any_of HT_.out (by kernel_rfl)) (fun _ _ _ h => h) (Or.inl ⟨by rfl, ?_⟩) ?_ ?_; rotate_left
        ·intro w'
         go_simp
         with_reducible rfl
        rotate_left
        ·simp only [Act.put, zC, zD, zE, i64_w]
         rfl
        refine take_ (i := 4) (N := some 26) (v := ?_) (a' := ?_) #[true, true, true, true, true, true, false, false] rfl rfl (take_ofW HT_.out HW_.out (by kernel_rfl)) (fun _ _ _ h => h) (Or.inl ⟨by rfl, ?_⟩) hHeld ?_ ?_; rotate_left
        ·rintro w' ⟨s0, s1, s2⟩
         go_simp
         with_reducible rfl
        rotate_left
        ·simp only [Act.put, zC, zD, zE, i64_w]
         rfl
        refine one_ (i := 6) (N := some 28) #[true, true, true, true, true, true, true, false] rfl rfl (one_of HT_.out (by kernel_rfl)) (by decide) (fun K hK => ?_); refine goes_ Try.func36 (by kernel_rfl) rfl #[.int .i64 (wrap64 (x1_1 + 1))] (by rfl) rfl rfl (by (try simp only [zAA, zAB, zAC]); first | done | rfl) ?_
        with_reducible refine (laws_markText.calls k1 (wrap64 (x1_1 + 1)) t28 _ A7.out).mono ?_
        rintro e w14 ⟨rfl, hb⟩; refine ⟨_, rfl, ?_⟩; have n0_ := zA (zAD (by (with_reducible repeat first | exact HB.out | apply zH | apply zF | apply zG) <;> exact HB.out) hb); clear HB; have HB := n0_; clear n0_; (try clear hb); refine hK.out _ _ ⟨((HB.out.cell (zB w _ hw31_0)).trans hw31_0), ((HB.out.cell (zB w _ hw31_1)).trans hw31_1), ((HB.out.cell (zB w _ hw31_2)).trans hw31_2)⟩ (fun hHeld => ?_); clear hK K; refine norm_ (a' := ?_) ?_ ?_; rotate_left
        ·show Act.put _ (some 28) _ = _
         simp only [Act.put, zC, zD, zE, i64_w]; rfl
        refine pure_ (i := 7) (N := some 29) (v := ?_) (a' := ?_) #[true, true, true, true, true, true, true, true] rfl rfl (any_of HT_.out (by kernel_rfl)) (fun _ _ _ h => h) (Or.inl ⟨by rfl, ?_⟩) ?_ ?_; rotate_left
        ·intro w'
         go_simp
         with_reducible rfl
        rotate_left
        ·simp only [Act.put, zC, zD, zE, i64_w]
         rfl
        refine done_ (done_of HT_.out (by kernel_rfl)) ?_; have p33 : 0 ≤ (x5_1 : Int) := zW (by first | (with_reducible assumption) | assumption); have q33 : x5_1 < (l0.length : Int) := zW (by first | (with_reducible assumption) | assumption); obtain ⟨ad33, A33_2, c33_2, e33, hx33_0, hx33_1, hx33_2, hl33_2, hi33_2⟩ := at_T51 HR0.out x5_1 p33 q33; obtain rfl : ad30 = ad33 := (by injection e33); have ez_ := hy30_2.out.symm.trans hx33_2; injection ez_ with ez_; injection ez_ with ez1_ _ ez3_; subst ez1_; subst ez3_
        replace hx33_0 := (HB.out.cell (zB w _ hx33_0)).trans hx33_0; replace hx33_1 := (HB.out.cell (zB w _ hx33_1)).trans hx33_1; replace hx33_2 := (HB.out.cell (zB w _ hx33_2)).trans hx33_2; have HR33_2 := zA hi33_2; have HC33_2 := zA hl33_2; clear hi33_2 hl33_2; replace p33 := eq_true p33; replace q33 := eq_true q33
        try go_wp2_with (first | ((with_reducible refine yB (f := 37) rfl ?_); refine goesL_ (some 38) rfl rfl Try.func37 (by kernel_rfl) rfl #[.slice A30_2 ((rd_T51 l0 x5_1).f2).length c30_2, .int .i64 (wrap64 ((wrap64 (x1_1 + 1)) + 1))] rfl (by (try simp only [zAA, zAB, zAC]); first | done | rfl | (simp only [zZ, zY]; rfl)) ?_; (with_reducible refine (laws_heldStringS.calls k1 _ _ ((rd_T51 l0 x5_1).f2) (wrap64 ((wrap64 (x1_1 + 1)) + 1)) t29 _ ?side1 ?side2 A9.out).mono ?_); (case side1 => repeat (first | exact (yN HR33_2.out HB.out) | (with_reducible first | refine zT ?_ _ | refine zU ?_ _ | refine zV ?_))); (case side2 => exact HC33_2.out); rintro e w15 ⟨rfl, hb⟩; refine ⟨_, rfl, ?_⟩; have n0_ := zA (zAD (by (with_reducible repeat first | exact HB.out | apply zH | apply zF | apply zG) <;> exact HB.out) hb); clear HB; have HB := n0_; clear n0_; (try clear hb)))
        go_ret; exact ⟨by first | rfl | (simp <;> rfl) | (simp [*] <;> rfl), by (with_reducible repeat first | exact HB.out | apply zH | apply zF | apply zG) <;> exact HB.out⟩
       ·rw [if_neg c10] at H
        have c10b0 : decide (t29 < 0) = false := decide_eq_false c10; clear c10; have H' := zA H; clear H
        try go_wp2
        have n0_ := zA (zG HB.out); clear HB; have HB := n0_; clear n0_; have p30 : 0 ≤ (x5_1 : Int) := zW (by first | (with_reducible assumption) | assumption); have q30 : x5_1 < (l0.length : Int) := zW (by first | (with_reducible assumption) | assumption); obtain ⟨ad30, A30_2, c30_2, e30, hx30_0, hx30_1, hx30_2, hl30_2, hi30_2⟩ := at_T51 HR0.out x5_1 p30 q30; have hw30_2 := hx30_2; have hw30_1 := hx30_1; have hw30_0 := hx30_0
        cases e30
        have hy30_2 := zA hx30_2; replace hx30_0 := (HB.out.cell (zB w _ hx30_0)).trans hx30_0; replace hx30_1 := (HB.out.cell (zB w _ hx30_1)).trans hx30_1; replace hx30_2 := (HB.out.cell (zB w _ hx30_2)).trans hx30_2; have HR30_2 := zA hi30_2; have HC30_2 := zA hl30_2; clear hi30_2 hl30_2; replace p30 := eq_true p30; replace q30 := eq_true q30; refine start_ (n := 8) (S := fun w' => w'.cell? (ad30.add ((x5_1).toNat * 3)) = some (.string ((rd_T51 l0 x5_1).f0)) ∧ w'.cell? ⟨(ad30.add ((x5_1).toNat * 3)).block, (ad30.add ((x5_1).toNat * 3)).off + 1, none⟩ = some (.string ((rd_T51 l0 x5_1).f1)) ∧ w'.cell? ⟨(ad30.add ((x5_1).toNat * 3)).block, (ad30.add ((x5_1).toNat * 3)).off + 2, none⟩ = some (.slice A30_2 ((rd_T51 l0 x5_1).f2).length c30_2)) (ds := []) #[false, false, false, false, false, false, false, false] (by kernel_rfl) rfl rfl ⟨((HB.out.cell (zB w _ hw30_0)).trans hw30_0), ((HB.out.cell (zB w _ hw30_1)).trans hw30_1), ((HB.out.cell (zB w _ hw30_2)).trans hw30_2)⟩ (fun hHeld => ?_); refine with_tabW laws_heldBlockS.tab4 laws_heldBlockS.bits4 (fun HT_ HW_ => ?_); generalize wr.drew = w16 at HB HR30_2 hx30_0 hx30_1 hx30_2 hHeld ⊢; refine pure_ (i := 0) (N := some 12) (v := ?_) (a' := ?_) #[true, false, false, false, false, false, false, false] rfl rfl (any_of HT_.out (by kernel_rfl)) (fun _ _ _ h => h) (Or.inl ⟨by rfl, ?_⟩) ?_ ?_; rotate_left
        ·intro w'
         go_simp
         with_reducible rfl
        rotate_left
        ·simp only [Act.put, zC, zD, zE, i64_w]
         rfl
        refine pure_ (i := 1) (N := some 13) (v := ?_) (a' := ?_) #[true, true, false, false, false, false, false, false] rfl rfl (any_of HT_.out (by kernel_rfl)) (fun _ _ _ h => h) (Or.inl ⟨by rfl, ?_⟩) ?_ ?_; rotate_left
        ·intro w'
         go_simp
         with_reducible rfl
        rotate_left
        ·simp only [Act.put, zC, zD, zE, i64_w]
         rfl
        refine pure_ (i := 2) (N := some 14) (v := ?_) (a' := ?_) #[true, true, true, false, false, false, false, false] rfl rfl (any_of HT_.out (by kernel_rfl)) (fun _ _ _ h => h) (Or.inl ⟨by rfl, ?_⟩) ?_ ?_; rotate_left
        ·intro w'
         go_simp
         with_reducible rfl
        rotate_left
        ·simp only [Act.put, zC, zD, zE, i64_w]
         rfl
        refine pure_ (i := 3) (N := some 15) (v := ?_) (a' := ?_) #[true, true, true, true, false, false, false, false] rfl rfl (any_of HT_.out (by kernel_rfl)) (fun _ _ _ h => h) (Or.inl ⟨by rfl, ?_⟩) ?_ ?_; rotate_left
        ·intro w'
         go_simp
         with_reducible rfl
        rotate_left
        ·simp only [Act.put, zC, zD, zE, i64_w]
         rfl
        refine pure_ (i := 5) (N := some 17) (v := ?_) (a' := ?_) #[true, true, true, true, false, true, false, false] rfl rfl (any_of HT_.out (by kernel_rfl)) (fun _ _ _ h => h) (Or.inl ⟨by rfl, ?_⟩) ?_ ?_; rotate_left
        ·intro w'
         go_simp
         with_reducible rfl
        rotate_left
        ·simp only [Act.put, zC, zD, zE, i64_w]
         rfl
        refine take_ (i := 4) (N := some 16) (v := ?_) (a' := ?_) #[true, true, true, true, true, true, false, false] rfl rfl (take_ofW HT_.out HW_.out (by kernel_rfl)) (fun _ _ _ h => h) (Or.inl ⟨by rfl, ?_⟩) hHeld ?_ ?_; rotate_left
        ·rintro w' ⟨s0, s1, s2⟩
         go_simp
         with_reducible rfl
        rotate_left
        ·simp only [Act.put, zC, zD, zE, i64_w]
         rfl
        refine one_ (i := 6) (N := some 18) #[true, true, true, true, true, true, true, false] rfl rfl (one_of HT_.out (by kernel_rfl)) (by decide) (fun K hK => ?_); refine goes_ Try.func36 (by kernel_rfl) rfl #[.int .i64 x1_1] (by rfl) rfl rfl (by (try simp only [zAA, zAB, zAC]); first | done | rfl) ?_
        with_reducible refine (laws_markText.calls k1 x1_1 t27 _ A5.out).mono ?_
        rintro e w17 ⟨rfl, hb⟩; refine ⟨_, rfl, ?_⟩; have n0_ := zA (zAD (by (with_reducible repeat first | exact HB.out | apply zH | apply zF | apply zG) <;> exact HB.out) hb); clear HB; have HB := n0_; clear n0_; (try clear hb); refine hK.out _ _ ⟨((HB.out.cell (zB w _ hw30_0)).trans hw30_0), ((HB.out.cell (zB w _ hw30_1)).trans hw30_1), ((HB.out.cell (zB w _ hw30_2)).trans hw30_2)⟩ (fun hHeld => ?_); clear hK K; refine norm_ (a' := ?_) ?_ ?_; rotate_left
        ·show Act.put _ (some 18) _ = _
         simp only [Act.put, zC, zD, zE, i64_w]; rfl
        refine pure_ (i := 7) (N := some 19) (v := ?_) (a' := ?_) #[true, true, true, true, true, true, true, true] rfl rfl (any_of HT_.out (by kernel_rfl)) (fun _ _ _ h => h) (Or.inl ⟨by rfl, ?_⟩) ?_ ?_; rotate_left
        ·intro w'
         go_simp
         with_reducible rfl
        rotate_left
        ·simp only [Act.put, zC, zD, zE, i64_w]
         rfl
        refine done_ (done_of HT_.out (by kernel_rfl)) ?_
        try go_wp2
        have n0_ := zA (zG HB.out); clear HB; have HB := n0_; clear n0_; have p31 : 0 ≤ (x5_1 : Int) := zW (by first | (with_reducible assumption) | assumption); have q31 : x5_1 < (l0.length : Int) := zW (by first | (with_reducible assumption) | assumption); obtain ⟨ad31, A31_2, c31_2, e31, hx31_0, hx31_1, hx31_2, hl31_2, hi31_2⟩ := at_T51 HR0.out x5_1 p31 q31; have hw31_2 := hx31_2; have hw31_1 := hx31_1; have hw31_0 := hx31_0; obtain rfl : ad30 = ad31 := (by injection e31); have ez_ := hy30_2.out.symm.trans hx31_2; injection ez_ with ez_; injection ez_ with ez1_ _ ez3_; subst ez1_; subst ez3_
        replace hx31_0 := (HB.out.cell (zB w _ hx31_0)).trans hx31_0; replace hx31_1 := (HB.out.cell (zB w _ hx31_1)).trans hx31_1; replace hx31_2 := (HB.out.cell (zB w _ hx31_2)).trans hx31_2; have HR31_2 := zA hi31_2; have HC31_2 := zA hl31_2; clear hi31_2 hl31_2; replace p31 := eq_true p31; replace q31 := eq_true q31; refine start_ (n := 8) (S := fun w' => w'.cell? (ad30.add ((x5_1).toNat * 3)) = some (.string ((rd_T51 l0 x5_1).f0)) ∧ w'.cell? ⟨(ad30.add ((x5_1).toNat * 3)).block, (ad30.add ((x5_1).toNat * 3)).off + 1, none⟩ = some (.string ((rd_T51 l0 x5_1).f1)) ∧ w'.cell? ⟨(ad30.add ((x5_1).toNat * 3)).block, (ad30.add ((x5_1).toNat * 3)).off + 2, none⟩ = some (.slice A30_2 ((rd_T51 l0 x5_1).f2).length c30_2)) (ds := []) #[false, false, false, false, false, false, false, false] (by kernel_rfl) rfl rfl ⟨((HB.out.cell (zB w _ hw31_0)).trans hw31_0), ((HB.out.cell (zB w _ hw31_1)).trans hw31_1), ((HB.out.cell (zB w _ hw31_2)).trans hw31_2)⟩ (fun hHeld => ?_); refine with_tabW laws_heldBlockS.tab7 laws_heldBlockS.bits7 (fun HT_ HW_ => ?_); generalize w17.drew = w18 at HB HR31_2 hx31_0 hx31_1 hx31_2 hHeld ⊢; refine pure_ (i := 0) (N := some 22) (v := ?_) (a' := ?_) #[true, false, false, false, false, false, false, false] rfl rfl (any_of HT_.out (by kernel_rfl)) (fun _ _ _ h => h) (Or.inl ⟨by rfl, ?_⟩) ?_ ?_; rotate_left
        ·intro w'
         go_simp
         with_reducible rfl
        rotate_left
        ·simp only [Act.put, zC, zD, zE, i64_w]
         rfl
        refine pure_ (i := 1) (N := some 23) (v := ?_) (a' := ?_) #[true, true, false, false, false, false, false, false] rfl rfl (any_of HT_.out (by kernel_rfl)) (fun _ _ _ h => h) (Or.inl ⟨by rfl, ?_⟩) ?_ ?_; rotate_left
        ·intro w'
         go_simp
         with_reducible rfl
        rotate_left
        ·simp only [Act.put, zC, zD, zE, i64_w]
         rfl
        refine pure_ (i := 2) (N := some 24) (v := ?_) (a' := ?_) #[true, true, true, false, false, false, false, false] rfl rfl (any_of HT_.out (by kernel_rfl)) (fun _ _ _ h => h) (Or.inl ⟨by rfl, ?_⟩) ?_ ?_; rotate_left
        ·intro w'
         go_simp
         with_reducible rfl
        rotate_left
        ·simp only [Act.put, zC, zD, zE, i64_w]
         rfl
        refine pure_ (i := 3) (N := some 25) (v := ?_) (a' := ?_) #[true, true, true, true, false, false, false, false] rfl rfl (any_of HT_.out (by kernel_rfl)) (fun _ _ _ h => h) (Or.inl ⟨by rfl, ?_⟩) ?_ ?_; rotate_left
        ·intro w'
         go_simp
         with_reducible rfl
        rotate_left
        ·simp only [Act.put, zC, zD, zE, i64_w]
         rfl
        refine pure_ (i := 5) (N := some 27) (v := ?_) (a' := ?_) #[true, true, true, true, false, true, false, false] rfl rfl (any_of HT_.out (by kernel_rfl)) (fun _ _ _ h => h) (Or.inl ⟨by rfl, ?_⟩) ?_ ?_; rotate_left
        ·intro w'
         go_simp
         with_reducible rfl
        rotate_left
        ·simp only [Act.put, zC, zD, zE, i64_w]
         rfl
        refine take_ (i := 4) (N := some 26) (v := ?_) (a' := ?_) #[true, true, true, true, true, true, false, false] rfl rfl (take_ofW HT_.out HW_.out (by kernel_rfl)) (fun _ _ _ h => h) (Or.inl ⟨by rfl, ?_⟩) hHeld ?_ ?_; rotate_left
        ·rintro w' ⟨s0, s1, s2⟩
         go_simp
         with_reducible rfl
        rotate_left
        ·simp only [Act.put, zC, zD, zE, i64_w]
         rfl
        refine one_ (i := 6) (N := some 28) #[true, true, true, true, true, true, true, false] rfl rfl (one_of HT_.out (by kernel_rfl)) (by decide) (fun K hK => ?_); refine goes_ Try.func36 (by kernel_rfl) rfl #[.int .i64 (wrap64 (x1_1 + 1))] (by rfl) rfl rfl (by (try simp only [zAA, zAB, zAC]); first | done | rfl) ?_
        with_reducible refine (laws_markText.calls k1 (wrap64 (x1_1 + 1)) t28 _ A7.out).mono ?_
        rintro e w19 ⟨rfl, hb⟩; refine ⟨_, rfl, ?_⟩; have n0_ := zA (zAD (by (with_reducible repeat first | exact HB.out | apply zH | apply zF | apply zG) <;> exact HB.out) hb); clear HB; have HB := n0_; clear n0_; (try clear hb); refine hK.out _ _ ⟨((HB.out.cell (zB w _ hw31_0)).trans hw31_0), ((HB.out.cell (zB w _ hw31_1)).trans hw31_1), ((HB.out.cell (zB w _ hw31_2)).trans hw31_2)⟩ (fun hHeld => ?_); clear hK K; refine norm_ (a' := ?_) ?_ ?_; rotate_left
        ·show Act.put _ (some 28) _ = _
         simp only [Act.put, zC, zD, zE, i64_w]; rfl
        refine pure_ (i := 7) (N := some 29) (v := ?_) (a' := ?_) #[true, true, true, true, true, true, true, true] rfl rfl (any_of HT_.out (by kernel_rfl)) (fun _ _ _ h => h) (Or.inl ⟨by rfl, ?_⟩) ?_ ?_; rotate_left
        ·intro w'
         go_simp
         with_reducible rfl
        rotate_left
        ·simp only [Act.put, zC, zD, zE, i64_w]
         rfl
        refine done_ (done_of HT_.out (by kernel_rfl)) ?_; have p33 : 0 ≤ (x5_1 : Int) := zW (by first | (with_reducible assumption) | assumption); have q33 : x5_1 < (l0.length : Int) := zW (by first | (with_reducible assumption) | assumption); obtain ⟨ad33, A33_2, c33_2, e33, hx33_0, hx33_1, hx33_2, hl33_2, hi33_2⟩ := at_T51 HR0.out x5_1 p33 q33; obtain rfl : ad30 = ad33 := (by injection e33); have ez_ := hy30_2.out.symm.trans hx33_2; injection ez_ with ez_; injection ez_ with ez1_ _ ez3_; subst ez1_; subst ez3_
        replace hx33_0 := (HB.out.cell (zB w _ hx33_0)).trans hx33_0; replace hx33_1 := (HB.out.cell (zB w _ hx33_1)).trans hx33_1; replace hx33_2 := (HB.out.cell (zB w _ hx33_2)).trans hx33_2; have HR33_2 := zA hi33_2; have HC33_2 := zA hl33_2; clear hi33_2 hl33_2; replace p33 := eq_true p33; replace q33 := eq_true q33
        try go_wp2_with (first | ((with_reducible refine yB (f := 37) rfl ?_); refine goesL_ (some 38) rfl rfl Try.func37 (by kernel_rfl) rfl #[.slice A30_2 ((rd_T51 l0 x5_1).f2).length c30_2, .int .i64 (wrap64 ((wrap64 (x1_1 + 1)) + 1))] rfl (by (try simp only [zAA, zAB, zAC]); first | done | rfl | (simp only [zZ, zY]; rfl)) ?_; (with_reducible refine (laws_heldStringS.calls k1 _ _ ((rd_T51 l0 x5_1).f2) (wrap64 ((wrap64 (x1_1 + 1)) + 1)) t29 _ ?side1 ?side2 A9.out).mono ?_); (case side1 => repeat (first | exact (yN HR33_2.out HB.out) | (with_reducible first | refine zT ?_ _ | refine zU ?_ _ | refine zV ?_))); (case side2 => exact HC33_2.out); rintro e w20 ⟨rfl, hb⟩; refine ⟨_, rfl, ?_⟩; have n0_ := zA (zAD (by (with_reducible repeat first | exact HB.out | apply zH | apply zF | apply zG) <;> exact HB.out) hb); clear HB; have HB := n0_; clear n0_; (try clear hb)))
        go_roundg k1
        case measure => have := HK1.out; omega
        case rel => exact ⟨(t29), (wrap64 (x5_1 + 1)), (by first | rfl | (simp; done) | (simp [*]; done) | (simp [bne]; done)), (by first | rfl | (simp; done) | (simp [*]; done) | (simp [bne]; done)), H', ⟨by have := HK1.out; omega⟩, ⟨by (with_reducible repeat first | exact HB.out | apply zH | apply zF | apply zG) <;> exact HB.out⟩⟩
      ·rw [if_neg c8] at H
       have c8b0 : (((rd_T51 l0 x5_1).f1).toList == t28.toList) = false := beq_eq_false_iff_ne.mpr c8; have c8b1 : (((rd_T51 l0 x5_1).f1).toList != t28.toList) = true := bne_iff_ne.mpr c8; obtain rfl := yM H
       try go_wp2
       have n0_ := zA (zG HB.out); clear HB; have HB := n0_; clear n0_; have p30 : 0 ≤ (x5_1 : Int) := zW (by first | (with_reducible assumption) | assumption); have q30 : x5_1 < (l0.length : Int) := zW (by first | (with_reducible assumption) | assumption); obtain ⟨ad30, A30_2, c30_2, e30, hx30_0, hx30_1, hx30_2, hl30_2, hi30_2⟩ := at_T51 HR0.out x5_1 p30 q30; have hw30_2 := hx30_2; have hw30_1 := hx30_1; have hw30_0 := hx30_0
       cases e30
       have hy30_2 := zA hx30_2; replace hx30_0 := (HB.out.cell (zB w _ hx30_0)).trans hx30_0; replace hx30_1 := (HB.out.cell (zB w _ hx30_1)).trans hx30_1; replace hx30_2 := (HB.out.cell (zB w _ hx30_2)).trans hx30_2; have HR30_2 := zA hi30_2; have HC30_2 := zA hl30_2; clear hi30_2 hl30_2; replace p30 := eq_true p30; replace q30 := eq_true q30; refine start_ (n := 8) (S := fun w' => w'.cell? (ad30.add ((x5_1).toNat * 3)) = some (.string ((rd_T51 l0 x5_1).f0)) ∧ w'.cell? ⟨(ad30.add ((x5_1).toNat * 3)).block, (ad30.add ((x5_1).toNat * 3)).off + 1, none⟩ = some (.string ((rd_T51 l0 x5_1).f1)) ∧ w'.cell? ⟨(ad30.add ((x5_1).toNat * 3)).block, (ad30.add ((x5_1).toNat * 3)).off + 2, none⟩ = some (.slice A30_2 ((rd_T51 l0 x5_1).f2).length c30_2)) (ds := []) #[false, false, false, false, false, false, false, false] (by kernel_rfl) rfl rfl ⟨((HB.out.cell (zB w _ hw30_0)).trans hw30_0), ((HB.out.cell (zB w _ hw30_1)).trans hw30_1), ((HB.out.cell (zB w _ hw30_2)).trans hw30_2)⟩ (fun hHeld => ?_); refine with_tabW laws_heldBlockS.tab4 laws_heldBlockS.bits4 (fun HT_ HW_ => ?_); generalize wr.drew = w21 at HB HR30_2 hx30_0 hx30_1 hx30_2 hHeld ⊢; refine pure_ (i := 0) (N := some 12) (v := ?_) (a' := ?_) #[true, false, false, false, false, false, false, false] rfl rfl (any_of HT_.out (by kernel_rfl)) (fun _ _ _ h => h) (Or.inl ⟨by rfl, ?_⟩) ?_ ?_; rotate_left
       ·intro w'
        go_simp
        with_reducible rfl
       rotate_left
       ·simp only [Act.put, zC, zD, zE, i64_w]
        rfl
       refine pure_ (i := 1) (N := some 13) (v := ?_) (a' := ?_) #[true, true, false, false, false, false, false, false] rfl rfl (any_of HT_.out (by kernel_rfl)) (fun _ _ _ h => h) (Or.inl ⟨by rfl, ?_⟩) ?_ ?_; rotate_left
       ·intro w'
        go_simp
        with_reducible rfl
       rotate_left
       ·simp only [Act.put, zC, zD, zE, i64_w]
        rfl
       refine pure_ (i := 2) (N := some 14) (v := ?_) (a' := ?_) #[true, true, true, false, false, false, false, false] rfl rfl (any_of HT_.out (by kernel_rfl)) (fun _ _ _ h => h) (Or.inl ⟨by rfl, ?_⟩) ?_ ?_; rotate_left
       ·intro w'
        go_simp
        with_reducible rfl
       rotate_left
       ·simp only [Act.put, zC, zD, zE, i64_w]
        rfl
       refine pure_ (i := 3) (N := some 15) (v := ?_) (a' := ?_) #[true, true, true, true, false, false, false, false] rfl rfl (any_of HT_.out (by kernel_rfl)) (fun _ _ _ h => h) (Or.inl ⟨by rfl, ?_⟩) ?_ ?_; rotate_left
       ·intro w'
        go_simp
        with_reducible rfl
       rotate_left
       ·simp only [Act.put, zC, zD, zE, i64_w]
        rfl
       refine pure_ (i := 5) (N := some 17) (v := ?_) (a' := ?_) #[true, true, true, true, false, true, false, false] rfl rfl (any_of HT_.out (by kernel_rfl)) (fun _ _ _ h => h) (Or.inl ⟨by rfl, ?_⟩) ?_ ?_; rotate_left
       ·intro w'
        go_simp
        with_reducible rfl
       rotate_left
       ·simp only [Act.put, zC, zD, zE, i64_w]
        rfl
       refine take_ (i := 4) (N := some 16) (v := ?_) (a' := ?_) #[true, true, true, true, true, true, false, false] rfl rfl (take_ofW HT_.out HW_.out (by kernel_rfl)) (fun _ _ _ h => h) (Or.inl ⟨by rfl, ?_⟩) hHeld ?_ ?_; rotate_left
       ·rintro w' ⟨s0, s1, s2⟩
        go_simp
        with_reducible rfl
       rotate_left
       ·simp only [Act.put, zC, zD, zE, i64_w]
        rfl
       refine one_ (i := 6) (N := some 18) #[true, true, true, true, true, true, true, false] rfl rfl (one_of HT_.out (by kernel_rfl)) (by decide) (fun K hK => ?_); refine goes_ Try.func36 (by kernel_rfl) rfl #[.int .i64 x1_1] (by rfl) rfl rfl (by (try simp only [zAA, zAB, zAC]); first | done | rfl) ?_
       with_reducible refine (laws_markText.calls k1 x1_1 t27 _ A5.out).mono ?_
       rintro e w22 ⟨rfl, hb⟩; refine ⟨_, rfl, ?_⟩; have n0_ := zA (zAD (by (with_reducible repeat first | exact HB.out | apply zH | apply zF | apply zG) <;> exact HB.out) hb); clear HB; have HB := n0_; clear n0_; (try clear hb); refine hK.out _ _ ⟨((HB.out.cell (zB w _ hw30_0)).trans hw30_0), ((HB.out.cell (zB w _ hw30_1)).trans hw30_1), ((HB.out.cell (zB w _ hw30_2)).trans hw30_2)⟩ (fun hHeld => ?_); clear hK K; refine norm_ (a' := ?_) ?_ ?_; rotate_left
       ·show Act.put _ (some 18) _ = _
        simp only [Act.put, zC, zD, zE, i64_w]; rfl
       refine pure_ (i := 7) (N := some 19) (v := ?_) (a' := ?_) #[true, true, true, true, true, true, true, true] rfl rfl (any_of HT_.out (by kernel_rfl)) (fun _ _ _ h => h) (Or.inl ⟨by rfl, ?_⟩) ?_ ?_; rotate_left
       ·intro w'
        go_simp
        with_reducible rfl
       rotate_left
       ·simp only [Act.put, zC, zD, zE, i64_w]
        rfl
       refine done_ (done_of HT_.out (by kernel_rfl)) ?_
       try go_wp2
       have n0_ := zA (zG HB.out); clear HB; have HB := n0_; clear n0_; have p31 : 0 ≤ (x5_1 : Int) := zW (by first | (with_reducible assumption) | assumption); have q31 : x5_1 < (l0.length : Int) := zW (by first | (with_reducible assumption) | assumption); obtain ⟨ad31, A31_2, c31_2, e31, hx31_0, hx31_1, hx31_2, hl31_2, hi31_2⟩ := at_T51 HR0.out x5_1 p31 q31; have hw31_2 := hx31_2; have hw31_1 := hx31_1; have hw31_0 := hx31_0; obtain rfl : ad30 = ad31 := (by injection e31); have ez_ := hy30_2.out.symm.trans hx31_2; injection ez_ with ez_; injection ez_ with ez1_ _ ez3_; subst ez1_; subst ez3_
       replace hx31_0 := (HB.out.cell (zB w _ hx31_0)).trans hx31_0; replace hx31_1 := (HB.out.cell (zB w _ hx31_1)).trans hx31_1; replace hx31_2 := (HB.out.cell (zB w _ hx31_2)).trans hx31_2; have HR31_2 := zA hi31_2; have HC31_2 := zA hl31_2; clear hi31_2 hl31_2; replace p31 := eq_true p31; replace q31 := eq_true q31; refine start_ (n := 8) (S := fun w' => w'.cell? (ad30.add ((x5_1).toNat * 3)) = some (.string ((rd_T51 l0 x5_1).f0)) ∧ w'.cell? ⟨(ad30.add ((x5_1).toNat * 3)).block, (ad30.add ((x5_1).toNat * 3)).off + 1, none⟩ = some (.string ((rd_T51 l0 x5_1).f1)) ∧ w'.cell? ⟨(ad30.add ((x5_1).toNat * 3)).block, (ad30.add ((x5_1).toNat * 3)).off + 2, none⟩ = some (.slice A30_2 ((rd_T51 l0 x5_1).f2).length c30_2)) (ds := []) #[false, false, false, false, false, false, false, false] (by kernel_rfl) rfl rfl ⟨((HB.out.cell (zB w _ hw31_0)).trans hw31_0), ((HB.out.cell (zB w _ hw31_1)).trans hw31_1), ((HB.out.cell (zB w _ hw31_2)).trans hw31_2)⟩ (fun hHeld => ?_); refine with_tabW laws_heldBlockS.tab7 laws_heldBlockS.bits7 (fun HT_ HW_ => ?_); generalize w22.drew = w23 at HB HR31_2 hx31_0 hx31_1 hx31_2 hHeld ⊢; refine pure_ (i := 0) (N := some 22) (v := ?_) (a' := ?_) #[true, false, false, false, false, false, false, false] rfl rfl (any_of HT_.out (by kernel_rfl)) (fun _ _ _ h => h) (Or.inl ⟨by rfl, ?_⟩) ?_ ?_; rotate_left
       ·intro w'
        go_simp
        with_reducible rfl
       rotate_left
       ·simp only [Act.put, zC, zD, zE, i64_w]
        rfl
       refine pure_ (i := 1) (N := some 23) (v := ?_) (a' := ?_) #[true, true, false, false, false, false, false, false] rfl rfl (any_of HT_.out (by kernel_rfl)) (fun _ _ _ h => h) (Or.inl ⟨by rfl, ?_⟩) ?_ ?_; rotate_left
       ·intro w'
        go_simp
        with_reducible rfl
       rotate_left
       ·simp only [Act.put, zC, zD, zE, i64_w]
        rfl
       refine pure_ (i := 2) (N := some 24) (v := ?_) (a' := ?_) #[true, true, true, false, false, false, false, false] rfl rfl (any_of HT_.out (by kernel_rfl)) (fun _ _ _ h => h) (Or.inl ⟨by rfl, ?_⟩) ?_ ?_; rotate_left
       ·intro w'
        go_simp
        with_reducible rfl
       rotate_left
       ·simp only [Act.put, zC, zD, zE, i64_w]
        rfl
       refine pure_ (i := 3) (N := some 25) (v := ?_) (a' := ?_) #[true, true, true, true, false, false, false, false] rfl rfl (any_of HT_.out (by kernel_rfl)) (fun _ _ _ h => h) (Or.inl ⟨by rfl, ?_⟩) ?_ ?_; rotate_left
       ·intro w'
        go_simp
        with_reducible rfl
       rotate_left
       ·simp only [Act.put, zC, zD, zE, i64_w]
        rfl
       refine pure_ (i := 5) (N := some 27) (v := ?_) (a' := ?_) #[true, true, true, true, false, true, false, false] rfl rfl (any_of HT_.out (by kernel_rfl)) (fun _ _ _ h => h) (Or.inl ⟨by rfl, ?_⟩) ?_ ?_; rotate_left
       ·intro w'
        go_simp
        with_reducible rfl
       rotate_left
       ·simp only [Act.put, zC, zD, zE, i64_w]
        rfl
       refine take_ (i := 4) (N := some 26) (v := ?_) (a' := ?_) #[true, true, true, true, true, true, false, false] rfl rfl (take_ofW HT_.out HW_.out (by kernel_rfl)) (fun _ _ _ h => h) (Or.inl ⟨by rfl, ?_⟩) hHeld ?_ ?_; rotate_left
       ·rintro w' ⟨s0, s1, s2⟩
        go_simp
        with_reducible rfl
       rotate_left
       ·simp only [Act.put, zC, zD, zE, i64_w]
        rfl
       refine one_ (i := 6) (N := some 28) #[true, true, true, true, true, true, true, false] rfl rfl (one_of HT_.out (by kernel_rfl)) (by decide) (fun K hK => ?_); refine goes_ Try.func36 (by kernel_rfl) rfl #[.int .i64 (wrap64 (x1_1 + 1))] (by rfl) rfl rfl (by (try simp only [zAA, zAB, zAC]); first | done | rfl) ?_
       with_reducible refine (laws_markText.calls k1 (wrap64 (x1_1 + 1)) t28 _ A7.out).mono ?_
       rintro e w24 ⟨rfl, hb⟩; refine ⟨_, rfl, ?_⟩; have n0_ := zA (zAD (by (with_reducible repeat first | exact HB.out | apply zH | apply zF | apply zG) <;> exact HB.out) hb); clear HB; have HB := n0_; clear n0_; (try clear hb); refine hK.out _ _ ⟨((HB.out.cell (zB w _ hw31_0)).trans hw31_0), ((HB.out.cell (zB w _ hw31_1)).trans hw31_1), ((HB.out.cell (zB w _ hw31_2)).trans hw31_2)⟩ (fun hHeld => ?_); clear hK K; refine norm_ (a' := ?_) ?_ ?_; rotate_left
       ·show Act.put _ (some 28) _ = _
        simp only [Act.put, zC, zD, zE, i64_w]; rfl
       refine pure_ (i := 7) (N := some 29) (v := ?_) (a' := ?_) #[true, true, true, true, true, true, true, true] rfl rfl (any_of HT_.out (by kernel_rfl)) (fun _ _ _ h => h) (Or.inl ⟨by rfl, ?_⟩) ?_ ?_; rotate_left
       ·intro w'
        go_simp
        with_reducible rfl
       rotate_left
       ·simp only [Act.put, zC, zD, zE, i64_w]
        rfl
       refine done_ (done_of HT_.out (by kernel_rfl)) ?_
       try go_wp2
       go_ret; exact ⟨by first | rfl | (simp <;> rfl) | (simp [*] <;> rfl), by (with_reducible repeat first | exact HB.out | apply zH | apply zF | apply zG) <;> exact HB.out⟩
     ·rw [if_neg c6] at H
      have c6b0 : (((rd_T51 l0 x5_1).f0).toList == t27.toList) = false := beq_eq_false_iff_ne.mpr c6; have c6b1 : (((rd_T51 l0 x5_1).f0).toList != t27.toList) = true := bne_iff_ne.mpr c6; obtain rfl := yM H
      try go_wp2
      have n0_ := zA (zG HB.out); clear HB; have HB := n0_; clear n0_; have p30 : 0 ≤ (x5_1 : Int) := zW (by first | (with_reducible assumption) | assumption); have q30 : x5_1 < (l0.length : Int) := zW (by first | (with_reducible assumption) | assumption); obtain ⟨ad30, A30_2, c30_2, e30, hx30_0, hx30_1, hx30_2, hl30_2, hi30_2⟩ := at_T51 HR0.out x5_1 p30 q30; have hw30_2 := hx30_2; have hw30_1 := hx30_1; have hw30_0 := hx30_0
      cases e30
      have hy30_2 := zA hx30_2; replace hx30_0 := (HB.out.cell (zB w _ hx30_0)).trans hx30_0; replace hx30_1 := (HB.out.cell (zB w _ hx30_1)).trans hx30_1; replace hx30_2 := (HB.out.cell (zB w _ hx30_2)).trans hx30_2; have HR30_2 := zA hi30_2; have HC30_2 := zA hl30_2; clear hi30_2 hl30_2; replace p30 := eq_true p30; replace q30 := eq_true q30; refine start_ (n := 8) (S := fun w' => w'.cell? (ad30.add ((x5_1).toNat * 3)) = some (.string ((rd_T51 l0 x5_1).f0)) ∧ w'.cell? ⟨(ad30.add ((x5_1).toNat * 3)).block, (ad30.add ((x5_1).toNat * 3)).off + 1, none⟩ = some (.string ((rd_T51 l0 x5_1).f1)) ∧ w'.cell? ⟨(ad30.add ((x5_1).toNat * 3)).block, (ad30.add ((x5_1).toNat * 3)).off + 2, none⟩ = some (.slice A30_2 ((rd_T51 l0 x5_1).f2).length c30_2)) (ds := []) #[false, false, false, false, false, false, false, false] (by kernel_rfl) rfl rfl ⟨((HB.out.cell (zB w _ hw30_0)).trans hw30_0), ((HB.out.cell (zB w _ hw30_1)).trans hw30_1), ((HB.out.cell (zB w _ hw30_2)).trans hw30_2)⟩ (fun hHeld => ?_); refine with_tabW laws_heldBlockS.tab4 laws_heldBlockS.bits4 (fun HT_ HW_ => ?_); generalize wr.drew = w25 at HB HR30_2 hx30_0 hx30_1 hx30_2 hHeld ⊢; refine pure_ (i := 0) (N := some 12) (v := ?_) (a' := ?_) #[true, false, false, false, false, false, false, false] rfl rfl (any_of HT_.out (by kernel_rfl)) (fun _ _ _ h => h) (Or.inl ⟨by rfl, ?_⟩) ?_ ?_; rotate_left
      ·intro w'
       go_simp
       with_reducible rfl
      rotate_left
      ·simp only [Act.put, zC, zD, zE, i64_w]
       rfl
      refine pure_ (i := 1) (N := some 13) (v := ?_) (a' := ?_) #[true, true, false, false, false, false, false, false] rfl rfl (any_of HT_.out (by kernel_rfl)) (fun _ _ _ h => h) (Or.inl ⟨by rfl, ?_⟩) ?_ ?_; rotate_left
      ·intro w'
       go_simp
       with_reducible rfl
      rotate_left
      ·simp only [Act.put, zC, zD, zE, i64_w]
       rfl
      refine pure_ (i := 2) (N := some 14) (v := ?_) (a' := ?_) #[true, true, true, false, false, false, false, false] rfl rfl (any_of HT_.out (by kernel_rfl)) (fun _ _ _ h => h) (Or.inl ⟨by rfl, ?_⟩) ?_ ?_; rotate_left
      ·intro w'
       go_simp
       with_reducible rfl
      rotate_left
      ·simp only [Act.put, zC, zD, zE, i64_w]
       rfl
      refine pure_ (i := 3) (N := some 15) (v := ?_) (a' := ?_) #[true, true, true, true, false, false, false, false] rfl rfl (any_of HT_.out (by kernel_rfl)) (fun _ _ _ h => h) (Or.inl ⟨by rfl, ?_⟩) ?_ ?_; rotate_left
      ·intro w'
       go_simp
       with_reducible rfl
      rotate_left
      ·simp only [Act.put, zC, zD, zE, i64_w]
       rfl
      refine pure_ (i := 5) (N := some 17) (v := ?_) (a' := ?_) #[true, true, true, true, false, true, false, false] rfl rfl (any_of HT_.out (by kernel_rfl)) (fun _ _ _ h => h) (Or.inl ⟨by rfl, ?_⟩) ?_ ?_; rotate_left
      ·intro w'
       go_simp
       with_reducible rfl
      rotate_left
      ·simp only [Act.put, zC, zD, zE, i64_w]
       rfl
      refine take_ (i := 4) (N := some 16) (v := ?_) (a' := ?_) #[true, true, true, true, true, true, false, false] rfl rfl (take_ofW HT_.out HW_.out (by kernel_rfl)) (fun _ _ _ h => h) (Or.inl ⟨by rfl, ?_⟩) hHeld ?_ ?_; rotate_left
      ·rintro w' ⟨s0, s1, s2⟩
       go_simp
       with_reducible rfl
      rotate_left
      ·simp only [Act.put, zC, zD, zE, i64_w]
       rfl
      refine one_ (i := 6) (N := some 18) #[true, true, true, true, true, true, true, false] rfl rfl (one_of HT_.out (by kernel_rfl)) (by decide) (fun K hK => ?_); refine goes_ Try.func36 (by kernel_rfl) rfl #[.int .i64 x1_1] (by rfl) rfl rfl (by (try simp only [zAA, zAB, zAC]); first | done | rfl) ?_
      with_reducible refine (laws_markText.calls k1 x1_1 t27 _ A5.out).mono ?_
      rintro e w26 ⟨rfl, hb⟩; refine ⟨_, rfl, ?_⟩; have n0_ := zA (zAD (by (with_reducible repeat first | exact HB.out | apply zH | apply zF | apply zG) <;> exact HB.out) hb); clear HB; have HB := n0_; clear n0_; (try clear hb); refine hK.out _ _ ⟨((HB.out.cell (zB w _ hw30_0)).trans hw30_0), ((HB.out.cell (zB w _ hw30_1)).trans hw30_1), ((HB.out.cell (zB w _ hw30_2)).trans hw30_2)⟩ (fun hHeld => ?_); clear hK K; refine norm_ (a' := ?_) ?_ ?_; rotate_left
      ·show Act.put _ (some 18) _ = _
       simp only [Act.put, zC, zD, zE, i64_w]; rfl
      refine pure_ (i := 7) (N := some 19) (v := ?_) (a' := ?_) #[true, true, true, true, true, true, true, true] rfl rfl (any_of HT_.out (by kernel_rfl)) (fun _ _ _ h => h) (Or.inl ⟨by rfl, ?_⟩) ?_ ?_; rotate_left
      ·intro w'
       go_simp
       with_reducible rfl
      rotate_left
      ·simp only [Act.put, zC, zD, zE, i64_w]
       rfl
      refine done_ (done_of HT_.out (by kernel_rfl)) ?_
      try go_wp2
      go_ret; exact ⟨by first | rfl | (simp <;> rfl) | (simp [*] <;> rfl), by (with_reducible repeat first | exact HB.out | apply zH | apply zF | apply zG) <;> exact HB.out⟩
    ·rw [if_neg c4] at H
     exact absurd H (by simp)
   ·rw [if_neg c3] at H
    have c3b0 : decide (x5_1 < (l0.length : Int)) = false := decide_eq_false c3; clear c3; obtain rfl := yM H; go_wp2; go_ret; exact ⟨by first | rfl | (simp <;> rfl) | (simp [*] <;> rfl), by (with_reducible repeat first | exact HB.out | apply zH | apply zF | apply zG) <;> exact HB.out⟩
end Go.Proofs.Ytpbepgffbcfaoaa.PA
end
section
namespace Go.Proofs.Ytpbepgffbcfaoaa.PP
open Go.RowKit Go.Proofs.YtpbepgffbcfaoaaW.PrintWords Go.Proofs.YtpbepgffbcfaoaaW.PrintLast Go.Proofs.YtpbepgffbcfaoaaW.PrintMore Go.Proofs.Ytpbepgffbcfaoaa.PA
attribute [local go_sem] max2_int min2_int max_two min_two max_three min_three max_four min_four
set_option linter.unusedVariables false
set_option linter.unusedSimpArgs false
set_option maxHeartbeats 4000000
set_option maxRecDepth 100000
def markL : Nat → List S51 → Int → Int → Option (Int × List S51)
 | 0, _, _, _ => none
 | k + 1, x0, x1, x5 => if x5 < (x0.length : Int) then (if 0 ≤ x5 then ((laws_markText.f k x1).bind fun t0 => ((laws_markText.f k (wrap64 (x1 + 1))).bind fun t1 => ((laws_markStringS.f k (rd_T51 x0 x5).f2 (wrap64 (wrap64 (x1 + 1) + 1))).bind fun bt => markL k (x0.set x5.toNat ⟨t0, t1, bt.2⟩) bt.1 (wrap64 (x5 + 1))))) else none) else some (x1, x0)
def markF (k : Nat) (l0 : List S51) (a1 : Int) : Option (Int × List S51) := markL k l0 a1 0
theorem H_one {α : Type} {d : Kd α} {e g n cap : Nat} {W : World} {base : Nat} {ok oki : Nat → Prop} {xs : List α} {i : Int} {c c' : List Value} (h : Kd.H d e W base ok (.slice (some ⟨g, 0, none⟩) n cap) xs i oki c) (h0 : 0 ≤ i) (h1 : i < n) (j : Nat) (u : Value) (hj : j + 1 ≤ d.sz) (hu : u.oneCell' = true) (hc : c.take j ++ [u] ++ c.drop (j + 1) = c') :
  Kd.H d e (W.setCell ⟨g, i.toNat * d.sz + j, none⟩ u) base ok (.slice (some ⟨g, 0, none⟩) n cap) xs i oki c' ∧ W.grownBy (W.setCell ⟨g, i.toNat * d.sz + j, none⟩ u) (some g) := by
 have := Kd.H_seg h h0 h1 (seg := [u]) (j := j) hj (fun q hq => by rw [List.mem_singleton.1 hq]; exact hu)
 rw [← hc]
 exact this
theorem kept_below {w W W2 : World} {S : Nat → Prop} (h : Kept w W S) (hb : Below W.heap.size W W2) : Kept w W2 S :=
 ⟨Nat.le_trans h.1 hb.size, fun i hi hs => (hb.block i (Nat.lt_of_lt_of_le hi h.1)).trans (h.2 i hi hs)⟩
theorem kept_set {w W : World} {S : Nat → Prop} (h : Kept w W S) {g : Nat} (hg : S g) (o : Nat) (u : Value) : Kept w (W.setCell ⟨g, o, none⟩ u) S :=
 ⟨by simpa [World.setCell] using h.1, fun i hi hs => (Below.heap_setCell W ⟨g, o, none⟩ u i (fun e => hs (by have e' : i = g := e; rw [e']; exact hg))).trans (h.2 i hi hs)⟩
theorem kept_more {w W W2 : World} {S S2 : Nat → Prop} (h : Kept w W S) (h2 : Kept W W2 S2) (hs : ∀ i, S2 i → S i ∨ w.heap.size ≤ i) : Kept w W2 S :=
 ⟨Nat.le_trans h.1 h2.1, fun i hi hn => (h2.2 i (Nat.lt_of_lt_of_le hi h.1) (fun q => (hs i q).elim hn (fun q2 => by omega))).trans (h.2 i hi hn)⟩
theorem markB (k : Nat) (P0_ : Nat → Prop) (u : Value) (l0 : List S51) (a1 : Int) (r1 : Int) (r2 : List S51) (w0 w : World) (hB : Below w0.heap.size w0 w) (ho0 : Kd.S k51 51 w w0.heap.size P0_ u l0) (h : markF k l0 a1 = some (r1, r2)) :
  Calls Try.prog 13 #[u, .int .i64 a1] w fun e w' => e = .returned (.int .i64 r1) ∧ Kd.S k51 51 w' w0.heap.size (fun k_ => (P0_ k_ ∨ w.heap.size ≤ k_)) u r2 ∧ Below w0.heap.size w0 w' ∧ Kept w w' (fun k_ => P0_ k_) := by
 have HB := zA hB
 have HS := zA (Kd.S_mono ho0 (fun k_ hk => Or.inl hk) : Kd.S k51 51 w w0.heap.size (fun k_ => P0_ k_ ∨ w.heap.size ≤ k_) u l0)
 have HKP := zA (Kept.refl w (fun k_ => P0_ k_))
 have H' := zA (show markL k l0 a1 0 = some (r1, r2) from h)
 have HOB := zA (fun k_ e => Kd.R_lt (Kd.S_R ho0) k_ e)
 have HOP := zA (show ∀ k_, u.ownBlock = some k_ → P0_ k_ from fun k_ e => (Kd.S_R ho0).1 k_ e)
 obtain ⟨A0, c0, eo⟩ := Kd.S_slice ho0
 subst eo
 have hu51 := Try.underlying51
 clear hB ho0 h
 go_enter Try.func13, Try.ntmps13
 go_wp2
 go_loopg [1, 5] k (fun kq v1 v5 w' => ∃ (xs : List S51) (kk z : Int), v1 = .int .i64 kk ∧ v5 = .int .i64 z ∧ Aside0 (markL kq xs kk z = some (r1, r2)) ∧ Aside0 (kq ≤ k) ∧ Aside0 (xs.length = l0.length) ∧ Aside0 (Kd.S k51 51 w' w0.heap.size (fun k_ => P0_ k_ ∨ w.heap.size ≤ k_) (.slice A0 l0.length c0) xs) ∧ Aside0 (Below w0.heap.size w0 w') ∧ Aside0 (Kept w w' (fun k_ => P0_ k_)))
 case atStart => exact ⟨l0, a1, 0, rfl, rfl, H', ⟨Nat.le_refl _⟩, ⟨rfl⟩, HS, HB, HKP⟩
 case round =>
  clear H' HS HB HKP
  obtain ⟨xs, kk, z, rfl, rfl, HM, HK1, HXL, HS, HB, HKP⟩ := hrel
  cases gk with
  | zero => exact absurd HM.out (by simp [markL])
  | succ k1 =>
   have H := HM.out
   clear HM
   rw [markL, HXL.out] at H
   by_cases c1 : z < (l0.length : Int)
   ·rw [if_pos c1] at H
    by_cases c2 : 0 ≤ z
    ·rw [if_pos c2] at H
     obtain ⟨ad, c9, eA⟩ := Kd.R_slice1 (Kd.S_R HS.out) (by have := HXL.out; omega)
     injection eA with eA eL eC
     clear eL eC
     subst eA
     obtain ⟨g, eg⟩ := Kd.R_head (Kd.S_R HS.out)
     subst eg
     replace H := zAF H
     obtain ⟨t0, h0, H⟩ := H
     replace H := zAF H
     obtain ⟨t1, h1, H⟩ := H
     replace H := zAF H
     obtain ⟨⟨m2, its⟩, h2, H⟩ := H
     have H0 := zA h0
     have H1 := zA h1
     have H2 := zA h2
     have H' := zA (show markL k1 (xs.set z.toNat ⟨t0, t1, its⟩) m2 (wrap64 (z + 1)) = some (r1, r2) from H)
     have HZ0 := zA c2
     have HZN := zA c1
     have q1 : (z < (l0.length : Int)) = True := eq_true c1
     have q2 : decide (z < (l0.length : Int)) = true := decide_eq_true c1
     have q3 : (0 ≤ z) = True := eq_true c2
     have q4 : decide (0 ≤ z) = true := decide_eq_true c2
     have HPG := zA (show P0_ g from HOP.out g (by simp [Value.ownBlock]))
     have HGB := zA (show w0.heap.size ≤ g from Kd.R_base (Kd.S_R HS.out) g (by simp [Value.ownBlock]))
     obtain ⟨x, hx⟩ : ∃ x, x = rd_T51 xs z := ⟨_, rfl⟩
     rw [← hx] at H2
     have HX := zA hx
     have HIX := zA (show z.toNat < xs.length from by have := HXL.out; omega)
     clear h0 h1 h2 H c1 c2 hx
     go_wp2_with (first | ((with_reducible refine gate_dst (N := 15) rfl ?_); refine goesL_ (some 15) rfl rfl Try.func36 (by kernel_rfl) rfl #[.int .i64 kk] rfl (by (try simp only [zAA, zAB, zAC]); first | done | rfl) ?_; refine (laws_markText.calls k1 kk t0 _ H0.out).mono ?_; rintro e w3 ⟨rfl, hb⟩; refine ⟨_, rfl, ?_⟩; have n0_ := zA (Kd.S_below HS.out hb); have n1_ := zA (zAD HB.out hb); have n2_ := zA (kept_below HKP.out hb); clear HS HB HKP hb; have HS := n0_; have HB := n1_; have HKP := n2_; clear n0_ n1_ n2_; obtain ⟨oki, c, hcl, hM, hcc, hfr, hoki, hH⟩ := Kd.S_elem HS.out z51 z HZ0.out HZN.out; rw [show xs.getD z.toNat z51 = x from HX.out.symm] at hM; obtain ⟨v2, rfl, hR⟩ := k51_openM hM; have hc0 : w3.cell? ⟨g, z.toNat * 3, none⟩ = some (.string x.f0) := hcc 0 _ rfl; have hf0 : w3.frozen? ⟨g, z.toNat * 3, none⟩ = false := hfr 0; have HH := zA hH; have HRV := zA hR; have HOKI := zA hoki; clear hcc hfr hH hM hR hoki hcl) | ((with_reducible refine gate_dst (N := 23) rfl ?_); refine goesL_ (some 23) rfl rfl Try.func36 (by kernel_rfl) rfl #[.int .i64 (wrap64 (kk + 1))] rfl (by (try simp only [zAA, zAB, zAC]); first | done | rfl) ?_; obtain ⟨hh, hg⟩ := H_one HH.out HZ0.out HZN.out 0 (.string t0) (by decide) rfl rfl; obtain ⟨xs1, hxs1⟩ : ∃ q, q = xs.set z.toNat ⟨t0, x.f1, x.f2⟩ := ⟨_, rfl⟩; have m0_ : Aside0 (Kd.S k51 51 (w3.setCell ⟨g, z.toNat * 3, none⟩ (.string t0)) w0.heap.size (fun k_ => P0_ k_ ∨ w.heap.size ≤ k_) (.slice (some ⟨g, 0, none⟩) l0.length c0) xs1) := ⟨by rw [hxs1]; exact Kd.H_back hh (k51_mkM _ _ _ ⟨t0, x.f1, x.f2⟩ (Kd.R_far (p := ⟨g, z.toNat * 3, none⟩) HRV.out (fun k hk => (HOKI.out k hk).2) (.string t0))) (fun _ hk => hk)⟩; have m1_ := zA (below_set HB.out HGB.out (j := z.toNat * 3) (v := .string t0)); have m2_ := zA (kept_set HKP.out HPG.out (z.toNat * 3) (.string t0)); have HXS1 := zA hxs1; clear HS HB HKP HH HRV HOKI hc0 hf0 hh hg hxs1; refine (laws_markText.calls k1 (wrap64 (kk + 1)) t1 _ H1.out).mono ?_; rintro e w4 ⟨rfl, hb⟩; refine ⟨_, rfl, ?_⟩; have n0_ := zA (Kd.S_below m0_.out hb); have n1_ := zA (zAD m1_.out hb); have n2_ := zA (kept_below m2_.out hb); clear m0_ m1_ m2_ hb; have HS := n0_; have HB := n1_; have HKP := n2_; clear n0_ n1_ n2_; obtain ⟨oki, c, hcl, hM, hcc, hfr, hoki, hH⟩ := Kd.S_elem HS.out z51 z HZ0.out HZN.out; rw [show xs1.getD z.toNat z51 = ⟨t0, x.f1, x.f2⟩ from by rw [HXS1.out, List.getD_eq_getElem?_getD, List.getElem?_set_self HIX.out]; rfl] at hM; obtain ⟨v2, rfl, hR⟩ := k51_openM hM; obtain ⟨A2, c2, eo⟩ := Kd.R_slice hR; subst eo; have hc1 : w4.cell? ⟨g, z.toNat * 3 + 1, none⟩ = some (.string x.f1) := hcc 1 _ rfl; have hf1 : w4.frozen? ⟨g, z.toNat * 3 + 1, none⟩ = false := hfr 1; have hc2 : w4.cell? ⟨g, z.toNat * 3 + 2, none⟩ = some (.slice A2 x.f2.length c2) := hcc 2 _ rfl; have HH := zA hH; have HRV := zA hR; have HOKI := zA hoki; clear hcc hfr hH hM hR hoki hcl) | ((with_reducible refine gate_dst (N := 34) rfl ?_); refine goesL_ (some 34) rfl rfl Try.func14 (by kernel_rfl) rfl #[.slice A2 x.f2.length c2, .int .i64 (wrap64 (wrap64 (kk + 1) + 1))] rfl (by (try simp only [zAA, zAB, zAC]); first | done | rfl) ?_; obtain ⟨hh, hg⟩ := H_one HH.out HZ0.out HZN.out 1 (.string t1) (by decide) rfl rfl; have m0_ := zA hh; have m3_ := zA (Kd.R_far (p := ⟨g, z.toNat * 3 + 1, none⟩) HRV.out (fun k hk => (HOKI.out k hk).2) (.string t1)); have m1_ := zA (below_set HB.out HGB.out (j := z.toNat * 3 + 1) (v := .string t1)); have m2_ := zA (kept_set HKP.out HPG.out (z.toNat * 3 + 1) (.string t1)); clear HS HB HKP HH HRV hc1 hf1 hc2 hh hg; refine (laws_markStringS.calls k1 oki (.slice A2 x.f2.length c2) x.f2 (wrap64 (wrap64 (kk + 1) + 1)) m2 its w0 _ m1_.out m3_.out H2.out).mono ?_; rintro e w5 ⟨rfl, hr, hb, hkp⟩; refine ⟨_, rfl, ?_⟩; have n1_ := zA hb; have n2_ := zA (kept_more m2_.out hkp (fun i hi => (HOKI.out i hi).1)); have n3_ := zA (Kd.H_widen m0_.out); have n0_ := zA (Kd.H_kept n3_.out hkp (fun k _ hn hk => hn (.inl hk))); have n4_ : Aside0 (Kd.S k51 51 w5 w0.heap.size (fun k_ => P0_ k_ ∨ w.heap.size ≤ k_) (.slice (some ⟨g, 0, none⟩) l0.length c0) (xs.set z.toNat ⟨t0, t1, its⟩)) := ⟨by rw [show xs.set z.toNat ⟨t0, t1, its⟩ = xs1.set z.toNat ⟨t0, t1, its⟩ from by rw [HXS1.out, List.set_set]]; exact Kd.H_back n0_.out (k51_mkM _ _ _ ⟨t0, t1, its⟩ hr) (fun k hk => hk.imp id (fun q => ⟨.inr (Nat.le_trans m2_.out.1 q), q⟩))⟩; clear n0_ n3_ m0_ m1_ m2_ m3_ hr hb hkp; have HS := n4_; have HB := n1_; have HKP := n2_; clear n1_ n2_ n4_))
     go_roundg k1
     case measure => have := HK1.out; omega
     case rel => exact ⟨_, _, _, rfl, rfl, H', ⟨by have := HK1.out; omega⟩, ⟨by rw [List.length_set]; exact HXL.out⟩, HS, HB, HKP⟩
    ·rw [if_neg c2] at H; exact absurd H (by simp)
   ·rw [if_neg c1] at H
    have q3 : decide (z < (l0.length : Int)) = false := decide_eq_false c1
    simp only [Option.some.injEq, Prod.mk.injEq] at H
    obtain ⟨rfl, rfl⟩ := H
    clear c1
    go_wp2
    go_ret
    exact ⟨by first | rfl | (simp <;> rfl), HS.out, HB.out, HKP.out⟩
end Go.Proofs.Ytpbepgffbcfaoaa.PP
end
section
namespace Go.Proofs.Ytpbepgffbcfaoaa.PA
open Go.RowKit Go.Proofs.YtpbepgffbcfaoaaW.PrintWords Go.Proofs.YtpbepgffbcfaoaaW.PrintLast Go.Proofs.YtpbepgffbcfaoaaW.PrintMore
attribute [local go_sem] max2_int min2_int max_two min_two max_three min_three max_four min_four
set_option linter.unusedVariables false
set_option linter.unusedSimpArgs false
set_option maxHeartbeats 60000000
set_option maxRecDepth 100000
def laws_markBlockS.f (k : Nat) (l0 : List (S51)) (a1 : Int) : Option (Int × List (S51)) := Go.Proofs.Ytpbepgffbcfaoaa.PP.markF k l0 a1
theorem laws_markBlockS.calls (k : Nat) (P0_ : Nat → Prop) (u9000_ : Value) (l0 : List (S51)) (a1 : Int) (r1 : Int) (r2 : List (S51)) (w0 w : World) (hB : Below w0.heap.size w0 w) (ho0 : Kd.S k51 51 w w0.heap.size P0_ u9000_ l0) (h : laws_markBlockS.f k l0 a1 = some (r1, r2)) :
  Calls Try.prog 13 #[u9000_, .int .i64 a1] w fun e w' => e = .returned (.int .i64 r1) ∧ Kd.S k51 51 w' w0.heap.size (fun k_ => (P0_ k_ ∨ w.heap.size ≤ k_)) u9000_ r2 ∧ Below w0.heap.size w0 w' ∧ Kept w w' (fun k_ => P0_ k_) :=
 Go.Proofs.Ytpbepgffbcfaoaa.PP.markB k P0_ u9000_ l0 a1 r1 r2 w0 w hB ho0 h
end Go.Proofs.Ytpbepgffbcfaoaa.PA
end
section
namespace Go.Proofs.Ytpbepgffbcfaoaa.RB
open Go.RowKit Go.Proofs.YtpbepgffbcfaoaaW.PrintWords Go.Proofs.YtpbepgffbcfaoaaW.PrintLast Go.Proofs.YtpbepgffbcfaoaaW.PrintMore Go.Proofs.Ytpbepgffbcfaoaa.PA
attribute [local go_sem] max2_int min2_int max_two min_two max_three min_three max_four min_four
set_option linter.unusedVariables false
set_option linter.unusedSimpArgs false
set_option maxHeartbeats 4000000
set_option maxRecDepth 100000
def lawF (k : Nat) (l0 : List S50) (a1 : ByteArray) (l2 : List ByteArray) : Option Bool :=
 if (1048576 : Int) < (a1.size : Int) then some true else
 (laws_szBlockS.f k l0 1048576).bind fun n1 => if n1 < 0 then some true else
 (laws_szStringS.f k l2 n1).bind fun n2 => if n2 < 0 then some true else
 (laws_toBlockS.f k l0).bind fun xs => (laws_toStringS.f k l2).bind fun its =>
 (spec_PutBlock.f k xs a1 its).bind fun ww => (impl_PutBlock.f k xs a1 its).bind fun gg =>
 (laws_markBlockS.f k xs 1).bind fun m1 => (laws_markStringS.f k its m1.1).bind fun m2 =>
 (laws_markBlockS.f k gg.1 1).bind fun m3 => (laws_heldBlockS.f k m3.2 1).bind fun q =>
 if laws_eqBlockS.f k gg.1 ww.1 = some true ∧ gg.2 = ww.2 ∧ laws_eqBlockS.f k xs xs = some true ∧ laws_eqStringS.f k its its = some true ∧ 0 ≤ m2.1 ∧ 0 ≤ q ∧ q = m3.1 then some true else none
theorem held_n (k : Nat) (A0 : Option Addr) (c0 : Nat) (l0 : List S51) (a1 : Int) (r : Int) (n : Nat) (w : World) (hn : n = l0.length) (hr0 : Kd.C k51 w A0 l0.length l0) (hc0 : n ≤ c0) (h : laws_heldBlockS.f k l0 a1 = some r) :
  Calls Try.prog 15 #[.slice A0 n c0, .int .i64 a1] w fun e w' => e = .returned (.int .i64 r) ∧ Below w.heap.size w w' := by
 subst hn; exact laws_heldBlockS.calls k A0 c0 l0 a1 r w hr0 hc0 h
theorem lawC (k : Nat) (A0 : Option Addr) (c0 : Nat) (l0 : List S50) (a1 : ByteArray) (A2 : Option Addr) (c2 : Nat) (l2 : List ByteArray) (r : Bool) (w : World) (hr0 : Kd.C k50 w A0 l0.length l0) (hc0 : l0.length ≤ c0) (hr2 : Kd.C Kd.string w A2 l2.length l2) (hc2 : l2.length ≤ c2) (h : lawF k l0 a1 l2 = some r) (hr_ : Aside0 (r = true)) :
  Calls Try.prog 3 #[.slice A0 l0.length c0, .string a1, .slice A2 l2.length c2] w fun e w' => e = .returned (.bool r) ∧ Below w.heap.size w w' := by
 obtain rfl := hr_.out
 clear hr_
 have HR0 := zA hr0
 have HC0 := zA hc0
 have HR2 := zA hr2
 have HC2 := zA hc2
 have HB := zA (Below.refl w.heap.size w)
 clear hr0 hc0 hr2 hc2
 rw [lawF] at h
 by_cases c1 : (1048576 : Int) < (a1.size : Int)
 ·have d1 : decide ((1048576 : Int) < (a1.size : Int)) = true := decide_eq_true c1
  clear h c1
  go_enter Try.func3, Try.ntmps3
  go_wp2
  go_ret
  exact ⟨by first | rfl | (simp <;> rfl), HB.out⟩
 ·rw [if_neg c1] at h
  have d1 : decide ((1048576 : Int) < (a1.size : Int)) = false := decide_eq_false c1
  clear c1
  replace h := zAF h; obtain ⟨n1, e1, h⟩ := h
  have E1 := zA e1
  clear e1
  by_cases c2_ : n1 < 0
  ·have d2 : decide (n1 < 0) = true := decide_eq_true c2_
   clear h c2_
   go_enter Try.func3, Try.ntmps3
   go_wp2_with (first | ((with_reducible refine gate_dst (N := 24) rfl ?_); (try (refine gate_guard (by rfl) ?_; dsimp only)); refine goesL_ (some 24) rfl rfl Try.func5 (by kernel_rfl) rfl #[.slice A0 l0.length c0, .int .i64 1048576] rfl (by (try simp only [zAA, zAB, zAC]); first | done | rfl) ?_; refine (laws_szBlockS.calls k A0 c0 l0 1048576 n1 _ (Kd.C_below HR0.out HB.out) HC0.out E1.out).mono ?_; rintro e w24 ⟨rfl, hb⟩; refine ⟨_, rfl, ?_⟩; have n0_ := zA (zAD HB.out hb); clear HB; have HB := n0_; clear n0_; (try clear hb)))
   go_ret
   exact ⟨by first | rfl | (simp <;> rfl), HB.out⟩
  ·rw [if_neg c2_] at h
   have d2 : decide (n1 < 0) = false := decide_eq_false c2_
   clear c2_
   replace h := zAF h; obtain ⟨n2, e2, h⟩ := h
   have E2 := zA e2
   clear e2
   by_cases c3 : n2 < 0
   ·have d3 : decide (n2 < 0) = true := decide_eq_true c3
    clear h c3
    go_enter Try.func3, Try.ntmps3
    go_wp2_with (first | ((with_reducible refine gate_dst (N := 24) rfl ?_); (try (refine gate_guard (by rfl) ?_; dsimp only)); refine goesL_ (some 24) rfl rfl Try.func5 (by kernel_rfl) rfl #[.slice A0 l0.length c0, .int .i64 1048576] rfl (by (try simp only [zAA, zAB, zAC]); first | done | rfl) ?_; refine (laws_szBlockS.calls k A0 c0 l0 1048576 n1 _ (Kd.C_below HR0.out HB.out) HC0.out E1.out).mono ?_; rintro e w24 ⟨rfl, hb⟩; refine ⟨_, rfl, ?_⟩; have n0_ := zA (zAD HB.out hb); clear HB; have HB := n0_; clear n0_; (try clear hb)) | ((with_reducible refine gate_dst (N := 29) rfl ?_); (try (refine gate_guard (by rfl) ?_; dsimp only)); refine goesL_ (some 29) rfl rfl Try.func6 (by kernel_rfl) rfl #[.slice A2 l2.length c2, .int .i64 n1] rfl (by (try simp only [zAA, zAB, zAC]); first | done | rfl) ?_; refine (laws_szStringS.calls k A2 c2 l2 n1 n2 _ (Kd.C_below HR2.out HB.out) HC2.out E2.out).mono ?_; rintro e w29 ⟨rfl, hb⟩; refine ⟨_, rfl, ?_⟩; replace hb := hb.below; have n1_ := zA (zAD HB.out hb); clear HB; have HB := n1_; clear n1_; (try clear hb)))
    go_ret
    exact ⟨by first | rfl | (simp <;> rfl), HB.out⟩
   ·rw [if_neg c3] at h
    have d3 : decide (n2 < 0) = false := decide_eq_false c3
    clear c3
    replace h := zAF h; obtain ⟨xs, e3, h⟩ := h
    replace h := zAF h; obtain ⟨its, e4, h⟩ := h
    replace h := zAF h; obtain ⟨⟨ws, wb⟩, e5, h⟩ := h
    replace h := zAF h; obtain ⟨⟨gs, gb⟩, e6, h⟩ := h
    replace h := zAF h; obtain ⟨⟨m1, xs2⟩, e10, h⟩ := h
    replace h := zAF h; obtain ⟨⟨m2, its2⟩, e11, h⟩ := h
    replace h := zAF h; obtain ⟨⟨m3, gs2⟩, e12, h⟩ := h
    replace h := zAF h; obtain ⟨q, e13, h⟩ := h
    by_cases c4 : laws_eqBlockS.f k gs ws = some true ∧ gb = wb ∧ laws_eqBlockS.f k xs xs = some true ∧ laws_eqStringS.f k its its = some true ∧ 0 ≤ m2 ∧ 0 ≤ q ∧ q = m3
    rotate_left
    ·rw [if_neg c4] at h; cases h
    clear h
    obtain ⟨e7, rfl, e8, e9, p1, p2, rfl⟩ := c4
    have E3 := zA e3
    have E4 := zA e4
    have E5 := zA e5
    have E6 := zA e6
    have E7 := zA e7
    have E8 := zA e8
    have E9 := zA e9
    have E10 := zA e10
    have E11 := zA e11
    have E12 := zA e12
    have E13 := zA e13
    have d4 : decide (m2 < 0) = false := decide_eq_false (by omega)
    have d5 : decide (q < 0) = false := decide_eq_false (by omega)
    clear e3 e4 e5 e6 e7 e8 e9 e10 e11 e12 e13 p1 p2
    go_enter Try.func3, Try.ntmps3
    go_wp2_with (first | ((with_reducible refine gate_dst (N := 24) rfl ?_); (try (refine gate_guard (by rfl) ?_; dsimp only)); refine goesL_ (some 24) rfl rfl Try.func5 (by kernel_rfl) rfl #[.slice A0 l0.length c0, .int .i64 1048576] rfl (by (try simp only [zAA, zAB, zAC]); first | done | rfl) ?_; refine (laws_szBlockS.calls k A0 c0 l0 1048576 n1 _ (Kd.C_below HR0.out HB.out) HC0.out E1.out).mono ?_; rintro e w24 ⟨rfl, hb⟩; refine ⟨_, rfl, ?_⟩; have n0_ := zA (zAD HB.out hb); clear HB; have HB := n0_; clear n0_; (try clear hb)) | ((with_reducible refine gate_dst (N := 29) rfl ?_); (try (refine gate_guard (by rfl) ?_; dsimp only)); refine goesL_ (some 29) rfl rfl Try.func6 (by kernel_rfl) rfl #[.slice A2 l2.length c2, .int .i64 n1] rfl (by (try simp only [zAA, zAB, zAC]); first | done | rfl) ?_; refine (laws_szStringS.calls k A2 c2 l2 n1 n2 _ (Kd.C_below HR2.out HB.out) HC2.out E2.out).mono ?_; rintro e w29 ⟨rfl, hb⟩; refine ⟨_, rfl, ?_⟩; replace hb := hb.below; have n1_ := zA (zAD HB.out hb); clear HB; have HB := n1_; clear n1_; (try clear hb)) | ((with_reducible refine gate_dst (N := 34) rfl ?_); (try (refine gate_guard (by rfl) ?_; dsimp only)); refine goesL_ (some 34) rfl rfl Try.func8 (by kernel_rfl) rfl #[.slice A0 l0.length c0] rfl (by (try simp only [zAA, zAB, zAC]); first | done | rfl) ?_; refine (laws_toBlockS.calls k A0 c0 l0 xs _ (Kd.C_below HR0.out HB.out) HC0.out E3.out).mono ?_; rintro e w34 ⟨v34, rfl, hS, hb⟩; refine ⟨_, rfl, ?_⟩; have n0_ := zA (zAD HB.out hb); obtain ⟨A34, c34, rfl⟩ := Kd.S_slice hS; have n2_ := zA (hS); clear hS; clear HB; have HB := n0_; clear n0_; have HX := n2_; clear n2_; (try clear hb)) | ((with_reducible refine gate_dst (N := 37) rfl ?_); (try (refine gate_guard (by rfl) ?_; dsimp only)); refine goesL_ (some 37) rfl rfl Try.func9 (by kernel_rfl) rfl #[.slice A2 l2.length c2] rfl (by (try simp only [zAA, zAB, zAC]); first | done | rfl) ?_; refine (laws_toStringS.calls k A2 c2 l2 its _ (Kd.C_below HR2.out HB.out) HC2.out E4.out).mono ?_; rintro e w37 ⟨v37, rfl, hS, hb⟩; refine ⟨_, rfl, ?_⟩; have n0_ := zA (zAD HB.out hb); have n1_ := zA (Kd.S_below HX.out hb); obtain ⟨A37, c37, rfl⟩ := Kd.R_slice hS; have n3_ := zA (hS); clear hS; clear HB HX; have HB := n0_; clear n0_; have HX := n1_; clear n1_; have HI := n3_; clear n3_; (try clear hb)) | ((with_reducible refine gate_dst (N := 38) rfl ?_); (try (refine gate_guard (by rfl) ?_; dsimp only)); refine goesL_ (some 38) rfl rfl Try.func7 (by kernel_rfl) rfl #[.slice A34 xs.length c34, .string a1, .slice A37 its.length c37] rfl (by (try simp only [zAA, zAB, zAC]); first | done | rfl) ?_; refine (spec_PutBlock.calls k A34 c34 xs a1 A37 c37 its ws gb _ (Kd.S_reads' HX.out).2.2 (Kd.S_reads' HX.out).2.1 (Kd.R_reads' HI.out).2.2 (Kd.R_reads' HI.out).2.1 E5.out).mono ?_; rintro e w38 ⟨v38, rfl, hS, hb⟩; refine ⟨_, rfl, ?_⟩; have n0_ := zA (zAD HB.out hb); obtain ⟨AW, cW, rfl⟩ := Kd.N_slice hS; have n2_ := zA ((Kd.N_reads' hS).2.2); have n3_ := zA ((Kd.N_reads' hS).2.1); have n4_ := zA (Below.refl w38.heap.size w38); have HB38 := n0_; clear hS HX HI; clear HB; have HB := n0_; clear n0_; have HW := n2_; clear n2_; have HWC := n3_; clear n3_; have HB7 := n4_; clear n4_; (try clear hb)) | ((with_reducible refine gate_dst (N := 42) rfl ?_); (try (refine gate_guard (by rfl) ?_; dsimp only)); refine goesL_ (some 42) rfl rfl Try.func8 (by kernel_rfl) rfl #[.slice A0 l0.length c0] rfl (by (try simp only [zAA, zAB, zAC]); first | done | rfl) ?_; refine (laws_toBlockS.calls k A0 c0 l0 xs _ (Kd.C_below HR0.out HB.out) HC0.out E3.out).mono ?_; rintro e w42 ⟨v42, rfl, hS, hb⟩; refine ⟨_, rfl, ?_⟩; have n0_ := zA (zAD HB.out hb); have n1_ := zA (zAD HB7.out hb); obtain ⟨A42, c42, rfl⟩ := Kd.S_slice hS; have n3_ := zA ((Kd.S_mono (Kd.S_bound hS) (fun k_ hk => hk.2.2.1) : Kd.S k51 51 w42 w38.heap.size (fun k_ => k_ < w42.heap.size) _ xs)); clear hS; clear HB HB7; have HB := n0_; clear n0_; have HB7 := n1_; clear n1_; have HX := n3_; clear n3_; (try clear hb)) | ((with_reducible refine gate_dst (N := 44) rfl ?_); (try (refine gate_guard (by rfl) ?_; dsimp only)); refine goesL_ (some 44) rfl rfl Try.func9 (by kernel_rfl) rfl #[.slice A2 l2.length c2] rfl (by (try simp only [zAA, zAB, zAC]); first | done | rfl) ?_; refine (laws_toStringS.calls k A2 c2 l2 its _ (Kd.C_below HR2.out HB.out) HC2.out E4.out).mono ?_; rintro e w44 ⟨v44, rfl, hS, hb⟩; refine ⟨_, rfl, ?_⟩; have n0_ := zA (zAD HB.out hb); have n1_ := zA (zAD HB7.out hb); have n2_ := zA (Kd.S_below HX.out hb); have n3_ := zA ((hb.size : w42.heap.size ≤ w44.heap.size)); obtain ⟨A44, c44, rfl⟩ := Kd.R_slice hS; have n5_ := zA ((Kd.R_lower (Kd.R_mono (Kd.R_bound hS) (fun k_ hk => ⟨hk.2.1, hk.2.2.1⟩)) HB7.out.size : Kd.R Kd.string 9 w44 w38.heap.size (fun k_ => w42.heap.size ≤ k_ ∧ k_ < w44.heap.size) _ its)); clear hS; clear HB HB7 HX; have HB := n0_; clear n0_; have HB7 := n1_; clear n1_; have HX := n2_; clear n2_; have H4244 := n3_; clear n3_; have HI := n5_; clear n5_; (try clear hb)) | ((with_reducible refine gate_dst (N := 49) rfl ?_); (try (refine gate_guard (by rfl) ?_; dsimp only)); refine goesL_ (some 49) rfl rfl Try.func10 (by kernel_rfl) rfl #[.slice A42 xs.length c42, .string a1, .slice A44 its.length c44] rfl (by (try simp only [zAA, zAB, zAC]); first | done | rfl) ?_; refine (impl_PutBlock.calls k A42 c42 xs a1 A44 c44 its gs gb _ (Kd.S_reads' HX.out).2.2 (Kd.S_reads' HX.out).2.1 (Kd.R_reads' HI.out).2.2 (Kd.R_reads' HI.out).2.1 E6.out).mono ?_; rintro e w49 ⟨v49, rfl, hS, hb⟩; refine ⟨_, rfl, ?_⟩; have n0_ := zA (zAD HB.out hb); have n1_ := zA (zAD HB7.out hb); have n2_ := zA (Kd.S_below HX.out hb); have n3_ := zA (Kd.R_below HI.out hb); obtain ⟨A49, c49, rfl⟩ := Kd.S_slice hS; have n5_ := zA ((Kd.S_lower (Kd.S_mono (Kd.S_bound hS) (fun k_ hk => hk.2.1)) HB7.out.size : Kd.S k51 51 w49 w38.heap.size (fun k_ => w44.heap.size ≤ k_) _ gs)); clear hS; clear HB HB7 HX HI; have HB := n0_; clear n0_; have HB7 := n1_; clear n1_; have HX := n2_; clear n2_; have HI := n3_; clear n3_; have HG := n5_; clear n5_; (try clear hb)) | ((with_reducible refine gate_dst (N := 54) rfl ?_); (try (refine gate_guard (by rfl) ?_; dsimp only)); refine goesL_ (some 54) rfl rfl Try.func11 (by kernel_rfl) rfl #[.slice A49 gs.length c49, .slice AW ws.length cW] rfl (by (try simp only [zAA, zAB, zAC]); first | done | rfl) ?_; refine (laws_eqBlockS.calls k A49 c49 gs AW cW ws true _ (Kd.S_reads' HG.out).2.2 (Kd.S_reads' HG.out).2.1 (Kd.C_below HW.out HB7.out) HWC.out E7.out ⟨rfl⟩).mono ?_; rintro e w54 ⟨rfl, hb⟩; refine ⟨_, rfl, ?_⟩; have n0_ := zA (zAD HB.out hb); have n1_ := zA (zAD HB7.out hb); have n2_ := zA (Kd.S_below HX.out hb); have n3_ := zA (Kd.R_below HI.out hb); have n4_ := zA (Kd.S_below HG.out hb); clear HB HB7 HX HI HG; have HB := n0_; clear n0_; have HB7 := n1_; clear n1_; have HX := n2_; clear n2_; have HI := n3_; clear n3_; have HG := n4_; clear n4_; (try clear hb)) | ((with_reducible refine gate_dst (N := 63) rfl ?_); (try (refine gate_guard (by rfl) ?_; dsimp only)); refine goesL_ (some 63) rfl rfl Try.func8 (by kernel_rfl) rfl #[.slice A0 l0.length c0] rfl (by (try simp only [zAA, zAB, zAC]); first | done | rfl) ?_; refine (laws_toBlockS.calls k A0 c0 l0 xs _ (Kd.C_below HR0.out HB.out) HC0.out E3.out).mono ?_; rintro e w63 ⟨v63, rfl, hS, hb⟩; refine ⟨_, rfl, ?_⟩; have n0_ := zA (zAD HB.out hb); have n1_ := zA (zAD HB7.out hb); have n2_ := zA (Kd.S_below HX.out hb); have n3_ := zA (Kd.R_below HI.out hb); have n4_ := zA (Kd.S_below HG.out hb); obtain ⟨A63, c63, rfl⟩ := Kd.S_slice hS; have n6_ := zA (hS); clear hS; clear HB HB7 HX HI HG; have HB := n0_; clear n0_; have HB7 := n1_; clear n1_; have HX := n2_; clear n2_; have HI := n3_; clear n3_; have HG := n4_; clear n4_; have HT := n6_; clear n6_; (try clear hb)) | ((with_reducible refine gate_dst (N := 64) rfl ?_); (try (refine gate_guard (by rfl) ?_; dsimp only)); refine goesL_ (some 64) rfl rfl Try.func11 (by kernel_rfl) rfl #[.slice A42 xs.length c42, .slice A63 xs.length c63] rfl (by (try simp only [zAA, zAB, zAC]); first | done | rfl) ?_; refine (laws_eqBlockS.calls k A42 c42 xs A63 c63 xs true _ (Kd.S_reads' HX.out).2.2 (Kd.S_reads' HX.out).2.1 (Kd.S_reads' HT.out).2.2 (Kd.S_reads' HT.out).2.1 E8.out ⟨rfl⟩).mono ?_; rintro e w64 ⟨rfl, hb⟩; refine ⟨_, rfl, ?_⟩; have n0_ := zA (zAD HB.out hb); have n1_ := zA (zAD HB7.out hb); have n2_ := zA (Kd.S_below HX.out hb); have n3_ := zA (Kd.R_below HI.out hb); have n4_ := zA (Kd.S_below HG.out hb); clear HT; clear HB HB7 HX HI HG; have HB := n0_; clear n0_; have HB7 := n1_; clear n1_; have HX := n2_; clear n2_; have HI := n3_; clear n3_; have HG := n4_; clear n4_; (try clear hb)) | ((with_reducible refine gate_dst (N := 68) rfl ?_); (try (refine gate_guard (by rfl) ?_; dsimp only)); refine goesL_ (some 68) rfl rfl Try.func9 (by kernel_rfl) rfl #[.slice A2 l2.length c2] rfl (by (try simp only [zAA, zAB, zAC]); first | done | rfl) ?_; refine (laws_toStringS.calls k A2 c2 l2 its _ (Kd.C_below HR2.out HB.out) HC2.out E4.out).mono ?_; rintro e w68 ⟨v68, rfl, hS, hb⟩; refine ⟨_, rfl, ?_⟩; have n0_ := zA (zAD HB.out hb); have n1_ := zA (zAD HB7.out hb); have n2_ := zA (Kd.S_below HX.out hb); have n3_ := zA (Kd.R_below HI.out hb); have n4_ := zA (Kd.S_below HG.out hb); obtain ⟨A68, c68, rfl⟩ := Kd.R_slice hS; have n6_ := zA (hS); clear hS; clear HB HB7 HX HI HG; have HB := n0_; clear n0_; have HB7 := n1_; clear n1_; have HX := n2_; clear n2_; have HI := n3_; clear n3_; have HG := n4_; clear n4_; have HT := n6_; clear n6_; (try clear hb)) | ((with_reducible refine gate_dst (N := 69) rfl ?_); (try (refine gate_guard (by rfl) ?_; dsimp only)); refine goesL_ (some 69) rfl rfl Try.func12 (by kernel_rfl) rfl #[.slice A44 its.length c44, .slice A68 its.length c68] rfl (by (try simp only [zAA, zAB, zAC]); first | done | rfl) ?_; refine (laws_eqStringS.calls k A44 c44 its A68 c68 its true _ (Kd.R_reads' HI.out).2.2 (Kd.R_reads' HI.out).2.1 (Kd.R_reads' HT.out).2.2 (Kd.R_reads' HT.out).2.1 E9.out ⟨rfl⟩).mono ?_; rintro e w69 ⟨rfl, hb⟩; refine ⟨_, rfl, ?_⟩; replace hb := hb.below; have n1_ := zA (zAD HB.out hb); have n2_ := zA (zAD HB7.out hb); have n3_ := zA (Kd.S_below HX.out hb); have n4_ := zA (Kd.R_below HI.out hb); have n5_ := zA (Kd.S_below HG.out hb); clear HT; clear HB HB7 HX HI HG; have HB := n1_; clear n1_; have HB7 := n2_; clear n2_; have HX := n3_; clear n3_; have HI := n4_; clear n4_; have HG := n5_; clear n5_; (try clear hb)) | ((with_reducible refine gate_dst (N := 73) rfl ?_); (try (refine gate_guard (by rfl) ?_; dsimp only)); refine goesL_ (some 73) rfl rfl Try.func13 (by kernel_rfl) rfl #[.slice A42 xs.length c42, .int .i64 1] rfl (by (try simp only [zAA, zAB, zAC]); first | done | rfl) ?_; refine (laws_markBlockS.calls k (fun k_ => k_ < w42.heap.size) (.slice A42 xs.length c42) xs 1 m1 xs2 w38 _ HB7.out HX.out E10.out).mono ?_; rintro e w73 ⟨rfl, hx, hb, hk⟩; refine ⟨_, rfl, ?_⟩; have n0_ := zA (zAD HB38.out hb); have n1_ := zA (hb); have n2_ := zA (Kd.R_kept HI.out hk (fun k_ h1 h2 => by omega)); have n3_ := zA (Kd.S_kept HG.out hk (fun k_ h1 h2 => by have := H4244.out; omega)); clear hx hk HX; clear HB HB7 HI HG; have HB := n0_; clear n0_; have HB7 := n1_; clear n1_; have HI := n2_; clear n2_; have HG := n3_; clear n3_; (try clear hb)) | ((with_reducible refine gate_dst (N := 76) rfl ?_); (try (refine gate_guard (by rfl) ?_; dsimp only)); refine goesL_ (some 76) rfl rfl Try.func14 (by kernel_rfl) rfl #[.slice A44 its.length c44, .int .i64 m1] rfl (by (try simp only [zAA, zAB, zAC]); first | done | rfl) ?_; refine (laws_markStringS.calls k (fun k_ => w42.heap.size ≤ k_ ∧ k_ < w44.heap.size) (.slice A44 its.length c44) its m1 m2 its2 w38 _ HB7.out HI.out E11.out).mono ?_; rintro e w76 ⟨rfl, hx, hb, hk⟩; refine ⟨_, rfl, ?_⟩; have n0_ := zA (zAD HB38.out hb); have n1_ := zA (hb); have n2_ := zA (Kd.S_kept HG.out hk (fun k_ h1 h2 => by omega)); clear hx hk HI; clear HB HB7 HG; have HB := n0_; clear n0_; have HB7 := n1_; clear n1_; have HG := n2_; clear n2_; (try clear hb)) | ((with_reducible refine gate_dst (N := 82) rfl ?_); (try (refine gate_guard (by rfl) ?_; dsimp only)); refine goesL_ (some 82) rfl rfl Try.func11 (by kernel_rfl) rfl #[.slice A49 gs.length c49, .slice AW ws.length cW] rfl (by (try simp only [zAA, zAB, zAC]); first | done | rfl) ?_; refine (laws_eqBlockS.calls k A49 c49 gs AW cW ws true _ (Kd.S_reads' HG.out).2.2 (Kd.S_reads' HG.out).2.1 (Kd.C_below HW.out HB7.out) HWC.out E7.out ⟨rfl⟩).mono ?_; rintro e w82 ⟨rfl, hb⟩; refine ⟨_, rfl, ?_⟩; have n0_ := zA (zAD HB.out hb); have n1_ := zA (zAD HB7.out hb); have n2_ := zA (Kd.S_below HG.out hb); clear HB HB7 HG; have HB := n0_; clear n0_; have HB7 := n1_; clear n1_; have HG := n2_; clear n2_; (try clear hb)) | ((with_reducible refine gate_dst (N := 92) rfl ?_); (try (refine gate_guard (by rfl) ?_; dsimp only)); refine goesL_ (some 92) rfl rfl Try.func13 (by kernel_rfl) rfl #[.slice A49 gs.length c49, .int .i64 1] rfl (by (try simp only [zAA, zAB, zAC]); first | done | rfl) ?_; refine (laws_markBlockS.calls k (fun k_ => w44.heap.size ≤ k_) (.slice A49 gs.length c49) gs 1 q gs2 w38 _ HB7.out HG.out E12.out).mono ?_; rintro e w92 ⟨rfl, hx, hb, hk⟩; refine ⟨_, rfl, ?_⟩; have n0_ := zA (zAD HB38.out hb); have n1_ := zA (hb); have n2_ := zA (hx); have eL := Kd.S_reads' hx; have HL := zA eL.1; clear hx hk eL; clear HB HB7 HG; have HB := n0_; clear n0_; have HB7 := n1_; clear n1_; have HG := n2_; clear n2_; (try clear hb)) | ((with_reducible refine gate_dst (N := 95) rfl ?_); (try (refine gate_guard (by rfl) ?_; dsimp only)); refine goesL_ (some 95) rfl rfl Try.func15 (by kernel_rfl) rfl #[.slice A49 gs.length c49, .int .i64 1] rfl (by (try simp only [zAA, zAB, zAC]); first | done | rfl) ?_; refine (held_n k A49 c49 gs2 1 q gs.length _ HL.out (Kd.S_reads' HG.out).2.2 (Kd.S_reads' HG.out).2.1 E13.out).mono ?_; rintro e w95 ⟨rfl, hb⟩; refine ⟨_, rfl, ?_⟩; have n0_ := zA (zAD HB.out hb); have n1_ := zA (zAD HB7.out hb); have n2_ := zA (Kd.S_below HG.out hb); clear HB HB7 HG; have HB := n0_; clear n0_; have HB7 := n1_; clear n1_; have HG := n2_; clear n2_; (try clear hb)) | ((with_reducible refine gate_dst (N := 103) rfl ?_); (try (refine gate_guard (by rfl) ?_; dsimp only)); refine goesL_ (some 103) rfl rfl Try.func8 (by kernel_rfl) rfl #[.slice A0 l0.length c0] rfl (by (try simp only [zAA, zAB, zAC]); first | done | rfl) ?_; refine (laws_toBlockS.calls k A0 c0 l0 xs _ (Kd.C_below HR0.out HB.out) HC0.out E3.out).mono ?_; rintro e w103 ⟨v103, rfl, hS, hb⟩; refine ⟨_, rfl, ?_⟩; have n0_ := zA (zAD HB.out hb); have n1_ := zA (zAD HB7.out hb); have n2_ := zA (Kd.S_below HG.out hb); obtain ⟨A103, c103, rfl⟩ := Kd.S_slice hS; have n4_ := zA (hS); clear hS; clear HB HB7 HG; have HB := n0_; clear n0_; have HB7 := n1_; clear n1_; have HG := n2_; clear n2_; have HX := n4_; clear n4_; (try clear hb)) | ((with_reducible refine gate_dst (N := 106) rfl ?_); (try (refine gate_guard (by rfl) ?_; dsimp only)); refine goesL_ (some 106) rfl rfl Try.func9 (by kernel_rfl) rfl #[.slice A2 l2.length c2] rfl (by (try simp only [zAA, zAB, zAC]); first | done | rfl) ?_; refine (laws_toStringS.calls k A2 c2 l2 its _ (Kd.C_below HR2.out HB.out) HC2.out E4.out).mono ?_; rintro e w106 ⟨v106, rfl, hS, hb⟩; refine ⟨_, rfl, ?_⟩; have n0_ := zA (zAD HB.out hb); have n1_ := zA (zAD HB7.out hb); have n2_ := zA (Kd.S_below HG.out hb); have n3_ := zA (Kd.S_below HX.out hb); obtain ⟨A106, c106, rfl⟩ := Kd.R_slice hS; have n5_ := zA (hS); clear hS; clear HB HB7 HG HX; have HB := n0_; clear n0_; have HB7 := n1_; clear n1_; have HG := n2_; clear n2_; have HX := n3_; clear n3_; have HI := n5_; clear n5_; (try clear hb)) | ((with_reducible refine gate_dst (N := 107) rfl ?_); (try (refine gate_guard (by rfl) ?_; dsimp only)); refine goesL_ (some 107) rfl rfl Try.func10 (by kernel_rfl) rfl #[.slice A103 xs.length c103, .string a1, .slice A106 its.length c106] rfl (by (try simp only [zAA, zAB, zAC]); first | done | rfl) ?_; refine (impl_PutBlock.calls k A103 c103 xs a1 A106 c106 its gs gb _ (Kd.S_reads' HX.out).2.2 (Kd.S_reads' HX.out).2.1 (Kd.R_reads' HI.out).2.2 (Kd.R_reads' HI.out).2.1 E6.out).mono ?_; rintro e w107 ⟨v107, rfl, hS, hb⟩; refine ⟨_, rfl, ?_⟩; have n0_ := zA (zAD HB.out hb); have n1_ := zA (zAD HB7.out hb); have n2_ := zA (Kd.S_below HG.out hb); obtain ⟨A107, c107, rfl⟩ := Kd.S_slice hS; have n4_ := zA (hS); clear hS HX HI; clear HB HB7 HG; have HB := n0_; clear n0_; have HB7 := n1_; clear n1_; have HG := n2_; clear n2_; have HH := n4_; clear n4_; (try clear hb)) | ((with_reducible refine gate_dst (N := 112) rfl ?_); (try (refine gate_guard (by rfl) ?_; dsimp only)); refine goesL_ (some 112) rfl rfl Try.func11 (by kernel_rfl) rfl #[.slice A107 gs.length c107, .slice AW ws.length cW] rfl (by (try simp only [zAA, zAB, zAC]); first | done | rfl) ?_; refine (laws_eqBlockS.calls k A107 c107 gs AW cW ws true _ (Kd.S_reads' HH.out).2.2 (Kd.S_reads' HH.out).2.1 (Kd.C_below HW.out HB7.out) HWC.out E7.out ⟨rfl⟩).mono ?_; rintro e w112 ⟨rfl, hb⟩; refine ⟨_, rfl, ?_⟩; have n0_ := zA (zAD HB.out hb); have n1_ := zA (zAD HB7.out hb); have n2_ := zA (Kd.S_below HG.out hb); clear HH; clear HB HB7 HG; have HB := n0_; clear n0_; have HB7 := n1_; clear n1_; have HG := n2_; clear n2_; (try clear hb)) | ((with_reducible refine gate_dst (N := 121) rfl ?_); (try (refine gate_guard (by rfl) ?_; dsimp only)); refine goesL_ (some 121) rfl rfl Try.func15 (by kernel_rfl) rfl #[.slice A49 gs.length c49, .int .i64 1] rfl (by (try simp only [zAA, zAB, zAC]); first | done | rfl) ?_; refine (held_n k A49 c49 gs2 1 q gs.length _ HL.out (Kd.S_reads' HG.out).2.2 (Kd.S_reads' HG.out).2.1 E13.out).mono ?_; rintro e w121 ⟨rfl, hb⟩; refine ⟨_, rfl, ?_⟩; have n0_ := zA (zAD HB.out hb); have n1_ := zA (zAD HB7.out hb); have n2_ := zA (Kd.S_below HG.out hb); clear HB HB7 HG; have HB := n0_; clear n0_; have HB7 := n1_; clear n1_; have HG := n2_; clear n2_; (try clear hb)))
    go_ret
    exact ⟨by first | rfl | (simp <;> rfl), HB.out⟩
end Go.Proofs.Ytpbepgffbcfaoaa.RB
end
section
namespace Go.Proofs.Ytpbepgffbcfaoaa.PA
open Go.RowKit Go.Proofs.YtpbepgffbcfaoaaW.PrintWords Go.Proofs.YtpbepgffbcfaoaaW.PrintLast Go.Proofs.YtpbepgffbcfaoaaW.PrintMore
attribute [local go_sem] max2_int min2_int max_two min_two max_three min_three max_four min_four
set_option linter.unusedVariables false
set_option linter.unusedSimpArgs false
set_option maxHeartbeats 60000000
set_option maxRecDepth 100000
def laws_FnExactPutBlock.f (k : Nat) (l0 : List (S50)) (a1 : ByteArray) (l2 : List ByteArray) : Option Bool := Go.Proofs.Ytpbepgffbcfaoaa.RB.lawF k l0 a1 l2
theorem laws_FnExactPutBlock.calls (k : Nat) (A0 : Option Addr) (c0 : Nat) (l0 : List (S50)) (a1 : ByteArray) (A2 : Option Addr) (c2 : Nat) (l2 : List ByteArray) (r : Bool) (w : World) (hr0 : Kd.C k50 w A0 l0.length l0) (hc0 : l0.length ≤ c0) (hr2 : Kd.C Kd.string w A2 l2.length l2) (hc2 : l2.length ≤ c2) (h : laws_FnExactPutBlock.f k l0 a1 l2 = some r) (hr_ : Aside0 (r = true)) :
  Calls Try.prog 3 #[.slice A0 l0.length c0, .string a1, .slice A2 l2.length c2] w fun e w' => e = .returned (.bool r) ∧ Below w.heap.size w w' :=
 Go.Proofs.Ytpbepgffbcfaoaa.RB.lawC k A0 c0 l0 a1 A2 c2 l2 r w hr0 hc0 hr2 hc2 h hr_
end Go.Proofs.Ytpbepgffbcfaoaa.PA
end
section
namespace Go.Proofs.Ytpbepgffbcfaoaa.PB
open Go.RowKit Go.Proofs.YtpbepgffbcfaoaaW.PrintWords Go.Proofs.YtpbepgffbcfaoaaW.PrintLast Go.Proofs.YtpbepgffbcfaoaaW.PrintMore
set_option linter.unusedVariables false
theorem ev_pos {α : Type} {c : Prop} [Decidable c] {f g : Nat → Option α} {r : α} (hc : c) (h : Ev f r) : Ev (fun k => if c then f k else g k) r := by
 simp only [if_pos hc]; exact h
theorem ev_neg {α : Type} {c : Prop} [Decidable c] {f g : Nat → Option α} {r : α} (hc : ¬ c) (h : Ev g r) : Ev (fun k => if c then f k else g k) r := by
 simp only [if_neg hc]; exact h
theorem ev_bind {α β : Type} {g : Nat → Option α} {f : Nat → α → Option β} {a : α} {r : β} (h : Ev g a) (k : Ev (fun n => f n a) r) : Ev (fun n => (g n).bind (f n)) r := Ev.bind h k
theorem ev_const {α β : Type} {o : Option α} {f : Nat → α → Option β} {a : α} {r : β} (h : o = some a) (k : Ev (fun n => f n a) r) : Ev (fun n => o.bind (f n)) r := by
 subst h; exact k
theorem ev_of_eq {α : Type} {o : Option α} {r : α} (h : o = some r) : Ev (fun _ => o) r := by subst h; exact Ev.now r
theorem ev_eq {α : Type} {f : Nat → Option α} {r r' : α} (h : Ev f r) (e : r = r') : Ev f r' := e ▸ h
theorem ev_unique {α : Type} {f : Nat → Option α} {r r' : α} (h : Ev f r) (h' : Ev f r') : r = r' := by
 obtain ⟨K, h⟩ := h
 obtain ⟨K', h'⟩ := h'
 have := (h (max K K') (by omega)).symm.trans (h' (max K K') (by omega))
 simpa using this
theorem w64 {x : Int} (h0 : -9223372036854775808 ≤ x) (h1 : x ≤ 9223372036854775807) : wrap64 x = x := by
 unfold wrap64; omega
theorem ba_ext {a b : ByteArray} (h : a.toList = b.toList) : a = b := by
 rw [ByteArray.toList_eq, ByteArray.toList_eq] at h
 have h' : a.data = b.data := Array.toList_inj.mp h
 cases a; cases b; simp_all
theorem ba_iff {a b : ByteArray} : a.toList = b.toList ↔ a = b := ⟨ba_ext, fun h => by rw [h]⟩
theorem size_toList (s : ByteArray) : s.toList.length = s.size := by rw [ByteArray.toList_eq]; exact data_length s
theorem bt_get (s : ByteArray) (i : Nat) (h : i < s.size) : bt s (i : Int) = ((s.toList.getD i 0).toNat : Int) := by
 rw [ByteArray.toList_eq]
 unfold bt
 rw [dif_pos (by simpa using h)]
 have h' : i < s.data.toList.length := by rw [data_length]; exact h
 simp [List.getD_eq_getElem?_getD, List.getElem?_eq_getElem h']
 rfl
end Go.Proofs.Ytpbepgffbcfaoaa.PB
end
