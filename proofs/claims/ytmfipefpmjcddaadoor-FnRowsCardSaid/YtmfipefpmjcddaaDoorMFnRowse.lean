/- For the law FnRows (laid by merge.py). -/
import Derived.Test.YtmfipefpmjcddaaDoorMFnRowsd
section
namespace Go.Proofs.YtmfipefpmjcddaaDoor.PA
open Go.RowKit Go.Proofs.YtmfipefpmjcddaaDoorW.PrintWords Go.Proofs.YtmfipefpmjcddaaDoorW.PrintLast Go.Proofs.YtmfipefpmjcddaaDoorW.PrintMore
attribute [local go_sem] max2_int min2_int max_two min_two max_three min_three max_four min_four
set_option linter.unusedVariables false
set_option linter.unusedSimpArgs false
set_option maxHeartbeats 60000000
set_option maxRecDepth 100000
def impl_AfterBeginning.f (k : Nat) (l0 : List (S39)) : Option (ByteArray × ByteArray × Bool) := (impl_RowBytes.f k l0).bind fun bt10 => (if bt10.2 = true then (if bt10.1.size + 1 ≤ 9223372036854775807 then (some (bt10.1, bt10.1 ++ (⟨#[255]⟩ : ByteArray), true)) else (none)) else (some ((⟨#[]⟩ : ByteArray), (⟨#[]⟩ : ByteArray), false)))
theorem impl_AfterBeginning.calls (k : Nat) (A0 : Option Addr) (c0 : Nat) (l0 : List (S39)) (r1 : ByteArray) (r2 : ByteArray) (r3 : Bool) (w : World) (hr0 : Kd.C k39 w A0 l0.length l0) (hc0 : l0.length ≤ c0) (h : impl_AfterBeginning.f k l0 = some (r1, r2, r3)) :
  Calls Tryd.prog 12 #[.slice A0 l0.length c0] w fun e w' => e = .returned (.tuple #[.string r1, .string r2, .bool r3]) ∧ Below w.heap.size w w' := by
 have HR0 := zA hr0; have HC0 := zA hc0; clear hr0 hc0; have HB := zA (Below.refl w.heap.size w); have H : ((impl_RowBytes.f k l0).bind fun bt10 => (if bt10.2 = true then (if bt10.1.size + 1 ≤ 9223372036854775807 then (some (bt10.1, bt10.1 ++ (⟨#[255]⟩ : ByteArray), true)) else (none)) else (some ((⟨#[]⟩ : ByteArray), (⟨#[]⟩ : ByteArray), false)))) = some (r1, r2, r3) := h; clear h; replace H := zAF H; obtain ⟨⟨t10, t11⟩, A20, H⟩ := H; replace H : (if t11 = true then (if t10.size + 1 ≤ 9223372036854775807 then (some (t10, t10 ++ (⟨#[255]⟩ : ByteArray), true)) else (none)) else (some ((⟨#[]⟩ : ByteArray), (⟨#[]⟩ : ByteArray), false))) = some (r1, r2, r3) := H; have A2 := zA A20; clear A20
 by_cases c3 : t11 = true
 ·subst c3
  have H1 : (if t10.size + 1 ≤ 9223372036854775807 then (some (t10, t10 ++ (⟨#[255]⟩ : ByteArray), true)) else (none)) = some (r1, r2, r3) := by rw [if_pos rfl] at H; exact H
  clear H; have H := H1; clear H1
  by_cases c4 : t10.size + 1 ≤ 9223372036854775807
  ·rw [if_pos c4] at H
   have c4b0 := eq_true c4; have c4b1 : decide (t10.size + 1 ≤ 9223372036854775807) = true := zX c4
   try have c4b2 : (9223372036854775807 < t10.size + 1) = False := eq_false (Nat.not_lt.2 c4)
   simp only [Option.some.injEq, Prod.mk.injEq] at H; obtain ⟨rfl, rfl, rfl⟩ := H; go_enter Tryd.func12, Tryd.ntmps12; go_wp2_with (first | ((with_reducible refine yB (f := 7) rfl ?_); refine goesL_ (some 9) rfl rfl Tryd.func7 (by kernel_rfl) rfl #[.slice A0 l0.length c0] rfl (by (try simp only [zAA, zAB, zAC]); first | done | rfl | (simp only [zZ, zY]; rfl)) ?_; (with_reducible refine (impl_RowBytes.calls k _ _ l0 t10 true _ ?side1 ?side2 A2.out).mono ?_); (case side1 => repeat (first | exact HR0.out | (with_reducible refine zT ?_ _) | (with_reducible refine zU ?_ _) | (with_reducible refine zV ?_))); (case side2 => exact HC0.out); rintro e w5 ⟨rfl, hb⟩; refine ⟨_, rfl, ?_⟩; have n0_ := zA (zAD (by (with_reducible repeat first | exact HB.out | apply zH | apply zF | apply zG) <;> exact HB.out) hb); clear HB; have HB := n0_; clear n0_; (try clear hb))); go_ret3; exact ⟨by first | rfl | (simp <;> rfl) | (simp [*] <;> rfl), by (with_reducible repeat first | exact HB.out | apply zH | apply zF | apply zG) <;> exact HB.out⟩
  ·rw [if_neg c4] at H
   exact absurd H (by simp)
 ·replace c3 := Bool.eq_false_iff.mpr c3
  subst c3; have H1 : (some ((⟨#[]⟩ : ByteArray), (⟨#[]⟩ : ByteArray), false)) = some (r1, r2, r3) := by rw [if_neg (show ¬ (false = true) by decide)] at H; exact H
  clear H; have H := H1; clear H1; simp only [Option.some.injEq, Prod.mk.injEq] at H; obtain ⟨rfl, rfl, rfl⟩ := H; go_enter Tryd.func12, Tryd.ntmps12; go_wp2_with (first | ((with_reducible refine yB (f := 7) rfl ?_); refine goesL_ (some 9) rfl rfl Tryd.func7 (by kernel_rfl) rfl #[.slice A0 l0.length c0] rfl (by (try simp only [zAA, zAB, zAC]); first | done | rfl | (simp only [zZ, zY]; rfl)) ?_; (with_reducible refine (impl_RowBytes.calls k _ _ l0 t10 false _ ?side1 ?side2 A2.out).mono ?_); (case side1 => repeat (first | exact HR0.out | (with_reducible refine zT ?_ _) | (with_reducible refine zU ?_ _) | (with_reducible refine zV ?_))); (case side2 => exact HC0.out); rintro e w6 ⟨rfl, hb⟩; refine ⟨_, rfl, ?_⟩; have n0_ := zA (zAD (by (with_reducible repeat first | exact HB.out | apply zH | apply zF | apply zG) <;> exact HB.out) hb); clear HB; have HB := n0_; clear n0_; (try clear hb))); go_ret3; exact ⟨by first | rfl | (simp <;> rfl) | (simp [*] <;> rfl), by (with_reducible repeat first | exact HB.out | apply zH | apply zF | apply zG) <;> exact HB.out⟩
def impl_CompareValues.f (k : Nat) (a0_0 : Int) (a0_1 : Int) (a0_2 : ByteArray) (a1_0 : Int) (a1_1 : Int) (a1_2 : ByteArray) : Option (Int × Bool) := (impl_GoodValue.f a0_0 a0_1 a0_2).bind fun t10 => (if t10 = true then ((impl_GoodValue.f a1_0 a1_1 a1_2).bind fun t11 => (if t11 = true then ((impl_Value_compare.f k a0_0 a0_1 a0_2 a1_0 a1_1 a1_2).bind fun t12 => (some (t12, true))) else (some (0, false)))) else (some (0, false)))
theorem impl_CompareValues.calls (k : Nat) (a0_0 : Int) (a0_1 : Int) (a0_2 : ByteArray) (a1_0 : Int) (a1_1 : Int) (a1_2 : ByteArray) (r1 : Int) (r2 : Bool) (w : World) (h : impl_CompareValues.f k a0_0 a0_1 a0_2 a1_0 a1_1 a1_2 = some (r1, r2)) :
  Calls Tryd.prog 13 #[.agg #[.int .i64 a0_0, .int .i64 a0_1, .string a0_2], .agg #[.int .i64 a1_0, .int .i64 a1_1, .string a1_2]] w fun e w' => e = .returned (.tuple #[.int .i64 r1, .bool r2]) ∧ Below w.heap.size w w' := by
 have hu39 := Tryd.underlying39; have HB := zA (Below.refl w.heap.size w); have H : ((impl_GoodValue.f a0_0 a0_1 a0_2).bind fun t31 => (if t31 = true then ((impl_GoodValue.f a1_0 a1_1 a1_2).bind fun t32 => (if t32 = true then ((impl_Value_compare.f k a0_0 a0_1 a0_2 a1_0 a1_1 a1_2).bind fun t33 => (some (t33, true))) else (some (0, false)))) else (some (0, false)))) = some (r1, r2) := h; clear h; replace H := zAF H; obtain ⟨t31, A30, H⟩ := H; replace H : (if t31 = true then ((impl_GoodValue.f a1_0 a1_1 a1_2).bind fun t32 => (if t32 = true then ((impl_Value_compare.f k a0_0 a0_1 a0_2 a1_0 a1_1 a1_2).bind fun t33 => (some (t33, true))) else (some (0, false)))) else (some (0, false))) = some (r1, r2) := H; have A3 := zA A30; clear A30
 by_cases c4 : t31 = true
 ·subst c4
  have H1 : ((impl_GoodValue.f a1_0 a1_1 a1_2).bind fun t32 => (if t32 = true then ((impl_Value_compare.f k a0_0 a0_1 a0_2 a1_0 a1_1 a1_2).bind fun t33 => (some (t33, true))) else (some (0, false)))) = some (r1, r2) := by rw [if_pos rfl] at H; exact H
  clear H; have H := H1; clear H1; replace H := zAF H; obtain ⟨t32, A50, H⟩ := H; replace H : (if t32 = true then ((impl_Value_compare.f k a0_0 a0_1 a0_2 a1_0 a1_1 a1_2).bind fun t33 => (some (t33, true))) else (some (0, false))) = some (r1, r2) := H; have A5 := zA A50; clear A50
  by_cases c6 : t32 = true
  ·subst c6
   have H1 : ((impl_Value_compare.f k a0_0 a0_1 a0_2 a1_0 a1_1 a1_2).bind fun t33 => (some (t33, true))) = some (r1, r2) := by rw [if_pos rfl] at H; exact H
   clear H; have H := H1; clear H1; replace H := zAF H; obtain ⟨t33, A70, H⟩ := H; replace H : (some (t33, true)) = some (r1, r2) := H; have A7 := zA A70; clear A70; simp only [Option.some.injEq, Prod.mk.injEq] at H; obtain ⟨rfl, rfl⟩ := H; go_enter Tryd.func13, Tryd.ntmps13; go_wp2_with (first | ((with_reducible refine gate_dst (N := 2) rfl ?_); refine box_event ?hg (N := 2) ?hd (cs := #[.int .i64 a0_0, .int .i64 a0_1, .string a0_2]) (t := 39) ?hr ?_; (case hd => rfl); (case hg => rfl); (case hr => first | (go_simp; done) | (go_simp; rfl)); intro gb34 hg w8 hbox hb; have n0_ := zA (zAD (by (with_reducible repeat first | exact HB.out | apply zH | apply zF | apply zG) <;> exact HB.out) hb); have n1_ := zA (hbox); have n2_ := zA ((by rw [hg]; exact (zAE (by (with_reducible repeat first | exact HB.out | apply zH | apply zF | apply zG) <;> exact HB.out)) : w.heap.size ≤ gb34)); have n3_ := zA ((by rw [hg]; exact (zAE (by (with_reducible repeat first | exact HB.out | apply zH | apply zF | apply zG) <;> exact HB.out)) : w.heap.size ≤ gb34)); clear HB; have HB := n0_; have BK34 := n1_; have GW34 := n2_; have GE34 := n3_; clear n0_ n1_ n2_ n3_; clear hb hbox hg) | ((with_reducible refine gate_dst (N := 3) rfl ?_); refine box_event ?hg (N := 3) ?hd (cs := #[.int .i64 a1_0, .int .i64 a1_1, .string a1_2]) (t := 39) ?hr ?_; (case hd => rfl); (case hg => rfl); (case hr => first | (go_simp; done) | (go_simp; rfl)); intro gb35 hg w9 hbox hb; have n0_ := zA (yE (g := gb34) (o := .cells #[.int .i64 a0_0, .int .i64 a0_1, .string a0_2] 39 (0, 0)) (by (with_reducible repeat (first | refine zL ?_ _ | refine zN ?_ | refine zM ?_ _)); exact BK34.out) hb); have n1_ := zA (zAD (by repeat (first | (with_reducible first | exact HB.out | apply zH | apply zF | apply zG | refine zI ?_ GE34.out) | exact HB.out)) hb); have n2_ := zA (hbox); have n3_ := zA ((by rw [hg]; exact (zAE (by repeat (first | (with_reducible first | exact HB.out | apply zH | apply zF | apply zG | refine zI ?_ GE34.out) | exact HB.out))) : w.heap.size ≤ gb35)); have n4_ := zA ((by rw [hg]; exact (zAE (by repeat (first | (with_reducible first | exact HB.out | apply zH | apply zF | apply zG | refine zI ?_ GE34.out) | exact HB.out))) : w.heap.size ≤ gb35)); have n5_ := zA ((by rw [hg]; exact zK (blk_lt (g := gb34) (o := .cells #[.int .i64 a0_0, .int .i64 a0_1, .string a0_2] 39 (0, 0)) (by (with_reducible repeat (first | refine zL ?_ _ | refine zN ?_ | refine zM ?_ _)); exact BK34.out)) : gb34 ≠ gb35)); have n6_ := zA ((by rw [hg]; exact Nat.ne_of_gt (blk_lt (g := gb34) (o := .cells #[.int .i64 a0_0, .int .i64 a0_1, .string a0_2] 39 (0, 0)) (by (with_reducible repeat (first | refine zL ?_ _ | refine zN ?_ | refine zM ?_ _)); exact BK34.out)) : gb35 ≠ gb34)); clear BK34; clear HB; have BK34 := n0_; have HB := n1_; have BK35 := n2_; have GW35 := n3_; have GE35 := n4_; have NB34_35 := n5_; have NB35_34 := n6_; clear n0_ n1_ n2_ n3_ n4_ n5_ n6_; clear hb hbox hg; have hnb10 := NB34_35.out; have hnc10 := NB35_34.out; have hcz11_0 : w9.cell? ⟨gb34, 0, none⟩ = some (.int .i64 a0_0) := (zP BK34.out 0).trans rfl; have hcz11_1 : w9.cell? ⟨gb34, 1, none⟩ = some (.int .i64 a0_1) := (zP BK34.out 1).trans rfl; have hcz11_2 : w9.cell? ⟨gb34, 2, none⟩ = some (.string a0_2) := (zP BK34.out 2).trans rfl; have hfz11_0 := zO BK34.out 0; have hfz11_1 := zO BK34.out 1; have hfz11_2 := zO BK34.out 2) | ((with_reducible refine yB (f := 30) rfl ?_); refine goesL_ (some 7) rfl rfl Tryd.func30 (by kernel_rfl) rfl #[.agg #[.int .i64 a0_0, .int .i64 a0_1, .string a0_2]] rfl (by (try simp only [zAA, zAB, zAC]); first | done | rfl) ?_; (with_reducible refine (impl_GoodValue.calls a0_0 a0_1 a0_2 true _ A3.out).mono ?_); rintro e w12 ⟨rfl, hb⟩; refine ⟨_, rfl, ?_⟩; have n0_ := zA (yE (g := gb34) (o := .cells #[.int .i64 a0_0, .int .i64 a0_1, .string a0_2] 39 (0, 0)) (by (with_reducible repeat (first | refine zL ?_ _ | refine zN ?_ | refine zM ?_ _)); exact BK34.out) hb); have n1_ := zA (yE (g := gb35) (o := .cells #[.int .i64 a1_0, .int .i64 a1_1, .string a1_2] 39 (0, 0)) (by (with_reducible repeat (first | refine zL ?_ _ | refine zN ?_ | refine zM ?_ _)); exact BK35.out) hb); have n2_ := zA (zAD (by repeat (first | (with_reducible first | exact HB.out | apply zH | apply zF | apply zG | refine zI ?_ GE34.out | refine zI ?_ GE35.out) | exact HB.out)) hb); clear BK34; clear BK35; clear HB; have BK34 := n0_; have BK35 := n1_; have HB := n2_; clear n0_ n1_ n2_; (try clear hb); have hcz13_0 : w12.cell? ⟨gb35, 0, none⟩ = some (.int .i64 a1_0) := (zP BK35.out 0).trans rfl; have hcz13_1 : w12.cell? ⟨gb35, 1, none⟩ = some (.int .i64 a1_1) := (zP BK35.out 1).trans rfl; have hcz13_2 : w12.cell? ⟨gb35, 2, none⟩ = some (.string a1_2) := (zP BK35.out 2).trans rfl; have hfz13_0 := zO BK35.out 0; have hfz13_1 := zO BK35.out 1; have hfz13_2 := zO BK35.out 2) | (go_at_call 30; (with_reducible refine (impl_GoodValue.calls a1_0 a1_1 a1_2 true _ A5.out).mono ?_); rintro e w14 ⟨rfl, hb⟩; have n0_ := zA (yE (g := gb34) (o := .cells #[.int .i64 a0_0, .int .i64 a0_1, .string a0_2] 39 (0, 0)) (by (with_reducible repeat (first | refine zL ?_ _ | refine zN ?_ | refine zM ?_ _)); exact BK34.out) hb); have n1_ := zA (yE (g := gb35) (o := .cells #[.int .i64 a1_0, .int .i64 a1_1, .string a1_2] 39 (0, 0)) (by (with_reducible repeat (first | refine zL ?_ _ | refine zN ?_ | refine zM ?_ _)); exact BK35.out) hb); have n2_ := zA (zAD (by repeat (first | (with_reducible first | exact HB.out | apply zH | apply zF | apply zG | refine zI ?_ GE34.out | refine zI ?_ GE35.out) | exact HB.out)) hb); clear BK34; clear BK35; clear HB; have BK34 := n0_; have BK35 := n1_; have HB := n2_; clear n0_ n1_ n2_; (try clear hb); have hcz15_0 : w14.cell? ⟨gb34, 0, none⟩ = some (.int .i64 a0_0) := (zP BK34.out 0).trans rfl; have hcz15_1 : w14.cell? ⟨gb34, 1, none⟩ = some (.int .i64 a0_1) := (zP BK34.out 1).trans rfl; have hcz15_2 : w14.cell? ⟨gb34, 2, none⟩ = some (.string a0_2) := (zP BK34.out 2).trans rfl; have hfz15_0 := zO BK34.out 0; have hfz15_1 := zO BK34.out 1; have hfz15_2 := zO BK34.out 2; have hcz16_0 : w14.cell? ⟨gb35, 0, none⟩ = some (.int .i64 a1_0) := (zP BK35.out 0).trans rfl; have hcz16_1 : w14.cell? ⟨gb35, 1, none⟩ = some (.int .i64 a1_1) := (zP BK35.out 1).trans rfl; have hcz16_2 : w14.cell? ⟨gb35, 2, none⟩ = some (.string a1_2) := (zP BK35.out 2).trans rfl; have hfz16_0 := zO BK35.out 0; have hfz16_1 := zO BK35.out 1; have hfz16_2 := zO BK35.out 2) | ((with_reducible refine yB (f := 24) rfl ?_); refine goesL_ (some 16) rfl rfl Tryd.func24 (by kernel_rfl) rfl #[.agg #[.int .i64 a0_0, .int .i64 a0_1, .string a0_2], .agg #[.int .i64 a1_0, .int .i64 a1_1, .string a1_2]] rfl (by (try simp only [zAA, zAB, zAC]); first | done | rfl) ?_; (with_reducible refine (impl_Value_compare.calls k a0_0 a0_1 a0_2 a1_0 a1_1 a1_2 t33 _ A7.out).mono ?_); rintro e w17 ⟨rfl, hb⟩; refine ⟨_, rfl, ?_⟩; have n0_ := zA (yE (g := gb34) (o := .cells #[.int .i64 a0_0, .int .i64 a0_1, .string a0_2] 39 (0, 0)) (by (with_reducible repeat (first | refine zL ?_ _ | refine zN ?_ | refine zM ?_ _)); exact BK34.out) hb); have n1_ := zA (yE (g := gb35) (o := .cells #[.int .i64 a1_0, .int .i64 a1_1, .string a1_2] 39 (0, 0)) (by (with_reducible repeat (first | refine zL ?_ _ | refine zN ?_ | refine zM ?_ _)); exact BK35.out) hb); have n2_ := zA (zAD (by repeat (first | (with_reducible first | exact HB.out | apply zH | apply zF | apply zG | refine zI ?_ GE34.out | refine zI ?_ GE35.out) | exact HB.out)) hb); clear BK34; clear BK35; clear HB; have BK34 := n0_; have BK35 := n1_; have HB := n2_; clear n0_ n1_ n2_; (try clear hb)))
   go_ret2; exact ⟨by first | rfl | (simp <;> rfl) | (simp [*] <;> rfl), by repeat (first | (with_reducible first | exact HB.out | apply zH | apply zF | apply zG | refine zI ?_ GE34.out | refine zI ?_ GE35.out) | exact HB.out)⟩
  ·replace c6 := Bool.eq_false_iff.mpr c6
   subst c6; have H1 : (some (0, false)) = some (r1, r2) := by rw [if_neg (show ¬ (false = true) by decide)] at H; exact H
   clear H; have H := H1; clear H1; simp only [Option.some.injEq, Prod.mk.injEq] at H; obtain ⟨rfl, rfl⟩ := H; go_enter Tryd.func13, Tryd.ntmps13; go_wp2_with (first | ((with_reducible refine gate_dst (N := 2) rfl ?_); refine box_event ?hg (N := 2) ?hd (cs := #[.int .i64 a0_0, .int .i64 a0_1, .string a0_2]) (t := 39) ?hr ?_; (case hd => rfl); (case hg => rfl); (case hr => first | (go_simp; done) | (go_simp; rfl)); intro gb34 hg w18 hbox hb; have n0_ := zA (zAD (by (with_reducible repeat first | exact HB.out | apply zH | apply zF | apply zG) <;> exact HB.out) hb); have n1_ := zA (hbox); have n2_ := zA ((by rw [hg]; exact (zAE (by (with_reducible repeat first | exact HB.out | apply zH | apply zF | apply zG) <;> exact HB.out)) : w.heap.size ≤ gb34)); have n3_ := zA ((by rw [hg]; exact (zAE (by (with_reducible repeat first | exact HB.out | apply zH | apply zF | apply zG) <;> exact HB.out)) : w.heap.size ≤ gb34)); clear HB; have HB := n0_; have BK34 := n1_; have GW34 := n2_; have GE34 := n3_; clear n0_ n1_ n2_ n3_; clear hb hbox hg) | ((with_reducible refine gate_dst (N := 3) rfl ?_); refine box_event ?hg (N := 3) ?hd (cs := #[.int .i64 a1_0, .int .i64 a1_1, .string a1_2]) (t := 39) ?hr ?_; (case hd => rfl); (case hg => rfl); (case hr => first | (go_simp; done) | (go_simp; rfl)); intro gb35 hg w19 hbox hb; have n0_ := zA (yE (g := gb34) (o := .cells #[.int .i64 a0_0, .int .i64 a0_1, .string a0_2] 39 (0, 0)) (by (with_reducible repeat (first | refine zL ?_ _ | refine zN ?_ | refine zM ?_ _)); exact BK34.out) hb); have n1_ := zA (zAD (by repeat (first | (with_reducible first | exact HB.out | apply zH | apply zF | apply zG | refine zI ?_ GE34.out) | exact HB.out)) hb); have n2_ := zA (hbox); have n3_ := zA ((by rw [hg]; exact (zAE (by repeat (first | (with_reducible first | exact HB.out | apply zH | apply zF | apply zG | refine zI ?_ GE34.out) | exact HB.out))) : w.heap.size ≤ gb35)); have n4_ := zA ((by rw [hg]; exact (zAE (by repeat (first | (with_reducible first | exact HB.out | apply zH | apply zF | apply zG | refine zI ?_ GE34.out) | exact HB.out))) : w.heap.size ≤ gb35)); have n5_ := zA ((by rw [hg]; exact zK (blk_lt (g := gb34) (o := .cells #[.int .i64 a0_0, .int .i64 a0_1, .string a0_2] 39 (0, 0)) (by (with_reducible repeat (first | refine zL ?_ _ | refine zN ?_ | refine zM ?_ _)); exact BK34.out)) : gb34 ≠ gb35)); have n6_ := zA ((by rw [hg]; exact Nat.ne_of_gt (blk_lt (g := gb34) (o := .cells #[.int .i64 a0_0, .int .i64 a0_1, .string a0_2] 39 (0, 0)) (by (with_reducible repeat (first | refine zL ?_ _ | refine zN ?_ | refine zM ?_ _)); exact BK34.out)) : gb35 ≠ gb34)); clear BK34; clear HB; have BK34 := n0_; have HB := n1_; have BK35 := n2_; have GW35 := n3_; have GE35 := n4_; have NB34_35 := n5_; have NB35_34 := n6_; clear n0_ n1_ n2_ n3_ n4_ n5_ n6_; clear hb hbox hg; have hnb20 := NB34_35.out; have hnc20 := NB35_34.out; have hcz21_0 : w19.cell? ⟨gb34, 0, none⟩ = some (.int .i64 a0_0) := (zP BK34.out 0).trans rfl; have hcz21_1 : w19.cell? ⟨gb34, 1, none⟩ = some (.int .i64 a0_1) := (zP BK34.out 1).trans rfl; have hcz21_2 : w19.cell? ⟨gb34, 2, none⟩ = some (.string a0_2) := (zP BK34.out 2).trans rfl; have hfz21_0 := zO BK34.out 0; have hfz21_1 := zO BK34.out 1; have hfz21_2 := zO BK34.out 2) | ((with_reducible refine yB (f := 30) rfl ?_); refine goesL_ (some 7) rfl rfl Tryd.func30 (by kernel_rfl) rfl #[.agg #[.int .i64 a0_0, .int .i64 a0_1, .string a0_2]] rfl (by (try simp only [zAA, zAB, zAC]); first | done | rfl) ?_; (with_reducible refine (impl_GoodValue.calls a0_0 a0_1 a0_2 true _ A3.out).mono ?_); rintro e w22 ⟨rfl, hb⟩; refine ⟨_, rfl, ?_⟩; have n0_ := zA (yE (g := gb34) (o := .cells #[.int .i64 a0_0, .int .i64 a0_1, .string a0_2] 39 (0, 0)) (by (with_reducible repeat (first | refine zL ?_ _ | refine zN ?_ | refine zM ?_ _)); exact BK34.out) hb); have n1_ := zA (yE (g := gb35) (o := .cells #[.int .i64 a1_0, .int .i64 a1_1, .string a1_2] 39 (0, 0)) (by (with_reducible repeat (first | refine zL ?_ _ | refine zN ?_ | refine zM ?_ _)); exact BK35.out) hb); have n2_ := zA (zAD (by repeat (first | (with_reducible first | exact HB.out | apply zH | apply zF | apply zG | refine zI ?_ GE34.out | refine zI ?_ GE35.out) | exact HB.out)) hb); clear BK34; clear BK35; clear HB; have BK34 := n0_; have BK35 := n1_; have HB := n2_; clear n0_ n1_ n2_; (try clear hb); have hcz23_0 : w22.cell? ⟨gb35, 0, none⟩ = some (.int .i64 a1_0) := (zP BK35.out 0).trans rfl; have hcz23_1 : w22.cell? ⟨gb35, 1, none⟩ = some (.int .i64 a1_1) := (zP BK35.out 1).trans rfl; have hcz23_2 : w22.cell? ⟨gb35, 2, none⟩ = some (.string a1_2) := (zP BK35.out 2).trans rfl; have hfz23_0 := zO BK35.out 0; have hfz23_1 := zO BK35.out 1; have hfz23_2 := zO BK35.out 2) | (go_at_call 30; (with_reducible refine (impl_GoodValue.calls a1_0 a1_1 a1_2 false _ A5.out).mono ?_); rintro e w24 ⟨rfl, hb⟩; have n0_ := zA (yE (g := gb34) (o := .cells #[.int .i64 a0_0, .int .i64 a0_1, .string a0_2] 39 (0, 0)) (by (with_reducible repeat (first | refine zL ?_ _ | refine zN ?_ | refine zM ?_ _)); exact BK34.out) hb); have n1_ := zA (yE (g := gb35) (o := .cells #[.int .i64 a1_0, .int .i64 a1_1, .string a1_2] 39 (0, 0)) (by (with_reducible repeat (first | refine zL ?_ _ | refine zN ?_ | refine zM ?_ _)); exact BK35.out) hb); have n2_ := zA (zAD (by repeat (first | (with_reducible first | exact HB.out | apply zH | apply zF | apply zG | refine zI ?_ GE34.out | refine zI ?_ GE35.out) | exact HB.out)) hb); clear BK34; clear BK35; clear HB; have BK34 := n0_; have BK35 := n1_; have HB := n2_; clear n0_ n1_ n2_; (try clear hb)))
   go_ret2; exact ⟨by first | rfl | (simp <;> rfl) | (simp [*] <;> rfl), by repeat (first | (with_reducible first | exact HB.out | apply zH | apply zF | apply zG | refine zI ?_ GE34.out | refine zI ?_ GE35.out) | exact HB.out)⟩
 ·replace c4 := Bool.eq_false_iff.mpr c4
  subst c4; have H1 : (some (0, false)) = some (r1, r2) := by rw [if_neg (show ¬ (false = true) by decide)] at H; exact H
  clear H; have H := H1; clear H1; simp only [Option.some.injEq, Prod.mk.injEq] at H; obtain ⟨rfl, rfl⟩ := H; go_enter Tryd.func13, Tryd.ntmps13; go_wp2_with (first | ((with_reducible refine gate_dst (N := 2) rfl ?_); refine box_event ?hg (N := 2) ?hd (cs := #[.int .i64 a0_0, .int .i64 a0_1, .string a0_2]) (t := 39) ?hr ?_; (case hd => rfl); (case hg => rfl); (case hr => first | (go_simp; done) | (go_simp; rfl)); intro gb34 hg w25 hbox hb; have n0_ := zA (zAD (by (with_reducible repeat first | exact HB.out | apply zH | apply zF | apply zG) <;> exact HB.out) hb); have n1_ := zA (hbox); have n2_ := zA ((by rw [hg]; exact (zAE (by (with_reducible repeat first | exact HB.out | apply zH | apply zF | apply zG) <;> exact HB.out)) : w.heap.size ≤ gb34)); have n3_ := zA ((by rw [hg]; exact (zAE (by (with_reducible repeat first | exact HB.out | apply zH | apply zF | apply zG) <;> exact HB.out)) : w.heap.size ≤ gb34)); clear HB; have HB := n0_; have BK34 := n1_; have GW34 := n2_; have GE34 := n3_; clear n0_ n1_ n2_ n3_; clear hb hbox hg) | ((with_reducible refine gate_dst (N := 3) rfl ?_); refine box_event ?hg (N := 3) ?hd (cs := #[.int .i64 a1_0, .int .i64 a1_1, .string a1_2]) (t := 39) ?hr ?_; (case hd => rfl); (case hg => rfl); (case hr => first | (go_simp; done) | (go_simp; rfl)); intro gb35 hg w26 hbox hb; have n0_ := zA (yE (g := gb34) (o := .cells #[.int .i64 a0_0, .int .i64 a0_1, .string a0_2] 39 (0, 0)) (by (with_reducible repeat (first | refine zL ?_ _ | refine zN ?_ | refine zM ?_ _)); exact BK34.out) hb); have n1_ := zA (zAD (by repeat (first | (with_reducible first | exact HB.out | apply zH | apply zF | apply zG | refine zI ?_ GE34.out) | exact HB.out)) hb); have n2_ := zA (hbox); have n3_ := zA ((by rw [hg]; exact (zAE (by repeat (first | (with_reducible first | exact HB.out | apply zH | apply zF | apply zG | refine zI ?_ GE34.out) | exact HB.out))) : w.heap.size ≤ gb35)); have n4_ := zA ((by rw [hg]; exact (zAE (by repeat (first | (with_reducible first | exact HB.out | apply zH | apply zF | apply zG | refine zI ?_ GE34.out) | exact HB.out))) : w.heap.size ≤ gb35)); have n5_ := zA ((by rw [hg]; exact zK (blk_lt (g := gb34) (o := .cells #[.int .i64 a0_0, .int .i64 a0_1, .string a0_2] 39 (0, 0)) (by (with_reducible repeat (first | refine zL ?_ _ | refine zN ?_ | refine zM ?_ _)); exact BK34.out)) : gb34 ≠ gb35)); have n6_ := zA ((by rw [hg]; exact Nat.ne_of_gt (blk_lt (g := gb34) (o := .cells #[.int .i64 a0_0, .int .i64 a0_1, .string a0_2] 39 (0, 0)) (by (with_reducible repeat (first | refine zL ?_ _ | refine zN ?_ | refine zM ?_ _)); exact BK34.out)) : gb35 ≠ gb34)); clear BK34; clear HB; have BK34 := n0_; have HB := n1_; have BK35 := n2_; have GW35 := n3_; have GE35 := n4_; have NB34_35 := n5_; have NB35_34 := n6_; clear n0_ n1_ n2_ n3_ n4_ n5_ n6_; clear hb hbox hg; have hnb27 := NB34_35.out; have hnc27 := NB35_34.out; have hcz28_0 : w26.cell? ⟨gb34, 0, none⟩ = some (.int .i64 a0_0) := (zP BK34.out 0).trans rfl; have hcz28_1 : w26.cell? ⟨gb34, 1, none⟩ = some (.int .i64 a0_1) := (zP BK34.out 1).trans rfl; have hcz28_2 : w26.cell? ⟨gb34, 2, none⟩ = some (.string a0_2) := (zP BK34.out 2).trans rfl; have hfz28_0 := zO BK34.out 0; have hfz28_1 := zO BK34.out 1; have hfz28_2 := zO BK34.out 2) | ((with_reducible refine yB (f := 30) rfl ?_); refine goesL_ (some 7) rfl rfl Tryd.func30 (by kernel_rfl) rfl #[.agg #[.int .i64 a0_0, .int .i64 a0_1, .string a0_2]] rfl (by (try simp only [zAA, zAB, zAC]); first | done | rfl) ?_; (with_reducible refine (impl_GoodValue.calls a0_0 a0_1 a0_2 false _ A3.out).mono ?_); rintro e w29 ⟨rfl, hb⟩; refine ⟨_, rfl, ?_⟩; have n0_ := zA (yE (g := gb34) (o := .cells #[.int .i64 a0_0, .int .i64 a0_1, .string a0_2] 39 (0, 0)) (by (with_reducible repeat (first | refine zL ?_ _ | refine zN ?_ | refine zM ?_ _)); exact BK34.out) hb); have n1_ := zA (yE (g := gb35) (o := .cells #[.int .i64 a1_0, .int .i64 a1_1, .string a1_2] 39 (0, 0)) (by (with_reducible repeat (first | refine zL ?_ _ | refine zN ?_ | refine zM ?_ _)); exact BK35.out) hb); have n2_ := zA (zAD (by repeat (first | (with_reducible first | exact HB.out | apply zH | apply zF | apply zG | refine zI ?_ GE34.out | refine zI ?_ GE35.out) | exact HB.out)) hb); clear BK34; clear BK35; clear HB; have BK34 := n0_; have BK35 := n1_; have HB := n2_; clear n0_ n1_ n2_; (try clear hb))); go_ret2; exact ⟨by first | rfl | (simp <;> rfl) | (simp [*] <;> rfl), by repeat (first | (with_reducible first | exact HB.out | apply zH | apply zF | apply zG | refine zI ?_ GE34.out | refine zI ?_ GE35.out) | exact HB.out)⟩
def spec_l4Bytes.l0 : Nat → List Int → Int → Int → Int → ByteArray → Option (ByteArray)
 | 0, _, _, _, _, _ => none
 | k + 1, x3, x5, x10, x11, x12 => if x5 < (x12.size : Int) then (if 0 ≤ x5 then (if x3.length < 140737488355328 then ((some (x3 ++ [bt x12 x5] : List Int)).bind fun y13 => (if (bt x12 x5) = 0 then (if y13.length < 140737488355328 then (spec_l4Bytes.l0 k (y13 ++ [255]) (wrap64 (x5 + 1)) x10 x11 x12) else (none)) else (spec_l4Bytes.l0 k y13 (wrap64 (x5 + 1)) x10 x11 x12))) else (none)) else (none)) else ((some (([0, 0] : List Int) : List Int)).bind fun y14 => (if x3.length + y14.length < 140737488355328 then (some (strOfNums (x3 ++ y14))) else (none)))
def spec_l4Bytes.f (k : Nat) (a0_0 : Int) (a0_1 : Int) (a0_2 : ByteArray) : Option (ByteArray) := (some (([(a0_0) % 256] : List Int) : List Int)).bind fun y10 => (if a0_0 = 2 then (if y10.length < 140737488355328 then (some (strOfNums (y10 ++ [(a0_1) % 256]))) else (none)) else (if a0_0 = 3 then ((some (([((wrap64 (a0_1 + 1000000000)) / 16777216) % 256, ((wrap64 (a0_1 + 1000000000)) / 65536) % 256, ((wrap64 (a0_1 + 1000000000)) / 256) % 256, (wrap64 (a0_1 + 1000000000)) % 256] : List Int) : List Int)).bind fun y11 => (if y10.length + y11.length < 140737488355328 then (some (strOfNums (y10 ++ y11))) else (none))) else (if a0_0 = 4 then (spec_l4Bytes.l0 k y10 0 a0_0 a0_1 a0_2) else (some (strOfNums y10)))))
theorem spec_l4Bytes.calls (k : Nat) (a0_0 : Int) (a0_1 : Int) (a0_2 : ByteArray) (r : ByteArray) (w : World) (h : spec_l4Bytes.f k a0_0 a0_1 a0_2 = some r) :
  Calls Tryd.prog 48 #[.agg #[.int .i64 a0_0, .int .i64 a0_1, .string a0_2]] w fun e w' => e = .returned (.string r) ∧ Below w.heap.size w w' := by
 have hu39 := Tryd.underlying39; have HB := zA (Below.refl w.heap.size w); have H : ((some (([(a0_0) % 256] : List Int) : List Int)).bind fun y56 => (if a0_0 = 2 then (if y56.length < 140737488355328 then (some (strOfNums (y56 ++ [(a0_1) % 256]))) else (none)) else (if a0_0 = 3 then ((some (([((wrap64 (a0_1 + 1000000000)) / 16777216) % 256, ((wrap64 (a0_1 + 1000000000)) / 65536) % 256, ((wrap64 (a0_1 + 1000000000)) / 256) % 256, (wrap64 (a0_1 + 1000000000)) % 256] : List Int) : List Int)).bind fun y57 => (if y56.length + y57.length < 140737488355328 then (some (strOfNums (y56 ++ y57))) else (none))) else (if a0_0 = 4 then (spec_l4Bytes.l0 k y56 0 a0_0 a0_1 a0_2) else (some (strOfNums y56)))))) = some r := h; clear h; obtain ⟨y56, hy56⟩ : ∃ y_ : List Int, y_ = (([(a0_0) % 256] : List Int)) := ⟨_, rfl⟩; replace H : (if a0_0 = 2 then (if y56.length < 140737488355328 then (some (strOfNums (y56 ++ [(a0_1) % 256]))) else (none)) else (if a0_0 = 3 then ((some (([((wrap64 (a0_1 + 1000000000)) / 16777216) % 256, ((wrap64 (a0_1 + 1000000000)) / 65536) % 256, ((wrap64 (a0_1 + 1000000000)) / 256) % 256, (wrap64 (a0_1 + 1000000000)) % 256] : List Int) : List Int)).bind fun y57 => (if y56.length + y57.length < 140737488355328 then (some (strOfNums (y56 ++ y57))) else (none))) else (if a0_0 = 4 then (spec_l4Bytes.l0 k y56 0 a0_0 a0_1 a0_2) else (some (strOfNums y56))))) = some r := by first | (rw [hy56]; with_reducible exact H) | (have H2_ := (Option.bind_some _ _).symm.trans H; rw [hy56]; with_reducible exact H2_) | (have H2_ := (Option.bind_some _ _).symm.trans H; with_reducible exact H2_) | with_reducible exact H | (rw [hy56]; exact H) | exact H
 have Ny56 := zA hy56; clear hy56
 by_cases c2 : a0_0 = 2
 ·rw [if_pos c2] at H
  have c2b0 : (a0_0 == 2) = true := beq_iff_eq.mpr c2; have c2b1 : (a0_0 != 2) = false := bne_eq_false_iff_eq.mpr c2; clear c2
  by_cases c3 : y56.length < 140737488355328
  ·rw [if_pos c3] at H
   have LMc3 := zA c3; clear c3; obtain ⟨y58, hy58⟩ : ∃ y_ : List Int, y_ = (y56 ++ [(a0_1) % 256]) := ⟨_, rfl⟩; replace H : (some (strOfNums y58)) = some r := by first | (rw [hy58]; with_reducible exact H) | (have H2_ := (Option.bind_some _ _).symm.trans H; rw [hy58]; with_reducible exact H2_) | (have H2_ := (Option.bind_some _ _).symm.trans H; with_reducible exact H2_) | with_reducible exact H | (rw [hy58]; exact H) | exact H
   have Ny58 := zA hy58; clear hy58; obtain rfl := Option.some.inj H; go_enter Tryd.func48, Tryd.ntmps48; go_wp2_with (first | ((with_reducible refine gate_dst (N := 1) rfl ?_); refine box_event ?hg (N := 1) ?hd (cs := #[.int .i64 a0_0, .int .i64 a0_1, .string a0_2]) (t := 39) ?hr ?_; (case hd => rfl); (case hg => rfl); (case hr => first | (go_simp; done) | (go_simp; rfl)); intro gb59 hg w4 hbox hb; have n0_ := zA (zAD (by (with_reducible repeat first | exact HB.out | apply zH | apply zF | apply zG) <;> exact HB.out) hb); have n1_ := zA (hbox); have n2_ := zA ((by rw [hg]; exact (zAE (by (with_reducible repeat first | exact HB.out | apply zH | apply zF | apply zG) <;> exact HB.out)) : w.heap.size ≤ gb59)); have n3_ := zA ((by rw [hg]; exact (zAE (by (with_reducible repeat first | exact HB.out | apply zH | apply zF | apply zG) <;> exact HB.out)) : w.heap.size ≤ gb59)); clear HB; have HB := n0_; have BK59 := n1_; have GW59 := n2_; have GE59 := n3_; clear n0_ n1_ n2_ n3_; clear hb hbox hg; have hcz5_0 : w4.cell? ⟨gb59, 0, none⟩ = some (.int .i64 a0_0) := (zP BK59.out 0).trans rfl; have hcz5_1 : w4.cell? ⟨gb59, 1, none⟩ = some (.int .i64 a0_1) := (zP BK59.out 1).trans rfl; have hcz5_2 : w4.cell? ⟨gb59, 2, none⟩ = some (.string a0_2) := (zP BK59.out 2).trans rfl; have hfz5_0 := zO BK59.out 0; have hfz5_1 := zO BK59.out 1; have hfz5_2 := zO BK59.out 2) | ((with_reducible refine gate_dst (N := 9) rfl ?_); refine Kd.R_lit (Kd.int .u8) _ 5 ?hg (N := 9) ?hd (xs := ([(a0_0) % 256] : List Int)) (inner := [.int .u8 ((a0_0) % 256)]) (ok := fun _ => True) (okp := fun _ => True) ?hr ?hp (fun _ hk => hk) trivial (Below.refl _ _) (Nat.le_refl _) (by simp) ?_; (case hd => rfl); (case hg => rfl); (case hr => first | (go_simp; done) | (go_simp; rfl)); (case hp => exact (Reps.one (show Kd.M (Kd.int .u8) _ _ _ ((a0_0) % 256) [.int .u8 ((a0_0) % 256)] from rfl) (Reps.none _ _))); intro v60 w6 ho7 hb hg_ hnew_; clear hg_ hnew_; (first | rw [← Ny56.out] at ho7 | (simp only [Int.reduceToNat] at ho7; rw [← Ny56.out] at ho7)); have n0_ := zA (Kd.R_lower ho7 (zAE (by repeat (first | (with_reducible first | exact HB.out | apply zH | apply zF | apply zG | refine zI ?_ GE59.out) | exact HB.out)))); have n1_ := zA (yE (g := gb59) (o := .cells #[.int .i64 a0_0, .int .i64 a0_1, .string a0_2] 39 (0, 0)) (by (with_reducible repeat (first | refine zL ?_ _ | refine zN ?_ | refine zM ?_ _)); exact BK59.out) hb); have n2_ := zA (zAD (by repeat (first | (with_reducible first | exact HB.out | apply zH | apply zF | apply zG | refine zI ?_ GE59.out) | exact HB.out)) hb); clear BK59; clear HB; have HO61 := n0_; have BK59 := n1_; have HB := n2_; clear n0_ n1_ n2_; clear hb ho7; have hcz8_0 : w6.cell? ⟨gb59, 0, none⟩ = some (.int .i64 a0_0) := (zP BK59.out 0).trans rfl; have hcz8_1 : w6.cell? ⟨gb59, 1, none⟩ = some (.int .i64 a0_1) := (zP BK59.out 1).trans rfl; have hcz8_2 : w6.cell? ⟨gb59, 2, none⟩ = some (.string a0_2) := (zP BK59.out 2).trans rfl; have hfz8_0 := zO BK59.out 0; have hfz8_1 := zO BK59.out 1; have hfz8_2 := zO BK59.out 2) | ((with_reducible refine gate_builtin (b := .append) (xs := #[.tmp 14, .tmp 18]) rfl ?_); at_builtin; refine Kd.R_append (Kd.int .u8) (w0 := w) w.heap.size rfl (.tmp 14) (.tmp 18) 22 5 (.int .u8 0) 1 rfl Tryd.underlying22 info5 rfl (by decide) (by omega) v60 y56 ((a0_1) % 256) [.int .u8 ((a0_1) % 256)] (fun _ => True) (fun _ => False) rfl rfl ?aP (fun _ hk => hk.elim) ?aF ?aO ?aB ?aS ?aL ?_; (case aP => exact rfl); (case aB => exact (by repeat (first | (with_reducible first | exact HB.out | apply zH | apply zF | apply zG | refine zI ?_ GE59.out) | exact HB.out))); (case aF => exact (fun _ _ => trivial)); (case aO => exact (by (with_reducible repeat first | apply zQ | apply zR | apply zS); exact HO61.out)); (case aS => exact (zAE (by repeat (first | (with_reducible first | exact HB.out | apply zH | apply zF | apply zG | refine zI ?_ GE59.out) | exact HB.out)))); (case aL => have := LMc3.out; omega); intro v62 w9 ho hb hg hat; rw [← Ny58.out] at ho; have n0_ := zA (blk_grown (g := gb59) (o := .cells #[.int .i64 a0_0, .int .i64 a0_1, .string a0_2] 39 (0, 0)) (by (with_reducible repeat (first | refine zL ?_ _ | refine zN ?_ | refine zM ?_ _)); exact BK59.out) hg (Kd.R_ne HO61.out BK59.out (by decide))); have n1_ := zA (hb); have n2_ := zA (ho); clear BK59; clear HB; clear HO61; have BK59 := n0_; have HB := n1_; have HO63 := n2_; clear n0_ n1_ n2_; clear ho hb hg hat; have hcv10 := own_string (P := Tryd.prog) Tryd.underlying22 Tryd.underlying5 Tryd.underlying9 (Kd.own_of_R HO63.out))); go_ret; exact ⟨by first | rfl | (simp <;> rfl) | (simp [*] <;> rfl), by repeat (first | (with_reducible first | exact HB.out | apply zH | apply zF | apply zG | refine zI ?_ GE59.out) | exact HB.out)⟩
  ·rw [if_neg c3] at H
   exact absurd H (by simp)
 ·rw [if_neg c2] at H
  have c2b0 : (a0_0 == 2) = false := beq_eq_false_iff_ne.mpr c2; have c2b1 : (a0_0 != 2) = true := bne_iff_ne.mpr c2
  by_cases c11 : a0_0 = 3
  ·rw [if_pos c11] at H
   have c11b0 : (a0_0 == 3) = true := beq_iff_eq.mpr c11; have c11b1 : (a0_0 != 3) = false := bne_eq_false_iff_eq.mpr c11; clear c11; obtain ⟨y57, hy57⟩ : ∃ y_ : List Int, y_ = (([((wrap64 (a0_1 + 1000000000)) / 16777216) % 256, ((wrap64 (a0_1 + 1000000000)) / 65536) % 256, ((wrap64 (a0_1 + 1000000000)) / 256) % 256, (wrap64 (a0_1 + 1000000000)) % 256] : List Int)) := ⟨_, rfl⟩; replace H : (if y56.length + y57.length < 140737488355328 then (some (strOfNums (y56 ++ y57))) else (none)) = some r := by first | (rw [hy57]; with_reducible exact H) | (have H2_ := (Option.bind_some _ _).symm.trans H; rw [hy57]; with_reducible exact H2_) | (have H2_ := (Option.bind_some _ _).symm.trans H; with_reducible exact H2_) | with_reducible exact H | (rw [hy57]; exact H) | exact H
   have Ny57 := zA hy57; clear hy57
   by_cases c12 : y56.length + y57.length < 140737488355328
   ·rw [if_pos c12] at H
    have LMc12 := zA c12; clear c12; obtain ⟨y65, hy65⟩ : ∃ y_ : List Int, y_ = (y56 ++ y57) := ⟨_, rfl⟩; replace H : (some (strOfNums y65)) = some r := by first | (rw [hy65]; with_reducible exact H) | (have H2_ := (Option.bind_some _ _).symm.trans H; rw [hy65]; with_reducible exact H2_) | (have H2_ := (Option.bind_some _ _).symm.trans H; with_reducible exact H2_) | with_reducible exact H | (rw [hy65]; exact H) | exact H
    have Ny65 := zA hy65; clear hy65; obtain rfl := Option.some.inj H; go_enter Tryd.func48, Tryd.ntmps48; go_wp2_with (first | ((with_reducible refine gate_dst (N := 1) rfl ?_); refine box_event ?hg (N := 1) ?hd (cs := #[.int .i64 a0_0, .int .i64 a0_1, .string a0_2]) (t := 39) ?hr ?_; (case hd => rfl); (case hg => rfl); (case hr => first | (go_simp; done) | (go_simp; rfl)); intro gb59 hg w13 hbox hb; have n0_ := zA (zAD (by (with_reducible repeat first | exact HB.out | apply zH | apply zF | apply zG) <;> exact HB.out) hb); have n1_ := zA (hbox); have n2_ := zA ((by rw [hg]; exact (zAE (by (with_reducible repeat first | exact HB.out | apply zH | apply zF | apply zG) <;> exact HB.out)) : w.heap.size ≤ gb59)); have n3_ := zA ((by rw [hg]; exact (zAE (by (with_reducible repeat first | exact HB.out | apply zH | apply zF | apply zG) <;> exact HB.out)) : w.heap.size ≤ gb59)); clear HB; have HB := n0_; have BK59 := n1_; have GW59 := n2_; have GE59 := n3_; clear n0_ n1_ n2_ n3_; clear hb hbox hg; have hcz14_0 : w13.cell? ⟨gb59, 0, none⟩ = some (.int .i64 a0_0) := (zP BK59.out 0).trans rfl; have hcz14_1 : w13.cell? ⟨gb59, 1, none⟩ = some (.int .i64 a0_1) := (zP BK59.out 1).trans rfl; have hcz14_2 : w13.cell? ⟨gb59, 2, none⟩ = some (.string a0_2) := (zP BK59.out 2).trans rfl; have hfz14_0 := zO BK59.out 0; have hfz14_1 := zO BK59.out 1; have hfz14_2 := zO BK59.out 2) | ((with_reducible refine gate_dst (N := 9) rfl ?_); refine Kd.R_lit (Kd.int .u8) _ 5 ?hg (N := 9) ?hd (xs := ([(a0_0) % 256] : List Int)) (inner := [.int .u8 ((a0_0) % 256)]) (ok := fun _ => True) (okp := fun _ => True) ?hr ?hp (fun _ hk => hk) trivial (Below.refl _ _) (Nat.le_refl _) (by simp) ?_; (case hd => rfl); (case hg => rfl); (case hr => first | (go_simp; done) | (go_simp; rfl)); (case hp => exact (Reps.one (show Kd.M (Kd.int .u8) _ _ _ ((a0_0) % 256) [.int .u8 ((a0_0) % 256)] from rfl) (Reps.none _ _))); intro v60 w15 ho16 hb hg_ hnew_; clear hg_ hnew_; (first | rw [← Ny56.out] at ho16 | (simp only [Int.reduceToNat] at ho16; rw [← Ny56.out] at ho16)); have n0_ := zA (Kd.R_lower ho16 (zAE (by repeat (first | (with_reducible first | exact HB.out | apply zH | apply zF | apply zG | refine zI ?_ GE59.out) | exact HB.out)))); have n1_ := zA (yE (g := gb59) (o := .cells #[.int .i64 a0_0, .int .i64 a0_1, .string a0_2] 39 (0, 0)) (by (with_reducible repeat (first | refine zL ?_ _ | refine zN ?_ | refine zM ?_ _)); exact BK59.out) hb); have n2_ := zA (zAD (by repeat (first | (with_reducible first | exact HB.out | apply zH | apply zF | apply zG | refine zI ?_ GE59.out) | exact HB.out)) hb); clear BK59; clear HB; have HO61 := n0_; have BK59 := n1_; have HB := n2_; clear n0_ n1_ n2_; clear hb ho16; have hcz17_0 : w15.cell? ⟨gb59, 0, none⟩ = some (.int .i64 a0_0) := (zP BK59.out 0).trans rfl; have hcz17_1 : w15.cell? ⟨gb59, 1, none⟩ = some (.int .i64 a0_1) := (zP BK59.out 1).trans rfl; have hcz17_2 : w15.cell? ⟨gb59, 2, none⟩ = some (.string a0_2) := (zP BK59.out 2).trans rfl; have hfz17_0 := zO BK59.out 0; have hfz17_1 := zO BK59.out 1; have hfz17_2 := zO BK59.out 2) | ((with_reducible refine gate_dst (N := 37) rfl ?_); refine Kd.R_lit (Kd.int .u8) _ 5 ?hg (N := 37) ?hd (xs := ([((wrap64 (a0_1 + 1000000000)) / 16777216) % 256, ((wrap64 (a0_1 + 1000000000)) / 65536) % 256, ((wrap64 (a0_1 + 1000000000)) / 256) % 256, (wrap64 (a0_1 + 1000000000)) % 256] : List Int)) (inner := [.int .u8 (((wrap64 (a0_1 + 1000000000)) / 16777216) % 256), .int .u8 (((wrap64 (a0_1 + 1000000000)) / 65536) % 256), .int .u8 (((wrap64 (a0_1 + 1000000000)) / 256) % 256), .int .u8 ((wrap64 (a0_1 + 1000000000)) % 256)]) (ok := fun _ => True) (okp := fun _ => True) ?hr ?hp (fun _ hk => hk) trivial (Below.refl _ _) (Nat.le_refl _) (by simp) ?_; (case hd => rfl); (case hg => rfl); (case hr => first | (go_simp; done) | (go_simp; rfl)); (case hp => exact (Reps.one (show Kd.M (Kd.int .u8) _ _ _ (((wrap64 (a0_1 + 1000000000)) / 16777216) % 256) [.int .u8 (((wrap64 (a0_1 + 1000000000)) / 16777216) % 256)] from rfl) (Reps.one (show Kd.M (Kd.int .u8) _ _ _ (((wrap64 (a0_1 + 1000000000)) / 65536) % 256) [.int .u8 (((wrap64 (a0_1 + 1000000000)) / 65536) % 256)] from rfl) (Reps.one (show Kd.M (Kd.int .u8) _ _ _ (((wrap64 (a0_1 + 1000000000)) / 256) % 256) [.int .u8 (((wrap64 (a0_1 + 1000000000)) / 256) % 256)] from rfl) (Reps.one (show Kd.M (Kd.int .u8) _ _ _ ((wrap64 (a0_1 + 1000000000)) % 256) [.int .u8 ((wrap64 (a0_1 + 1000000000)) % 256)] from rfl) (Reps.none _ _)))))); intro v66 w18 ho19 hb hg_ hnew_; clear hg_ hnew_; (first | rw [← Ny57.out] at ho19 | (simp only [Int.reduceToNat] at ho19; rw [← Ny57.out] at ho19)); have n0_ := zA (yJ (by (with_reducible repeat first | apply zQ | apply zR | apply zS); exact HO61.out) (Kd.R_base ho19) hb); have n1_ := zA (Kd.R_lower (yK ho19 (Kd.R_lt (by (with_reducible repeat first | apply zQ | apply zR | apply zS); exact HO61.out))) (zAE (by repeat (first | (with_reducible first | exact HB.out | apply zH | apply zF | apply zG | refine zI ?_ GE59.out) | exact HB.out)))); have n2_ := zA (yE (g := gb59) (o := .cells #[.int .i64 a0_0, .int .i64 a0_1, .string a0_2] 39 (0, 0)) (by (with_reducible repeat (first | refine zL ?_ _ | refine zN ?_ | refine zM ?_ _)); exact BK59.out) hb); have n3_ := zA (zAD (by repeat (first | (with_reducible first | exact HB.out | apply zH | apply zF | apply zG | refine zI ?_ GE59.out) | exact HB.out)) hb); clear HO61; clear BK59; clear HB; have HO61 := n0_; have HO67 := n1_; have BK59 := n2_; have HB := n3_; clear n0_ n1_ n2_ n3_; clear hb ho19; obtain ⟨Ao21, co21, eo21⟩ := Kd.R_slice HO67.out; subst eo21) | ((with_reducible refine gate_builtin (b := .append) (xs := #[.tmp 25, .tmp 37]) rfl ?_); at_builtin; refine Kd.R_append_rows (Kd.int .u8) (w0 := w) w.heap.size rfl (.tmp 25) (.tmp 37) 22 5 (.int .u8 0) 1 rfl Tryd.underlying22 info5 rfl (by decide) (by omega) v60 y56 y57 _ _ _ (fun k_ => some k_ ≠ (.slice Ao21 y57.length co21 : Value).ownBlock) (fun _ => False) rfl rfl ?aO ?aR (fun _ _ h => h) (fun _ h => h.elim) ?aF ?aB ?aS ?aL ?_; (case aR => repeat (first | exact (yD HO67.out).2.2 | (with_reducible refine zT ?_ _) | (with_reducible refine zU ?_ _) | (with_reducible refine zV ?_))); (case aB => exact (by repeat (first | (with_reducible first | exact HB.out | apply zH | apply zF | apply zG | refine zI ?_ GE59.out) | exact HB.out))); (case aF => exact (fun k_ hk => Kd.fresh' (Kd.R_lt (by (with_reducible repeat first | apply zQ | apply zR | apply zS); exact HO67.out)) k_ hk)); (case aO => exact (by (with_reducible repeat first | apply zQ | apply zR | apply zS); exact yC HO61.out (fun _ hk => hk.2))); (case aS => exact (zAE (by repeat (first | (with_reducible first | exact HB.out | apply zH | apply zF | apply zG | refine zI ?_ GE59.out) | exact HB.out)))); (case aL => have := LMc12.out; omega); intro v68 w20 ho hb hg hat; rw [← Ny65.out] at ho; have n0_ := zA (blk_grown (g := gb59) (o := .cells #[.int .i64 a0_0, .int .i64 a0_1, .string a0_2] 39 (0, 0)) (by (with_reducible repeat (first | refine zL ?_ _ | refine zN ?_ | refine zM ?_ _)); exact BK59.out) hg (Kd.R_ne HO61.out BK59.out (by decide))); have n1_ := zA (Kd.R_after (ok := (fun _ => True)) (by (with_reducible repeat first | apply zQ | apply zR | apply zS); exact HO67.out) hg hat); have n2_ := zA (hb); have n3_ := zA (ho); clear BK59; clear HO67; clear HB; clear HO61; have BK59 := n0_; have HO67 := n1_; have HB := n2_; have HO69 := n3_; clear n0_ n1_ n2_ n3_; clear ho hb hg hat; have hcv22 := own_string (P := Tryd.prog) Tryd.underlying22 Tryd.underlying5 Tryd.underlying9 (Kd.own_of_R HO69.out)))
    go_ret; exact ⟨by first | rfl | (simp <;> rfl) | (simp [*] <;> rfl), by repeat (first | (with_reducible first | exact HB.out | apply zH | apply zF | apply zG | refine zI ?_ GE59.out) | exact HB.out)⟩
   ·rw [if_neg c12] at H
    exact absurd H (by simp)
  ·rw [if_neg c11] at H
   have c11b0 : (a0_0 == 3) = false := beq_eq_false_iff_ne.mpr c11; have c11b1 : (a0_0 != 3) = true := bne_iff_ne.mpr c11
   by_cases c23 : a0_0 = 4
   ·rw [if_pos c23] at H
    have c23b0 : (a0_0 == 4) = true := beq_iff_eq.mpr c23; have c23b1 : (a0_0 != 4) = false := bne_eq_false_iff_eq.mpr c23; clear c23; have H' := zA H; clear H; go_enter Tryd.func48, Tryd.ntmps48; go_wp2_with (first | ((with_reducible refine gate_dst (N := 1) rfl ?_); refine box_event ?hg (N := 1) ?hd (cs := #[.int .i64 a0_0, .int .i64 a0_1, .string a0_2]) (t := 39) ?hr ?_; (case hd => rfl); (case hg => rfl); (case hr => first | (go_simp; done) | (go_simp; rfl)); intro gb59 hg w24 hbox hb; have n0_ := zA (zAD (by (with_reducible repeat first | exact HB.out | apply zH | apply zF | apply zG) <;> exact HB.out) hb); have n1_ := zA (hbox); have n2_ := zA ((by rw [hg]; exact (zAE (by (with_reducible repeat first | exact HB.out | apply zH | apply zF | apply zG) <;> exact HB.out)) : w.heap.size ≤ gb59)); have n3_ := zA ((by rw [hg]; exact (zAE (by (with_reducible repeat first | exact HB.out | apply zH | apply zF | apply zG) <;> exact HB.out)) : w.heap.size ≤ gb59)); clear HB; have HB := n0_; have BK59 := n1_; have GW59 := n2_; have GE59 := n3_; clear n0_ n1_ n2_ n3_; clear hb hbox hg; have hcz25_0 : w24.cell? ⟨gb59, 0, none⟩ = some (.int .i64 a0_0) := (zP BK59.out 0).trans rfl; have hcz25_1 : w24.cell? ⟨gb59, 1, none⟩ = some (.int .i64 a0_1) := (zP BK59.out 1).trans rfl; have hcz25_2 : w24.cell? ⟨gb59, 2, none⟩ = some (.string a0_2) := (zP BK59.out 2).trans rfl; have hfz25_0 := zO BK59.out 0; have hfz25_1 := zO BK59.out 1; have hfz25_2 := zO BK59.out 2) | ((with_reducible refine gate_dst (N := 9) rfl ?_); refine Kd.R_lit (Kd.int .u8) _ 5 ?hg (N := 9) ?hd (xs := ([(a0_0) % 256] : List Int)) (inner := [.int .u8 ((a0_0) % 256)]) (ok := fun _ => True) (okp := fun _ => True) ?hr ?hp (fun _ hk => hk) trivial (Below.refl _ _) (Nat.le_refl _) (by simp) ?_; (case hd => rfl); (case hg => rfl); (case hr => first | (go_simp; done) | (go_simp; rfl)); (case hp => exact (Reps.one (show Kd.M (Kd.int .u8) _ _ _ ((a0_0) % 256) [.int .u8 ((a0_0) % 256)] from rfl) (Reps.none _ _))); intro v60 w26 ho27 hb hg_ hnew_; clear hg_ hnew_; (first | rw [← Ny56.out] at ho27 | (simp only [Int.reduceToNat] at ho27; rw [← Ny56.out] at ho27)); have n0_ := zA (Kd.R_lower ho27 (zAE (by repeat (first | (with_reducible first | exact HB.out | apply zH | apply zF | apply zG | refine zI ?_ GE59.out) | exact HB.out)))); have n1_ := zA (yE (g := gb59) (o := .cells #[.int .i64 a0_0, .int .i64 a0_1, .string a0_2] 39 (0, 0)) (by (with_reducible repeat (first | refine zL ?_ _ | refine zN ?_ | refine zM ?_ _)); exact BK59.out) hb); have n2_ := zA (zAD (by repeat (first | (with_reducible first | exact HB.out | apply zH | apply zF | apply zG | refine zI ?_ GE59.out) | exact HB.out)) hb); clear BK59; clear HB; have HO61 := n0_; have BK59 := n1_; have HB := n2_; clear n0_ n1_ n2_; clear hb ho27; have hcz28_0 : w26.cell? ⟨gb59, 0, none⟩ = some (.int .i64 a0_0) := (zP BK59.out 0).trans rfl; have hcz28_1 : w26.cell? ⟨gb59, 1, none⟩ = some (.int .i64 a0_1) := (zP BK59.out 1).trans rfl; have hcz28_2 : w26.cell? ⟨gb59, 2, none⟩ = some (.string a0_2) := (zP BK59.out 2).trans rfl; have hfz28_0 := zO BK59.out 0; have hfz28_1 := zO BK59.out 1; have hfz28_2 := zO BK59.out 2)); go_loopg [3, 5] k (fun kq v3 v5 w' => ∃ (x3_1 : List Int) (x5_1 : Int), v5 = .int .i64 x5_1 ∧ Aside0 (spec_l4Bytes.l0 kq x3_1 x5_1 a0_0 a0_1 a0_2 = some r) ∧ Aside0 (kq ≤ k) ∧ Aside0 (Kd.R (Kd.int .u8) 5 w' w.heap.size (fun _ => True) v3 x3_1) ∧ Aside0 (w'.heap[gb59]? = some (.cells #[.int .i64 a0_0, .int .i64 a0_1, .string a0_2] 39 (0, 0))) ∧ Aside0 (Below w.heap.size w w'))
    case atStart => exact ⟨(y56), (0), (by first | rfl | (simp; done) | (simp [*]; done) | (simp [bne]; done)), H', ⟨Nat.le_refl _⟩, ⟨by (with_reducible repeat first | apply zQ | apply zR | apply zS); exact HO61.out⟩, ⟨by (with_reducible repeat (first | refine zL ?_ _ | refine zN ?_ | refine zM ?_ _)); exact BK59.out⟩, ⟨by repeat (first | (with_reducible first | exact HB.out | apply zH | apply zF | apply zG | refine zI ?_ GE59.out) | exact HB.out)⟩⟩
    case round =>
     clear H'
     try clear c1
     try clear hcv1
     try clear c2
     try clear c2b0
     try clear c2b1
     try clear p2
     try clear hcv2
     try clear c3
     try clear c4
     try clear p6
     try clear hcv10
     try clear c11
     try clear c11b0
     try clear c11b1
     try clear c12
     try clear hcv22
     try clear c23
     try clear c23b0
     try clear c23b1
     try clear hcz14_0
     try clear hcz14_1
     try clear hcz14_2
     try clear hcz17_0
     try clear hcz17_1
     try clear hcz17_2
     try clear hcz25_0
     try clear hcz25_1
     try clear hcz25_2
     try clear hcz28_0
     try clear hcz28_1
     try clear hcz28_2
     try clear hcz5_0
     try clear hcz5_1
     try clear hcz5_2
     try clear hcz8_0
     try clear hcz8_1
     try clear hcz8_2
     try clear hfz14_0
     try clear hfz14_1
     try clear hfz14_2
     try clear hfz17_0
     try clear hfz17_1
     try clear hfz17_2
     try clear hfz25_0
     try clear hfz25_1
     try clear hfz25_2
     try clear hfz28_0
     try clear hfz28_1
     try clear hfz28_2
     try clear hfz5_0
     try clear hfz5_1
     try clear hfz5_2
     try clear hfz8_0
     try clear hfz8_1
     try clear hfz8_2
     obtain ⟨x3_1, x5_1, rfl, HA, HK1, HO_3, BK59, HB⟩ := hrel
     cases gk with
     | zero => exact absurd HA.out (by simp [spec_l4Bytes.l0])
     | succ k1 =>
      have H := HA.out; clear HA; simp only [spec_l4Bytes.l0] at H
      by_cases c29 : x5_1 < (a0_2.size : Int)
      ·rw [if_pos c29] at H
       have c29b0 : decide (x5_1 < (a0_2.size : Int)) = true := zX c29; clear c29
       by_cases c30 : 0 ≤ x5_1
       ·rw [if_pos c30] at H
        have c30b0 : decide (0 ≤ x5_1) = true := zX c30; clear c30
        by_cases c32 : x3_1.length < 140737488355328
        ·rw [if_pos c32] at H
         have LMc32 := zA c32; clear c32; obtain ⟨y70, hy70⟩ : ∃ y_ : List Int, y_ = (x3_1 ++ [bt a0_2 x5_1]) := ⟨_, rfl⟩; replace H : (if (bt a0_2 x5_1) = 0 then (if y70.length < 140737488355328 then (spec_l4Bytes.l0 k1 (y70 ++ [255]) (wrap64 (x5_1 + 1)) a0_0 a0_1 a0_2) else (none)) else (spec_l4Bytes.l0 k1 y70 (wrap64 (x5_1 + 1)) a0_0 a0_1 a0_2)) = some r := by first | (rw [hy70]; with_reducible exact H) | (have H2_ := (Option.bind_some _ _).symm.trans H; rw [hy70]; with_reducible exact H2_) | (have H2_ := (Option.bind_some _ _).symm.trans H; with_reducible exact H2_) | with_reducible exact H | (rw [hy70]; exact H) | exact H
         have Ny70 := zA hy70; clear hy70
         by_cases c34 : (bt a0_2 x5_1) = 0
         ·rw [if_pos c34] at H
          have c34b0 : ((bt a0_2 x5_1) == 0) = true := beq_iff_eq.mpr c34; have c34b1 : ((bt a0_2 x5_1) != 0) = false := bne_eq_false_iff_eq.mpr c34; clear c34
          by_cases c35 : y70.length < 140737488355328
          ·rw [if_pos c35] at H
           have LMc35 := zA c35; clear c35; obtain ⟨y71, hy71⟩ : ∃ y_ : List Int, y_ = (y70 ++ [255]) := ⟨_, rfl⟩; replace H : (spec_l4Bytes.l0 k1 y71 (wrap64 (x5_1 + 1)) a0_0 a0_1 a0_2) = some r := by first | (rw [hy71]; with_reducible exact H) | (have H2_ := (Option.bind_some _ _).symm.trans H; rw [hy71]; with_reducible exact H2_) | (have H2_ := (Option.bind_some _ _).symm.trans H; with_reducible exact H2_) | with_reducible exact H | (rw [hy71]; exact H) | exact H
           have Ny71 := zA hy71; clear hy71; have H' := zA H; clear H; have hcz36_0 : wr.cell? ⟨gb59, 0, none⟩ = some (.int .i64 a0_0) := (zP BK59.out 0).trans rfl; have hcz36_1 : wr.cell? ⟨gb59, 1, none⟩ = some (.int .i64 a0_1) := (zP BK59.out 1).trans rfl; have hcz36_2 : wr.cell? ⟨gb59, 2, none⟩ = some (.string a0_2) := (zP BK59.out 2).trans rfl; have hfz36_0 := zO BK59.out 0; have hfz36_1 := zO BK59.out 1; have hfz36_2 := zO BK59.out 2; have p31 : 0 ≤ (x5_1 : Int) := zW (by first | (with_reducible assumption) | assumption); have q31 : x5_1 < (a0_2.size : Int) := zW (by first | (with_reducible assumption) | assumption); have hx31 := bt_at a0_2 x5_1; replace p31 := eq_true p31; replace q31 := eq_true q31; go_wp2_with (first | ((with_reducible refine gate_builtin (b := .append) (xs := #[.tmp 48, .tmp 53]) rfl ?_); at_builtin; refine Kd.R_append (Kd.int .u8) (w0 := w) w.heap.size rfl (.tmp 48) (.tmp 53) 22 5 (.int .u8 0) 1 rfl Tryd.underlying22 info5 rfl (by decide) (by omega) u3 x3_1 (bt a0_2 x5_1) [.int .u8 (bt a0_2 x5_1)] (fun _ => True) (fun _ => False) rfl rfl ?aP (fun _ hk => hk.elim) ?aF ?aO ?aB ?aS ?aL ?_; (case aP => exact rfl); (case aB => exact (by repeat (first | (with_reducible first | exact HB.out | apply zH | apply zF | apply zG | refine zI ?_ GE59.out) | exact HB.out))); (case aF => exact (fun _ _ => trivial)); (case aO => exact (by (with_reducible repeat first | apply zQ | apply zR | apply zS); exact HO_3.out)); (case aS => exact (zAE (by repeat (first | (with_reducible first | exact HB.out | apply zH | apply zF | apply zG | refine zI ?_ GE59.out) | exact HB.out)))); (case aL => have := LMc32.out; omega); intro v72 w37 ho hb hg hat; rw [← Ny70.out] at ho; have n0_ := zA (blk_grown (g := gb59) (o := .cells #[.int .i64 a0_0, .int .i64 a0_1, .string a0_2] 39 (0, 0)) (by (with_reducible repeat (first | refine zL ?_ _ | refine zN ?_ | refine zM ?_ _)); exact BK59.out) hg (Kd.R_ne HO_3.out BK59.out (by decide))); have n1_ := zA (hb); have n2_ := zA (ho); clear BK59; clear HB; clear HO_3; have BK59 := n0_; have HB := n1_; have HO73 := n2_; clear n0_ n1_ n2_; clear ho hb hg hat; have hcz38_0 : w37.cell? ⟨gb59, 0, none⟩ = some (.int .i64 a0_0) := (zP BK59.out 0).trans rfl; have hcz38_1 : w37.cell? ⟨gb59, 1, none⟩ = some (.int .i64 a0_1) := (zP BK59.out 1).trans rfl; have hcz38_2 : w37.cell? ⟨gb59, 2, none⟩ = some (.string a0_2) := (zP BK59.out 2).trans rfl; have hfz38_0 := zO BK59.out 0; have hfz38_1 := zO BK59.out 1; have hfz38_2 := zO BK59.out 2; have p33 : 0 ≤ (x5_1 : Int) := zW (by first | (with_reducible assumption) | assumption); have q33 : x5_1 < (a0_2.size : Int) := zW (by first | (with_reducible assumption) | assumption); have hx33 := bt_at a0_2 x5_1; replace p33 := eq_true p33; replace q33 := eq_true q33) | ((with_reducible refine gate_builtin (b := .append) (xs := #[.tmp 60, .tmp 61]) rfl ?_); at_builtin; refine Kd.R_append (Kd.int .u8) (w0 := w) w.heap.size rfl (.tmp 60) (.tmp 61) 22 5 (.int .u8 0) 1 rfl Tryd.underlying22 info5 rfl (by decide) (by omega) v72 y70 255 [.int .u8 255] (fun _ => True) (fun _ => False) rfl rfl ?aP (fun _ hk => hk.elim) ?aF ?aO ?aB ?aS ?aL ?_; (case aP => exact rfl); (case aB => exact (by repeat (first | (with_reducible first | exact HB.out | apply zH | apply zF | apply zG | refine zI ?_ GE59.out) | exact HB.out))); (case aF => exact (fun _ _ => trivial)); (case aO => exact (by (with_reducible repeat first | apply zQ | apply zR | apply zS); exact HO73.out)); (case aS => exact (zAE (by repeat (first | (with_reducible first | exact HB.out | apply zH | apply zF | apply zG | refine zI ?_ GE59.out) | exact HB.out)))); (case aL => have := LMc35.out; omega); intro v74 w39 ho hb hg hat; rw [← Ny71.out] at ho; have n0_ := zA (blk_grown (g := gb59) (o := .cells #[.int .i64 a0_0, .int .i64 a0_1, .string a0_2] 39 (0, 0)) (by (with_reducible repeat (first | refine zL ?_ _ | refine zN ?_ | refine zM ?_ _)); exact BK59.out) hg (Kd.R_ne HO73.out BK59.out (by decide))); have n1_ := zA (hb); have n2_ := zA (ho); clear BK59; clear HB; clear HO73; have BK59 := n0_; have HB := n1_; have HO75 := n2_; clear n0_ n1_ n2_; clear ho hb hg hat)); go_roundg k1
           case measure => have := HK1.out; omega
           case rel => exact ⟨(y71), (wrap64 (x5_1 + 1)), (by first | rfl | (simp; done) | (simp [*]; done) | (simp [bne]; done)), H', ⟨by have := HK1.out; omega⟩, ⟨by (with_reducible repeat first | apply zQ | apply zR | apply zS); exact HO75.out⟩, ⟨by (with_reducible repeat (first | refine zL ?_ _ | refine zN ?_ | refine zM ?_ _)); exact BK59.out⟩, ⟨by repeat (first | (with_reducible first | exact HB.out | apply zH | apply zF | apply zG | refine zI ?_ GE59.out) | exact HB.out)⟩⟩
          ·rw [if_neg c35] at H
           exact absurd H (by simp)
         ·rw [if_neg c34] at H
          have c34b0 : ((bt a0_2 x5_1) == 0) = false := beq_eq_false_iff_ne.mpr c34; have c34b1 : ((bt a0_2 x5_1) != 0) = true := bne_iff_ne.mpr c34; have H' := zA H; clear H; have hcz40_0 : wr.cell? ⟨gb59, 0, none⟩ = some (.int .i64 a0_0) := (zP BK59.out 0).trans rfl; have hcz40_1 : wr.cell? ⟨gb59, 1, none⟩ = some (.int .i64 a0_1) := (zP BK59.out 1).trans rfl; have hcz40_2 : wr.cell? ⟨gb59, 2, none⟩ = some (.string a0_2) := (zP BK59.out 2).trans rfl; have hfz40_0 := zO BK59.out 0; have hfz40_1 := zO BK59.out 1; have hfz40_2 := zO BK59.out 2; have p31 : 0 ≤ (x5_1 : Int) := zW (by first | (with_reducible assumption) | assumption); have q31 : x5_1 < (a0_2.size : Int) := zW (by first | (with_reducible assumption) | assumption); have hx31 := bt_at a0_2 x5_1; replace p31 := eq_true p31; replace q31 := eq_true q31; go_wp2_with (first | ((with_reducible refine gate_builtin (b := .append) (xs := #[.tmp 48, .tmp 53]) rfl ?_); at_builtin; refine Kd.R_append (Kd.int .u8) (w0 := w) w.heap.size rfl (.tmp 48) (.tmp 53) 22 5 (.int .u8 0) 1 rfl Tryd.underlying22 info5 rfl (by decide) (by omega) u3 x3_1 (bt a0_2 x5_1) [.int .u8 (bt a0_2 x5_1)] (fun _ => True) (fun _ => False) rfl rfl ?aP (fun _ hk => hk.elim) ?aF ?aO ?aB ?aS ?aL ?_; (case aP => exact rfl); (case aB => exact (by repeat (first | (with_reducible first | exact HB.out | apply zH | apply zF | apply zG | refine zI ?_ GE59.out) | exact HB.out))); (case aF => exact (fun _ _ => trivial)); (case aO => exact (by (with_reducible repeat first | apply zQ | apply zR | apply zS); exact HO_3.out)); (case aS => exact (zAE (by repeat (first | (with_reducible first | exact HB.out | apply zH | apply zF | apply zG | refine zI ?_ GE59.out) | exact HB.out)))); (case aL => have := LMc32.out; omega); intro v72 w41 ho hb hg hat; rw [← Ny70.out] at ho; have n0_ := zA (blk_grown (g := gb59) (o := .cells #[.int .i64 a0_0, .int .i64 a0_1, .string a0_2] 39 (0, 0)) (by (with_reducible repeat (first | refine zL ?_ _ | refine zN ?_ | refine zM ?_ _)); exact BK59.out) hg (Kd.R_ne HO_3.out BK59.out (by decide))); have n1_ := zA (hb); have n2_ := zA (ho); clear BK59; clear HB; clear HO_3; have BK59 := n0_; have HB := n1_; have HO73 := n2_; clear n0_ n1_ n2_; clear ho hb hg hat; have hcz42_0 : w41.cell? ⟨gb59, 0, none⟩ = some (.int .i64 a0_0) := (zP BK59.out 0).trans rfl; have hcz42_1 : w41.cell? ⟨gb59, 1, none⟩ = some (.int .i64 a0_1) := (zP BK59.out 1).trans rfl; have hcz42_2 : w41.cell? ⟨gb59, 2, none⟩ = some (.string a0_2) := (zP BK59.out 2).trans rfl; have hfz42_0 := zO BK59.out 0; have hfz42_1 := zO BK59.out 1; have hfz42_2 := zO BK59.out 2; have p33 : 0 ≤ (x5_1 : Int) := zW (by first | (with_reducible assumption) | assumption); have q33 : x5_1 < (a0_2.size : Int) := zW (by first | (with_reducible assumption) | assumption); have hx33 := bt_at a0_2 x5_1; replace p33 := eq_true p33; replace q33 := eq_true q33)); go_roundg k1
          case measure => have := HK1.out; omega
          case rel => exact ⟨(y70), (wrap64 (x5_1 + 1)), (by first | rfl | (simp; done) | (simp [*]; done) | (simp [bne]; done)), H', ⟨by have := HK1.out; omega⟩, ⟨by (with_reducible repeat first | apply zQ | apply zR | apply zS); exact HO73.out⟩, ⟨by (with_reducible repeat (first | refine zL ?_ _ | refine zN ?_ | refine zM ?_ _)); exact BK59.out⟩, ⟨by repeat (first | (with_reducible first | exact HB.out | apply zH | apply zF | apply zG | refine zI ?_ GE59.out) | exact HB.out)⟩⟩
        ·rw [if_neg c32] at H
         exact absurd H (by simp)
       ·rw [if_neg c30] at H
        exact absurd H (by simp)
      ·rw [if_neg c29] at H
       have c29b0 : decide (x5_1 < (a0_2.size : Int)) = false := decide_eq_false c29; clear c29; obtain ⟨y76, hy76⟩ : ∃ y_ : List Int, y_ = (([0, 0] : List Int)) := ⟨_, rfl⟩; replace H : (if x3_1.length + y76.length < 140737488355328 then (some (strOfNums (x3_1 ++ y76))) else (none)) = some r := by first | (rw [hy76]; with_reducible exact H) | (have H2_ := (Option.bind_some _ _).symm.trans H; rw [hy76]; with_reducible exact H2_) | (have H2_ := (Option.bind_some _ _).symm.trans H; with_reducible exact H2_) | with_reducible exact H | (rw [hy76]; exact H) | exact H
       have Ny76 := zA hy76; clear hy76
       by_cases c43 : x3_1.length + y76.length < 140737488355328
       ·rw [if_pos c43] at H
        have LMc43 := zA c43; clear c43; obtain ⟨y77, hy77⟩ : ∃ y_ : List Int, y_ = (x3_1 ++ y76) := ⟨_, rfl⟩; replace H : (some (strOfNums y77)) = some r := by first | (rw [hy77]; with_reducible exact H) | (have H2_ := (Option.bind_some _ _).symm.trans H; rw [hy77]; with_reducible exact H2_) | (have H2_ := (Option.bind_some _ _).symm.trans H; with_reducible exact H2_) | with_reducible exact H | (rw [hy77]; exact H) | exact H
        have Ny77 := zA hy77; clear hy77; obtain rfl := Option.some.inj H; have hcz44_0 : wr.cell? ⟨gb59, 0, none⟩ = some (.int .i64 a0_0) := (zP BK59.out 0).trans rfl; have hcz44_1 : wr.cell? ⟨gb59, 1, none⟩ = some (.int .i64 a0_1) := (zP BK59.out 1).trans rfl; have hcz44_2 : wr.cell? ⟨gb59, 2, none⟩ = some (.string a0_2) := (zP BK59.out 2).trans rfl; have hfz44_0 := zO BK59.out 0; have hfz44_1 := zO BK59.out 1; have hfz44_2 := zO BK59.out 2; go_wp2_with (first | ((with_reducible refine gate_dst (N := 64) rfl ?_); refine Kd.R_lit (Kd.int .u8) _ 5 ?hg (N := 64) ?hd (xs := ([0, 0] : List Int)) (inner := [.int .u8 0, .int .u8 0]) (ok := fun _ => True) (okp := fun _ => True) ?hr ?hp (fun _ hk => hk) trivial (Below.refl _ _) (Nat.le_refl _) (by simp) ?_; (case hd => rfl); (case hg => rfl); (case hr => first | (go_simp; done) | (go_simp; rfl)); (case hp => exact (Reps.one (show Kd.M (Kd.int .u8) _ _ _ 0 [.int .u8 0] from rfl) (Reps.one (show Kd.M (Kd.int .u8) _ _ _ 0 [.int .u8 0] from rfl) (Reps.none _ _)))); intro v78 w45 ho46 hb hg_ hnew_; clear hg_ hnew_; (first | rw [← Ny76.out] at ho46 | (simp only [Int.reduceToNat] at ho46; rw [← Ny76.out] at ho46)); have n0_ := zA (yJ (by (with_reducible repeat first | apply zQ | apply zR | apply zS); exact HO_3.out) (Kd.R_base ho46) hb); have n1_ := zA (Kd.R_lower (yK ho46 (Kd.R_lt (by (with_reducible repeat first | apply zQ | apply zR | apply zS); exact HO_3.out))) (zAE (by repeat (first | (with_reducible first | exact HB.out | apply zH | apply zF | apply zG | refine zI ?_ GE59.out) | exact HB.out)))); have n2_ := zA (yE (g := gb59) (o := .cells #[.int .i64 a0_0, .int .i64 a0_1, .string a0_2] 39 (0, 0)) (by (with_reducible repeat (first | refine zL ?_ _ | refine zN ?_ | refine zM ?_ _)); exact BK59.out) hb); have n3_ := zA (zAD (by repeat (first | (with_reducible first | exact HB.out | apply zH | apply zF | apply zG | refine zI ?_ GE59.out) | exact HB.out)) hb); clear HO_3; clear BK59; clear HB; have HO_3 := n0_; have HO79 := n1_; have BK59 := n2_; have HB := n3_; clear n0_ n1_ n2_ n3_; clear hb ho46; obtain ⟨Ao48, co48, eo48⟩ := Kd.R_slice HO79.out; subst eo48) | ((with_reducible refine gate_builtin (b := .append) (xs := #[.tmp 63, .tmp 64]) rfl ?_); at_builtin; refine Kd.R_append_rows (Kd.int .u8) (w0 := w) w.heap.size rfl (.tmp 63) (.tmp 64) 22 5 (.int .u8 0) 1 rfl Tryd.underlying22 info5 rfl (by decide) (by omega) u3 x3_1 y76 _ _ _ (fun k_ => some k_ ≠ (.slice Ao48 y76.length co48 : Value).ownBlock) (fun _ => False) rfl rfl ?aO ?aR (fun _ _ h => h) (fun _ h => h.elim) ?aF ?aB ?aS ?aL ?_; (case aR => repeat (first | exact (yD HO79.out).2.2 | (with_reducible refine zT ?_ _) | (with_reducible refine zU ?_ _) | (with_reducible refine zV ?_))); (case aB => exact (by repeat (first | (with_reducible first | exact HB.out | apply zH | apply zF | apply zG | refine zI ?_ GE59.out) | exact HB.out))); (case aF => exact (fun k_ hk => Kd.fresh' (Kd.R_lt (by (with_reducible repeat first | apply zQ | apply zR | apply zS); exact HO79.out)) k_ hk)); (case aO => exact (by (with_reducible repeat first | apply zQ | apply zR | apply zS); exact yC HO_3.out (fun _ hk => hk.2))); (case aS => exact (zAE (by repeat (first | (with_reducible first | exact HB.out | apply zH | apply zF | apply zG | refine zI ?_ GE59.out) | exact HB.out)))); (case aL => have := LMc43.out; omega); intro v80 w47 ho hb hg hat; rw [← Ny77.out] at ho; have n0_ := zA (blk_grown (g := gb59) (o := .cells #[.int .i64 a0_0, .int .i64 a0_1, .string a0_2] 39 (0, 0)) (by (with_reducible repeat (first | refine zL ?_ _ | refine zN ?_ | refine zM ?_ _)); exact BK59.out) hg (Kd.R_ne HO_3.out BK59.out (by decide))); have n1_ := zA (Kd.R_after (ok := (fun _ => True)) (by (with_reducible repeat first | apply zQ | apply zR | apply zS); exact HO79.out) hg hat); have n2_ := zA (hb); have n3_ := zA (ho); clear BK59; clear HO79; clear HB; clear HO_3; have BK59 := n0_; have HO79 := n1_; have HB := n2_; have HO81 := n3_; clear n0_ n1_ n2_ n3_; clear ho hb hg hat; have hcv49 := own_string (P := Tryd.prog) Tryd.underlying22 Tryd.underlying5 Tryd.underlying9 (Kd.own_of_R HO81.out))); go_ret; exact ⟨by first | rfl | (simp <;> rfl) | (simp [*] <;> rfl), by repeat (first | (with_reducible first | exact HB.out | apply zH | apply zF | apply zG | refine zI ?_ GE59.out) | exact HB.out)⟩
       ·rw [if_neg c43] at H
        exact absurd H (by simp)
   ·rw [if_neg c23] at H
    have c23b0 : (a0_0 == 4) = false := beq_eq_false_iff_ne.mpr c23; have c23b1 : (a0_0 != 4) = true := bne_iff_ne.mpr c23; obtain rfl := Option.some.inj H; go_enter Tryd.func48, Tryd.ntmps48; go_wp2_with (first | ((with_reducible refine gate_dst (N := 1) rfl ?_); refine box_event ?hg (N := 1) ?hd (cs := #[.int .i64 a0_0, .int .i64 a0_1, .string a0_2]) (t := 39) ?hr ?_; (case hd => rfl); (case hg => rfl); (case hr => first | (go_simp; done) | (go_simp; rfl)); intro gb59 hg w50 hbox hb; have n0_ := zA (zAD (by (with_reducible repeat first | exact HB.out | apply zH | apply zF | apply zG) <;> exact HB.out) hb); have n1_ := zA (hbox); have n2_ := zA ((by rw [hg]; exact (zAE (by (with_reducible repeat first | exact HB.out | apply zH | apply zF | apply zG) <;> exact HB.out)) : w.heap.size ≤ gb59)); have n3_ := zA ((by rw [hg]; exact (zAE (by (with_reducible repeat first | exact HB.out | apply zH | apply zF | apply zG) <;> exact HB.out)) : w.heap.size ≤ gb59)); clear HB; have HB := n0_; have BK59 := n1_; have GW59 := n2_; have GE59 := n3_; clear n0_ n1_ n2_ n3_; clear hb hbox hg; have hcz51_0 : w50.cell? ⟨gb59, 0, none⟩ = some (.int .i64 a0_0) := (zP BK59.out 0).trans rfl; have hcz51_1 : w50.cell? ⟨gb59, 1, none⟩ = some (.int .i64 a0_1) := (zP BK59.out 1).trans rfl; have hcz51_2 : w50.cell? ⟨gb59, 2, none⟩ = some (.string a0_2) := (zP BK59.out 2).trans rfl; have hfz51_0 := zO BK59.out 0; have hfz51_1 := zO BK59.out 1; have hfz51_2 := zO BK59.out 2) | ((with_reducible refine gate_dst (N := 9) rfl ?_); refine Kd.R_lit (Kd.int .u8) _ 5 ?hg (N := 9) ?hd (xs := ([(a0_0) % 256] : List Int)) (inner := [.int .u8 ((a0_0) % 256)]) (ok := fun _ => True) (okp := fun _ => True) ?hr ?hp (fun _ hk => hk) trivial (Below.refl _ _) (Nat.le_refl _) (by simp) ?_; (case hd => rfl); (case hg => rfl); (case hr => first | (go_simp; done) | (go_simp; rfl)); (case hp => exact (Reps.one (show Kd.M (Kd.int .u8) _ _ _ ((a0_0) % 256) [.int .u8 ((a0_0) % 256)] from rfl) (Reps.none _ _))); intro v60 w52 ho53 hb hg_ hnew_; clear hg_ hnew_; (first | rw [← Ny56.out] at ho53 | (simp only [Int.reduceToNat] at ho53; rw [← Ny56.out] at ho53)); have n0_ := zA (Kd.R_lower ho53 (zAE (by repeat (first | (with_reducible first | exact HB.out | apply zH | apply zF | apply zG | refine zI ?_ GE59.out) | exact HB.out)))); have n1_ := zA (yE (g := gb59) (o := .cells #[.int .i64 a0_0, .int .i64 a0_1, .string a0_2] 39 (0, 0)) (by (with_reducible repeat (first | refine zL ?_ _ | refine zN ?_ | refine zM ?_ _)); exact BK59.out) hb); have n2_ := zA (zAD (by repeat (first | (with_reducible first | exact HB.out | apply zH | apply zF | apply zG | refine zI ?_ GE59.out) | exact HB.out)) hb); clear BK59; clear HB; have HO61 := n0_; have BK59 := n1_; have HB := n2_; clear n0_ n1_ n2_; clear hb ho53; have hcz54_0 : w52.cell? ⟨gb59, 0, none⟩ = some (.int .i64 a0_0) := (zP BK59.out 0).trans rfl; have hcz54_1 : w52.cell? ⟨gb59, 1, none⟩ = some (.int .i64 a0_1) := (zP BK59.out 1).trans rfl; have hcz54_2 : w52.cell? ⟨gb59, 2, none⟩ = some (.string a0_2) := (zP BK59.out 2).trans rfl; have hfz54_0 := zO BK59.out 0; have hfz54_1 := zO BK59.out 1; have hfz54_2 := zO BK59.out 2; have hcv55 := own_string (P := Tryd.prog) Tryd.underlying22 Tryd.underlying5 Tryd.underlying9 (Kd.own_of_R HO61.out))); go_ret; exact ⟨by first | rfl | (simp <;> rfl) | (simp [*] <;> rfl), by repeat (first | (with_reducible first | exact HB.out | apply zH | apply zF | apply zG | refine zI ?_ GE59.out) | exact HB.out)⟩
def spec_l4RowBytes.l0 : Nat → ByteArray → List (S39) → Int → Int → Option (ByteArray)
 | 0, _, _, _, _ => none
 | k + 1, x3, x6, x7, x8 => if x8 < x7 then (if 0 ≤ x8 then (if x8 < (x6.length : Int) then ((spec_l4Bytes.f k ((rd_T39 x6 x8).f0) ((rd_T39 x6 x8).f1) ((rd_T39 x6 x8).f2)).bind fun t10 => (if x3.size + t10.size ≤ 9223372036854775807 then (spec_l4RowBytes.l0 k (x3 ++ t10) x6 x7 (wrap64 (x8 + 1))) else (none))) else (none)) else (none)) else (some x3)
def spec_l4RowBytes.f (k : Nat) (l0 : List (S39)) : Option (ByteArray) := spec_l4RowBytes.l0 k (⟨#[]⟩ : ByteArray) l0 (l0.length : Int) 0
theorem spec_l4RowBytes.calls (k : Nat) (A0 : Option Addr) (c0 : Nat) (l0 : List (S39)) (r : ByteArray) (w : World) (hr0 : Kd.C k39 w A0 l0.length l0) (hc0 : l0.length ≤ c0) (h : spec_l4RowBytes.f k l0 = some r) :
  Calls Tryd.prog 33 #[.slice A0 l0.length c0] w fun e w' => e = .returned (.string r) ∧ Below w.heap.size w w' := by
 have hu39 := Tryd.underlying39; have HR0 := zA hr0; have HC0 := zA hc0; clear hr0 hc0; have HB := zA (Below.refl w.heap.size w); have H : (spec_l4RowBytes.l0 k (⟨#[]⟩ : ByteArray) l0 (l0.length : Int) 0) = some r := h; clear h; have H' := zA H; clear H; go_enter Tryd.func33, Tryd.ntmps33; go_wp2; go_loopg [3, 8] k (fun kq v3 v8 w' => ∃ (x3_1 : ByteArray) (x8_1 : Int), v3 = .string x3_1 ∧ v8 = .int .i64 x8_1 ∧ Aside0 (spec_l4RowBytes.l0 kq x3_1 l0 (l0.length : Int) x8_1 = some r) ∧ Aside0 (kq ≤ k) ∧ Aside0 (Below w.heap.size w w'))
 case atStart => exact ⟨((⟨#[]⟩ : ByteArray)), (0), (by first | rfl | (simp; done) | (simp [*]; done) | (simp [bne]; done)), (by first | rfl | (simp; done) | (simp [*]; done) | (simp [bne]; done)), H', ⟨Nat.le_refl _⟩, ⟨by (with_reducible repeat first | exact HB.out | apply zH | apply zF | apply zG) <;> exact HB.out⟩⟩
 case round =>
  clear H'; obtain ⟨x3_1, x8_1, rfl, rfl, HA, HK1, HB⟩ := hrel
  cases gk with
  | zero => exact absurd HA.out (by simp [spec_l4RowBytes.l0])
  | succ k1 =>
   have H := HA.out; clear HA; simp only [spec_l4RowBytes.l0] at H
   by_cases c2 : x8_1 < (l0.length : Int)
   ·rw [if_pos c2] at H
    have c2b0 : decide (x8_1 < (l0.length : Int)) = true := zX c2; clear c2
    by_cases c3 : 0 ≤ x8_1
    ·rw [if_pos c3] at H
     have c3b0 : decide (0 ≤ x8_1) = true := zX c3; clear c3
     by_cases c4 : x8_1 < (l0.length : Int)
     ·rw [if_pos c4] at H
      have c4b0 : decide (x8_1 < (l0.length : Int)) = true := zX c4; clear c4; replace H := zAF H; obtain ⟨t10, A50, H⟩ := H; replace H : (if x3_1.size + t10.size ≤ 9223372036854775807 then (spec_l4RowBytes.l0 k1 (x3_1 ++ t10) l0 (l0.length : Int) (wrap64 (x8_1 + 1))) else (none)) = some r := H; have A5 := zA A50; clear A50
      by_cases c6 : x3_1.size + t10.size ≤ 9223372036854775807
      ·rw [if_pos c6] at H
       have c6b0 := eq_true c6; have c6b1 : decide (x3_1.size + t10.size ≤ 9223372036854775807) = true := zX c6
       try have c6b2 : (9223372036854775807 < x3_1.size + t10.size) = False := eq_false (Nat.not_lt.2 c6)
       have H' := zA H; clear H; have p11 : 0 ≤ (x8_1 : Int) := zW (by first | (with_reducible assumption) | assumption); have q11 : x8_1 < (l0.length : Int) := zW (by first | (with_reducible assumption) | assumption); obtain ⟨ad11, e11, hx11_0, hx11_1, hx11_2⟩ := at_T39 HR0.out x8_1 p11 q11
       cases e11
       replace hx11_0 := (HB.out.cell (zB w _ hx11_0)).trans hx11_0; replace hx11_1 := (HB.out.cell (zB w _ hx11_1)).trans hx11_1; replace hx11_2 := (HB.out.cell (zB w _ hx11_2)).trans hx11_2; replace p11 := eq_true p11; replace q11 := eq_true q11; go_wp2_with (first | ((with_reducible refine gate_dst (N := 5) rfl ?_); refine box_event ?hg (N := 5) ?hd (cs := #[.int .i64 0, .int .i64 0, .string (⟨#[]⟩ : ByteArray)]) (t := 39) ?hr ?_; (case hd => rfl); (case hg => rfl); (case hr => first | (go_simp; done) | (go_simp; rfl)); intro gb12 hg w7 hbox hb; have n0_ := zA (zAD (by (with_reducible repeat first | exact HB.out | apply zH | apply zF | apply zG) <;> exact HB.out) hb); have n1_ := zA (hbox); have n2_ := zA ((by rw [hg]; exact (zAE (by (with_reducible repeat first | exact HB.out | apply zH | apply zF | apply zG) <;> exact HB.out)) : w.heap.size ≤ gb12)); have n3_ := zA ((by rw [hg]; exact (zAE (by (with_reducible repeat first | exact HB.out | apply zH | apply zF | apply zG) <;> exact HB.out)) : w.heap.size ≤ gb12)); clear HB; have HB := n0_; have BK12 := n1_; have GW12 := n2_; have GE12 := n3_; clear n0_ n1_ n2_ n3_; clear hb hbox hg; have hcz8_0 : w7.cell? ⟨gb12, 0, none⟩ = some (.int .i64 0) := (zP BK12.out 0).trans rfl; have hcz8_1 : w7.cell? ⟨gb12, 1, none⟩ = some (.int .i64 0) := (zP BK12.out 1).trans rfl; have hcz8_2 : w7.cell? ⟨gb12, 2, none⟩ = some (.string (⟨#[]⟩ : ByteArray)) := (zP BK12.out 2).trans rfl; have hfz8_0 := zO BK12.out 0; have hfz8_1 := zO BK12.out 1; have hfz8_2 := zO BK12.out 2) | ((with_reducible refine yB (f := 48) rfl ?_); refine goesL_ (some 14) rfl rfl Tryd.func48 (by kernel_rfl) rfl #[.agg #[.int .i64 ((rd_T39 l0 x8_1).f0), .int .i64 ((rd_T39 l0 x8_1).f1), .string ((rd_T39 l0 x8_1).f2)]] rfl (by (try simp only [zAA, zAB, zAC]); first | done | rfl) ?_; (with_reducible refine (spec_l4Bytes.calls k1 ((rd_T39 l0 x8_1).f0) ((rd_T39 l0 x8_1).f1) ((rd_T39 l0 x8_1).f2) t10 _ A5.out).mono ?_); rintro e w9 ⟨rfl, hb⟩; refine ⟨_, rfl, ?_⟩; have n0_ := zA (yE (g := gb12) (o := .cells #[.int .i64 ((rd_T39 l0 x8_1).f0), .int .i64 ((rd_T39 l0 x8_1).f1), .string ((rd_T39 l0 x8_1).f2)] 39 (0, 0)) (by (with_reducible repeat (first | refine zL ?_ _ | refine zN ?_ | refine zM ?_ _)); refine blk_put (cs := #[.int .i64 ((rd_T39 l0 x8_1).f0), .int .i64 ((rd_T39 l0 x8_1).f1), .string (⟨#[]⟩ : ByteArray)]) ?_ 2 _ rfl; (with_reducible repeat (first | refine zL ?_ _ | refine zN ?_ | refine zM ?_ _)); refine blk_put (cs := #[.int .i64 ((rd_T39 l0 x8_1).f0), .int .i64 0, .string (⟨#[]⟩ : ByteArray)]) ?_ 1 _ rfl; (with_reducible repeat (first | refine zL ?_ _ | refine zN ?_ | refine zM ?_ _)); refine blk_put (cs := #[.int .i64 0, .int .i64 0, .string (⟨#[]⟩ : ByteArray)]) ?_ 0 _ rfl; (with_reducible repeat (first | refine zL ?_ _ | refine zN ?_ | refine zM ?_ _)); exact BK12.out) hb); have n1_ := zA (zAD (by repeat (first | (with_reducible first | exact HB.out | apply zH | apply zF | apply zG | refine zI ?_ GE12.out) | exact HB.out)) hb); clear BK12; clear HB; have BK12 := n0_; have HB := n1_; clear n0_ n1_; (try clear hb))); go_roundg k1
       case measure => have := HK1.out; omega
       case rel => exact ⟨(x3_1 ++ t10), (wrap64 (x8_1 + 1)), (by first | rfl | (simp; done) | (simp [*]; done) | (simp [bne]; done)), (by first | rfl | (simp; done) | (simp [*]; done) | (simp [bne]; done)), H', ⟨by have := HK1.out; omega⟩, ⟨by repeat (first | (with_reducible first | exact HB.out | apply zH | apply zF | apply zG | refine zI ?_ GE12.out) | exact HB.out)⟩⟩
      ·rw [if_neg c6] at H
       exact absurd H (by simp)
     ·rw [if_neg c4] at H
      exact absurd H (by simp)
    ·rw [if_neg c3] at H
     exact absurd H (by simp)
   ·rw [if_neg c2] at H
    have c2b0 : decide (x8_1 < (l0.length : Int)) = false := decide_eq_false c2; clear c2; obtain rfl := Option.some.inj H; go_wp2; go_ret; exact ⟨by first | rfl | (simp <;> rfl) | (simp [*] <;> rfl), by (with_reducible repeat first | exact HB.out | apply zH | apply zF | apply zG) <;> exact HB.out⟩
def spec_RowBytes.f (k : Nat) (l0 : List (S39)) : Option (ByteArray × Bool) := (spec_l4Row.f k l0).bind fun t10 => (if t10 = true then ((spec_l4RowBytes.f k l0).bind fun t11 => (some (t11, true))) else (some ((⟨#[]⟩ : ByteArray), false)))
theorem spec_RowBytes.calls (k : Nat) (A0 : Option Addr) (c0 : Nat) (l0 : List (S39)) (r1 : ByteArray) (r2 : Bool) (w : World) (hr0 : Kd.C k39 w A0 l0.length l0) (hc0 : l0.length ≤ c0) (h : spec_RowBytes.f k l0 = some (r1, r2)) :
  Calls Tryd.prog 17 #[.slice A0 l0.length c0] w fun e w' => e = .returned (.tuple #[.string r1, .bool r2]) ∧ Below w.heap.size w w' := by
 have HR0 := zA hr0; have HC0 := zA hc0; clear hr0 hc0; have HB := zA (Below.refl w.heap.size w); have H : ((spec_l4Row.f k l0).bind fun t10 => (if t10 = true then ((spec_l4RowBytes.f k l0).bind fun t11 => (some (t11, true))) else (some ((⟨#[]⟩ : ByteArray), false)))) = some (r1, r2) := h; clear h; replace H := zAF H; obtain ⟨t10, A20, H⟩ := H; replace H : (if t10 = true then ((spec_l4RowBytes.f k l0).bind fun t11 => (some (t11, true))) else (some ((⟨#[]⟩ : ByteArray), false))) = some (r1, r2) := H; have A2 := zA A20; clear A20
 by_cases c3 : t10 = true
 ·subst c3
  have H1 : ((spec_l4RowBytes.f k l0).bind fun t11 => (some (t11, true))) = some (r1, r2) := by rw [if_pos rfl] at H; exact H
  clear H; have H := H1; clear H1; replace H := zAF H; obtain ⟨t11, A40, H⟩ := H; replace H : (some (t11, true)) = some (r1, r2) := H; have A4 := zA A40; clear A40; simp only [Option.some.injEq, Prod.mk.injEq] at H; obtain ⟨rfl, rfl⟩ := H; go_enter Tryd.func17, Tryd.ntmps17; go_wp2_with (first | ((with_reducible refine yB (f := 25) rfl ?_); refine goesL_ (some 5) rfl rfl Tryd.func25 (by kernel_rfl) rfl #[.slice A0 l0.length c0] rfl (by (try simp only [zAA, zAB, zAC]); first | done | rfl | (simp only [zZ, zY]; rfl)) ?_; (with_reducible refine (spec_l4Row.calls k _ _ l0 true _ ?side1 ?side2 A2.out).mono ?_); (case side1 => repeat (first | exact HR0.out | (with_reducible refine zT ?_ _) | (with_reducible refine zU ?_ _) | (with_reducible refine zV ?_))); (case side2 => exact HC0.out); rintro e w5 ⟨rfl, hb⟩; refine ⟨_, rfl, ?_⟩; have n0_ := zA (zAD (by (with_reducible repeat first | exact HB.out | apply zH | apply zF | apply zG) <;> exact HB.out) hb); clear HB; have HB := n0_; clear n0_; (try clear hb)) | ((with_reducible refine yB (f := 33) rfl ?_); refine goesL_ (some 8) rfl rfl Tryd.func33 (by kernel_rfl) rfl #[.slice A0 l0.length c0] rfl (by (try simp only [zAA, zAB, zAC]); first | done | rfl | (simp only [zZ, zY]; rfl)) ?_; (with_reducible refine (spec_l4RowBytes.calls k _ _ l0 t11 _ ?side1 ?side2 A4.out).mono ?_); (case side1 => repeat (first | exact (Kd.C_below HR0.out HB.out) | (with_reducible refine zT ?_ _) | (with_reducible refine zU ?_ _) | (with_reducible refine zV ?_))); (case side2 => exact HC0.out); rintro e w6 ⟨rfl, hb⟩; refine ⟨_, rfl, ?_⟩; have n0_ := zA (zAD (by (with_reducible repeat first | exact HB.out | apply zH | apply zF | apply zG) <;> exact HB.out) hb); clear HB; have HB := n0_; clear n0_; (try clear hb))); go_ret2; exact ⟨by first | rfl | (simp <;> rfl) | (simp [*] <;> rfl), by (with_reducible repeat first | exact HB.out | apply zH | apply zF | apply zG) <;> exact HB.out⟩
 ·replace c3 := Bool.eq_false_iff.mpr c3
  subst c3; have H1 : (some ((⟨#[]⟩ : ByteArray), false)) = some (r1, r2) := by rw [if_neg (show ¬ (false = true) by decide)] at H; exact H
  clear H; have H := H1; clear H1; simp only [Option.some.injEq, Prod.mk.injEq] at H; obtain ⟨rfl, rfl⟩ := H; go_enter Tryd.func17, Tryd.ntmps17; go_wp2_with (first | ((with_reducible refine yB (f := 25) rfl ?_); refine goesL_ (some 5) rfl rfl Tryd.func25 (by kernel_rfl) rfl #[.slice A0 l0.length c0] rfl (by (try simp only [zAA, zAB, zAC]); first | done | rfl | (simp only [zZ, zY]; rfl)) ?_; (with_reducible refine (spec_l4Row.calls k _ _ l0 false _ ?side1 ?side2 A2.out).mono ?_); (case side1 => repeat (first | exact HR0.out | (with_reducible refine zT ?_ _) | (with_reducible refine zU ?_ _) | (with_reducible refine zV ?_))); (case side2 => exact HC0.out); rintro e w7 ⟨rfl, hb⟩; refine ⟨_, rfl, ?_⟩; have n0_ := zA (zAD (by (with_reducible repeat first | exact HB.out | apply zH | apply zF | apply zG) <;> exact HB.out) hb); clear HB; have HB := n0_; clear n0_; (try clear hb))); go_ret2; exact ⟨by first | rfl | (simp <;> rfl) | (simp [*] <;> rfl), by (with_reducible repeat first | exact HB.out | apply zH | apply zF | apply zG) <;> exact HB.out⟩
mutual
def spec_l1Cur_spoilt.l0 : Nat → ByteArray → ByteArray → Int → List Int → Int → Int → Option (ByteArray × Int × Int)
 | 0, _, _, _, _, _, _ => none
 | k + 1, x1, x2, x7, x10, x11, x12 => if x7 > 0 then (spec_l1Cur_spoilt.j1 k x1 x2 x7 (decide ((x1.size : Int) > 0)) x10 x11 x12) else (spec_l1Cur_spoilt.j1 k x1 x2 x7 false x10 x11 x12)
def spec_l1Cur_spoilt.j1 : Nat → ByteArray → ByteArray → Int → Bool → List Int → Int → Int → Option (ByteArray × Int × Int)
 | 0, _, _, _, _, _, _, _ => none
 | k + 1, x1, x2, x7, x18, x10, x11, x12 => if x18 = true then ((spec_l1Cur_pick.f x10 x11 x12 (x1.size : Int)).bind fun bt13 => ((spec_l1Cur_pick.f x10 bt13.2.1 bt13.2.2 (x2.size : Int)).bind fun bt14 => (if 0 ≤ bt14.1 then (if bt14.1 < (x2.size : Int) then ((some (([bt x2 bt14.1] : List Int) : List Int)).bind fun y15 => ((spec_l1Cur_pick.f x10 bt14.2.1 bt14.2.2 3).bind fun bt16 => (if bt16.1 = 0 then (if 0 ≤ bt13.1 then (if bt13.1 ≤ (x1.size : Int) then (if (x1.extract 0 (bt13.1 : Int).toNat).size + (strOfNums y15).size ≤ 9223372036854775807 then (if ((x1.extract 0 (bt13.1 : Int).toNat) ++ (strOfNums y15)).size + (x1.extract (bt13.1 : Int).toNat x1.size).size ≤ 9223372036854775807 then (spec_l1Cur_spoilt.l0 k (((x1.extract 0 (bt13.1 : Int).toNat) ++ (strOfNums y15)) ++ (x1.extract (bt13.1 : Int).toNat x1.size)) x2 (wrap64 (x7 - 1)) x10 bt16.2.1 bt16.2.2) else (none)) else (none)) else (none)) else (none)) else (if bt16.1 = 1 then (if 0 ≤ bt13.1 then (if bt13.1 ≤ (x1.size : Int) then (if (x1.extract 0 (bt13.1 : Int).toNat).size + (strOfNums y15).size ≤ 9223372036854775807 then (if 0 ≤ (wrap64 (bt13.1 + 1)) then (if (wrap64 (bt13.1 + 1)) ≤ (x1.size : Int) then (if ((x1.extract 0 (bt13.1 : Int).toNat) ++ (strOfNums y15)).size + (x1.extract ((wrap64 (bt13.1 + 1)) : Int).toNat x1.size).size ≤ 9223372036854775807 then (spec_l1Cur_spoilt.l0 k (((x1.extract 0 (bt13.1 : Int).toNat) ++ (strOfNums y15)) ++ (x1.extract ((wrap64 (bt13.1 + 1)) : Int).toNat x1.size)) x2 (wrap64 (x7 - 1)) x10 bt16.2.1 bt16.2.2) else (none)) else (none)) else (none)) else (none)) else (none)) else (none)) else (if 0 ≤ bt13.1 then (if bt13.1 ≤ (x1.size : Int) then (if 0 ≤ (wrap64 (bt13.1 + 1)) then (if (wrap64 (bt13.1 + 1)) ≤ (x1.size : Int) then (if (x1.extract 0 (bt13.1 : Int).toNat).size + (x1.extract ((wrap64 (bt13.1 + 1)) : Int).toNat x1.size).size ≤ 9223372036854775807 then (spec_l1Cur_spoilt.l0 k ((x1.extract 0 (bt13.1 : Int).toNat) ++ (x1.extract ((wrap64 (bt13.1 + 1)) : Int).toNat x1.size)) x2 (wrap64 (x7 - 1)) x10 bt16.2.1 bt16.2.2) else (none)) else (none)) else (none)) else (none)) else (none)))))) else (none)) else (none)))) else (some (x1, x11, x12))
end
def spec_l1Cur_spoilt.f (k : Nat) (s0_0 : List Int) (s0_1 : Int) (s0_2 : Int) (a1 : ByteArray) (a2 : ByteArray) : Option (ByteArray × Int × Int) := (spec_l1Cur_pick.f s0_0 s0_1 s0_2 3).bind fun bt10 => (spec_l1Cur_spoilt.l0 k a1 a2 bt10.1 s0_0 bt10.2.1 bt10.2.2)
theorem spec_l1Cur_spoilt.calls (k : Nat) (g : Nat) (s0_0 : List Int) (s0_1 : Int) (s0_2 : Int) (a1 : ByteArray) (a2 : ByteArray) (r1 : ByteArray) (r2 : Int) (r3 : Int) (w0 w : World) (hI : I46 w0 w g s0_0 s0_1 s0_2) (hB : Below w0.heap.size w0 w) (h : spec_l1Cur_spoilt.f k s0_0 s0_1 s0_2 a1 a2 = some (r1, r2, r3)) :
  Calls Tryd.prog 47 #[.pointer (some ⟨g, 0, none⟩), .string a1, .string a2] w fun e w' => e = .returned (.string r1) ∧ I46 w0 w' g s0_0 r2 r3 ∧ Below w0.heap.size w0 w' ∧ KeepBut w w' g none := by
 have HI0 := zA hI; have HK := zA (KeepBut.refl w g none); have HL := zA hB.size; clear hI; have HW0 := zA hB.size; have HB := zA hB; clear hB; have H : ((spec_l1Cur_pick.f s0_0 s0_1 s0_2 3).bind fun bt19 => (spec_l1Cur_spoilt.l0 k a1 a2 bt19.1 s0_0 bt19.2.1 bt19.2.2)) = some (r1, r2, r3) := h; clear h; replace H := zAF H; obtain ⟨⟨t19, t20, t54⟩, A40, H⟩ := H; replace H : (spec_l1Cur_spoilt.l0 k a1 a2 t19 s0_0 t20 t54) = some (r1, r2, r3) := H; have A4 := zA A40; clear A40; have H' := zA H; clear H; go_enter Tryd.func47, Tryd.ntmps47; go_wp2_with (first | (go_at_call 34; (with_reducible refine (spec_l1Cur_pick.calls g s0_0 s0_1 s0_2 3 t19 t20 t54 w0 _ ?side1 ?side2 A4.out).mono ?_); (case side1 => repeat (first | (with_reducible first | exact HI0.out | apply I46.a | apply I46.n | apply I46.d | apply I46.s1 | apply I46.s2) | exact HI0.out)); (case side2 => repeat (first | (with_reducible first | exact HB.out | apply zH | apply zF | apply zG | refine zI ?_ (I46.ge HI0.out)) | exact HB.out)); rintro e w5 ⟨rfl, hi, hb, hk⟩; have n0_ := zA (yH (by repeat (first | (with_reducible first | exact HK.out | apply KeepBut.set_ | apply keep_drewN | apply keep_drew | apply keep_alloc) | exact HK.out)) hk (.inl rfl)); have n1_ := zA (hb); have n2_ := zA (hi); clear HK; clear HB; clear HI0; have HK := n0_; have HB := n1_; have HI0 := n2_; clear n0_ n1_ n2_; (try clear hb); (try clear hk); (try clear hi)) | go_quiet (fail))
 go_loopg [1, 7] k (fun kq v1 v7 w' => ∃ (x1_1 : ByteArray) (x7_1 : Int) (x55_1 : Int) (x56_1 : Int), v1 = .string x1_1 ∧ v7 = .int .i64 x7_1 ∧ Aside0 (spec_l1Cur_spoilt.l0 kq x1_1 a2 x7_1 s0_0 x55_1 x56_1 = some (r1, r2, r3)) ∧ Aside0 (kq ≤ k) ∧ Aside0 (I46 w0 w' g s0_0 x55_1 x56_1) ∧ Aside0 (KeepBut w w' g none) ∧ Aside0 (Below w0.heap.size w0 w'))
 case atStart => exact ⟨(a1), (t19), (t20), (t54), (by first | rfl | (simp; done) | (simp [*]; done) | (simp [bne]; done)), (by first | rfl | (simp; done) | (simp [*]; done) | (simp [bne]; done)), H', ⟨Nat.le_refl _⟩, ⟨by repeat (first | (with_reducible first | exact HI0.out | apply I46.a | apply I46.n | apply I46.d | apply I46.s1 | apply I46.s2) | exact HI0.out)⟩, ⟨by repeat (first | (with_reducible first | exact HK.out | apply KeepBut.set_ | apply keep_drewN | apply keep_drew | apply keep_alloc) | exact HK.out)⟩, ⟨by repeat (first | (with_reducible first | exact HB.out | apply zH | apply zF | apply zG | refine zI ?_ (I46.ge HI0.out)) | exact HB.out)⟩⟩
 case round =>
  clear H'
  try clear p2
  try clear c4
  obtain ⟨x1_1, x7_1, x55_1, x56_1, rfl, rfl, HA, HK1, HI0, HK, HB⟩ := hrel
  cases gk with
  | zero => exact absurd HA.out (by simp [spec_l1Cur_spoilt.l0])
  | succ k1 =>
   have H := HA.out; clear HA; simp only [spec_l1Cur_spoilt.l0] at H; have HC6 := zA H; clear H; go_upto_region 2 with (fail)
   repeat (go_quiet (fail); go_upto_region 2 with (fail))
   go_cut [18] (fun v18 wc => ∃ (kq : Nat) (x18_5 : Bool), v18 = .bool x18_5 ∧ Aside0 (spec_l1Cur_spoilt.j1 kq x1_1 a2 x7_1 x18_5 s0_0 x55_1 x56_1 = some (r1, r2, r3)) ∧ Aside0 (kq ≤ k1) ∧ Aside0 (I46 w0 wc g s0_0 x55_1 x56_1) ∧ Aside0 (KeepBut w wc g none) ∧ Aside0 (Below w0.heap.size w0 wc))
   case first =>
    have H := HC6.out; clear HC6
    by_cases c7 : x7_1 > 0
    ·rw [if_pos c7] at H
     have c7b0 : decide (0 < x7_1) = true := zX c7; clear c7; (first | rw [c7b0] | (simp only [i64_w, i32_w]; rw [c7b0]) | skip); have H' := zA H; clear H; go_wp2
     repeat (go_quiet (fail); try go_wp2)
     go_meet
     case rel => exact ⟨_, (decide ((x1_1.size : Int) > 0)), (by first | rfl | (simp; done) | (simp [*]; done) | (simp [bne]; done)), H', ⟨by have := HK1.out; first | omega | exact Nat.le_refl _⟩, ⟨by repeat (first | (with_reducible first | exact HI0.out | apply I46.a | apply I46.n | apply I46.d | apply I46.s1 | apply I46.s2) | exact HI0.out)⟩, ⟨by repeat (first | (with_reducible first | exact HK.out | apply KeepBut.set_ | apply keep_drewN | apply keep_drew | apply keep_alloc) | exact HK.out)⟩, ⟨by repeat (first | (with_reducible first | exact HB.out | apply zH | apply zF | apply zG | refine zI ?_ (I46.ge HI0.out)) | exact HB.out)⟩⟩
    ·rw [if_neg c7] at H
     have c7b0 : decide (0 < x7_1) = false := decide_eq_false c7; clear c7; (first | rw [c7b0] | (simp only [i64_w, i32_w]; rw [c7b0]) | skip); have H' := zA H; clear H; go_wp2
     repeat (go_quiet (fail); try go_wp2)
     go_meet
     case rel => exact ⟨_, (false), (by first | rfl | (simp; done) | (simp [*]; done) | (simp [bne]; done)), H', ⟨by have := HK1.out; first | omega | exact Nat.le_refl _⟩, ⟨by repeat (first | (with_reducible first | exact HI0.out | apply I46.a | apply I46.n | apply I46.d | apply I46.s1 | apply I46.s2) | exact HI0.out)⟩, ⟨by repeat (first | (with_reducible first | exact HK.out | apply KeepBut.set_ | apply keep_drewN | apply keep_drew | apply keep_alloc) | exact HK.out)⟩, ⟨by repeat (first | (with_reducible first | exact HB.out | apply zH | apply zF | apply zG | refine zI ?_ (I46.ge HI0.out)) | exact HB.out)⟩⟩
   case rest =>
    clear HC6
    try clear p2
    try clear c4
    try clear c7
    try clear c7b0
    try clear p2
    obtain ⟨kq, x18_5, rfl, HA, HJ5, HI0, HK, HB⟩ := hcut
    cases kq with
    | zero => exact absurd HA.out (by simp [spec_l1Cur_spoilt.j1])
    | succ kj5 =>
     have H := HA.out; clear HA; simp only [spec_l1Cur_spoilt.j1] at H
     by_cases c8 : x18_5 = true
     ·subst c8
      have H1 : ((spec_l1Cur_pick.f s0_0 x55_1 x56_1 (x1_1.size : Int)).bind fun bt57 => ((spec_l1Cur_pick.f s0_0 bt57.2.1 bt57.2.2 (a2.size : Int)).bind fun bt58 => (if 0 ≤ bt58.1 then (if bt58.1 < (a2.size : Int) then ((some (([bt a2 bt58.1] : List Int) : List Int)).bind fun y59 => ((spec_l1Cur_pick.f s0_0 bt58.2.1 bt58.2.2 3).bind fun bt60 => (if bt60.1 = 0 then (if 0 ≤ bt57.1 then (if bt57.1 ≤ (x1_1.size : Int) then (if (x1_1.extract 0 (bt57.1 : Int).toNat).size + (strOfNums y59).size ≤ 9223372036854775807 then (if ((x1_1.extract 0 (bt57.1 : Int).toNat) ++ (strOfNums y59)).size + (x1_1.extract (bt57.1 : Int).toNat x1_1.size).size ≤ 9223372036854775807 then (spec_l1Cur_spoilt.l0 kj5 (((x1_1.extract 0 (bt57.1 : Int).toNat) ++ (strOfNums y59)) ++ (x1_1.extract (bt57.1 : Int).toNat x1_1.size)) a2 (wrap64 (x7_1 - 1)) s0_0 bt60.2.1 bt60.2.2) else (none)) else (none)) else (none)) else (none)) else (if bt60.1 = 1 then (if 0 ≤ bt57.1 then (if bt57.1 ≤ (x1_1.size : Int) then (if (x1_1.extract 0 (bt57.1 : Int).toNat).size + (strOfNums y59).size ≤ 9223372036854775807 then (if 0 ≤ (wrap64 (bt57.1 + 1)) then (if (wrap64 (bt57.1 + 1)) ≤ (x1_1.size : Int) then (if ((x1_1.extract 0 (bt57.1 : Int).toNat) ++ (strOfNums y59)).size + (x1_1.extract ((wrap64 (bt57.1 + 1)) : Int).toNat x1_1.size).size ≤ 9223372036854775807 then (spec_l1Cur_spoilt.l0 kj5 (((x1_1.extract 0 (bt57.1 : Int).toNat) ++ (strOfNums y59)) ++ (x1_1.extract ((wrap64 (bt57.1 + 1)) : Int).toNat x1_1.size)) a2 (wrap64 (x7_1 - 1)) s0_0 bt60.2.1 bt60.2.2) else (none)) else (none)) else (none)) else (none)) else (none)) else (none)) else (if 0 ≤ bt57.1 then (if bt57.1 ≤ (x1_1.size : Int) then (if 0 ≤ (wrap64 (bt57.1 + 1)) then (if (wrap64 (bt57.1 + 1)) ≤ (x1_1.size : Int) then (if (x1_1.extract 0 (bt57.1 : Int).toNat).size + (x1_1.extract ((wrap64 (bt57.1 + 1)) : Int).toNat x1_1.size).size ≤ 9223372036854775807 then (spec_l1Cur_spoilt.l0 kj5 ((x1_1.extract 0 (bt57.1 : Int).toNat) ++ (x1_1.extract ((wrap64 (bt57.1 + 1)) : Int).toNat x1_1.size)) a2 (wrap64 (x7_1 - 1)) s0_0 bt60.2.1 bt60.2.2) else (none)) else (none)) else (none)) else (none)) else (none)))))) else (none)) else (none)))) = some (r1, r2, r3) := by rw [if_pos rfl] at H; exact H
      clear H; have H := H1; clear H1; replace H := zAF H; obtain ⟨⟨t57, t61, t62⟩, A90, H⟩ := H; replace H : ((spec_l1Cur_pick.f s0_0 t61 t62 (a2.size : Int)).bind fun bt58 => (if 0 ≤ bt58.1 then (if bt58.1 < (a2.size : Int) then ((some (([bt a2 bt58.1] : List Int) : List Int)).bind fun y59 => ((spec_l1Cur_pick.f s0_0 bt58.2.1 bt58.2.2 3).bind fun bt60 => (if bt60.1 = 0 then (if 0 ≤ t57 then (if t57 ≤ (x1_1.size : Int) then (if (x1_1.extract 0 (t57 : Int).toNat).size + (strOfNums y59).size ≤ 9223372036854775807 then (if ((x1_1.extract 0 (t57 : Int).toNat) ++ (strOfNums y59)).size + (x1_1.extract (t57 : Int).toNat x1_1.size).size ≤ 9223372036854775807 then (spec_l1Cur_spoilt.l0 kj5 (((x1_1.extract 0 (t57 : Int).toNat) ++ (strOfNums y59)) ++ (x1_1.extract (t57 : Int).toNat x1_1.size)) a2 (wrap64 (x7_1 - 1)) s0_0 bt60.2.1 bt60.2.2) else (none)) else (none)) else (none)) else (none)) else (if bt60.1 = 1 then (if 0 ≤ t57 then (if t57 ≤ (x1_1.size : Int) then (if (x1_1.extract 0 (t57 : Int).toNat).size + (strOfNums y59).size ≤ 9223372036854775807 then (if 0 ≤ (wrap64 (t57 + 1)) then (if (wrap64 (t57 + 1)) ≤ (x1_1.size : Int) then (if ((x1_1.extract 0 (t57 : Int).toNat) ++ (strOfNums y59)).size + (x1_1.extract ((wrap64 (t57 + 1)) : Int).toNat x1_1.size).size ≤ 9223372036854775807 then (spec_l1Cur_spoilt.l0 kj5 (((x1_1.extract 0 (t57 : Int).toNat) ++ (strOfNums y59)) ++ (x1_1.extract ((wrap64 (t57 + 1)) : Int).toNat x1_1.size)) a2 (wrap64 (x7_1 - 1)) s0_0 bt60.2.1 bt60.2.2) else (none)) else (none)) else (none)) else (none)) else (none)) else (none)) else (if 0 ≤ t57 then (if t57 ≤ (x1_1.size : Int) then (if 0 ≤ (wrap64 (t57 + 1)) then (if (wrap64 (t57 + 1)) ≤ (x1_1.size : Int) then (if (x1_1.extract 0 (t57 : Int).toNat).size + (x1_1.extract ((wrap64 (t57 + 1)) : Int).toNat x1_1.size).size ≤ 9223372036854775807 then (spec_l1Cur_spoilt.l0 kj5 ((x1_1.extract 0 (t57 : Int).toNat) ++ (x1_1.extract ((wrap64 (t57 + 1)) : Int).toNat x1_1.size)) a2 (wrap64 (x7_1 - 1)) s0_0 bt60.2.1 bt60.2.2) else (none)) else (none)) else (none)) else (none)) else (none)))))) else (none)) else (none))) = some (r1, r2, r3) := H; have A9 := zA A90; clear A90; replace H := zAF H; obtain ⟨⟨t58, t63, t65⟩, A66, H⟩ := H; replace H : (if 0 ≤ t58 then (if t58 < (a2.size : Int) then ((some (([bt a2 t58] : List Int) : List Int)).bind fun y59 => ((spec_l1Cur_pick.f s0_0 t63 t65 3).bind fun bt60 => (if bt60.1 = 0 then (if 0 ≤ t57 then (if t57 ≤ (x1_1.size : Int) then (if (x1_1.extract 0 (t57 : Int).toNat).size + (strOfNums y59).size ≤ 9223372036854775807 then (if ((x1_1.extract 0 (t57 : Int).toNat) ++ (strOfNums y59)).size + (x1_1.extract (t57 : Int).toNat x1_1.size).size ≤ 9223372036854775807 then (spec_l1Cur_spoilt.l0 kj5 (((x1_1.extract 0 (t57 : Int).toNat) ++ (strOfNums y59)) ++ (x1_1.extract (t57 : Int).toNat x1_1.size)) a2 (wrap64 (x7_1 - 1)) s0_0 bt60.2.1 bt60.2.2) else (none)) else (none)) else (none)) else (none)) else (if bt60.1 = 1 then (if 0 ≤ t57 then (if t57 ≤ (x1_1.size : Int) then (if (x1_1.extract 0 (t57 : Int).toNat).size + (strOfNums y59).size ≤ 9223372036854775807 then (if 0 ≤ (wrap64 (t57 + 1)) then (if (wrap64 (t57 + 1)) ≤ (x1_1.size : Int) then (if ((x1_1.extract 0 (t57 : Int).toNat) ++ (strOfNums y59)).size + (x1_1.extract ((wrap64 (t57 + 1)) : Int).toNat x1_1.size).size ≤ 9223372036854775807 then (spec_l1Cur_spoilt.l0 kj5 (((x1_1.extract 0 (t57 : Int).toNat) ++ (strOfNums y59)) ++ (x1_1.extract ((wrap64 (t57 + 1)) : Int).toNat x1_1.size)) a2 (wrap64 (x7_1 - 1)) s0_0 bt60.2.1 bt60.2.2) else (none)) else (none)) else (none)) else (none)) else (none)) else (none)) else (if 0 ≤ t57 then (if t57 ≤ (x1_1.size : Int) then (if 0 ≤ (wrap64 (t57 + 1)) then (if (wrap64 (t57 + 1)) ≤ (x1_1.size : Int) then (if (x1_1.extract 0 (t57 : Int).toNat).size + (x1_1.extract ((wrap64 (t57 + 1)) : Int).toNat x1_1.size).size ≤ 9223372036854775807 then (spec_l1Cur_spoilt.l0 kj5 ((x1_1.extract 0 (t57 : Int).toNat) ++ (x1_1.extract ((wrap64 (t57 + 1)) : Int).toNat x1_1.size)) a2 (wrap64 (x7_1 - 1)) s0_0 bt60.2.1 bt60.2.2) else (none)) else (none)) else (none)) else (none)) else (none)))))) else (none)) else (none)) = some (r1, r2, r3) := H; have A10 := zA A66; clear A66
      by_cases c11 : 0 ≤ t58
      ·rw [if_pos c11] at H
       have c11b0 : decide (0 ≤ t58) = true := zX c11; clear c11
       by_cases c12 : t58 < (a2.size : Int)
       ·rw [if_pos c12] at H
        have c12b0 : decide (t58 < (a2.size : Int)) = true := zX c12; clear c12; obtain ⟨y59, hy59⟩ : ∃ y_ : List Int, y_ = (([bt a2 t58] : List Int)) := ⟨_, rfl⟩; replace H : ((spec_l1Cur_pick.f s0_0 t63 t65 3).bind fun bt60 => (if bt60.1 = 0 then (if 0 ≤ t57 then (if t57 ≤ (x1_1.size : Int) then (if (x1_1.extract 0 (t57 : Int).toNat).size + (strOfNums y59).size ≤ 9223372036854775807 then (if ((x1_1.extract 0 (t57 : Int).toNat) ++ (strOfNums y59)).size + (x1_1.extract (t57 : Int).toNat x1_1.size).size ≤ 9223372036854775807 then (spec_l1Cur_spoilt.l0 kj5 (((x1_1.extract 0 (t57 : Int).toNat) ++ (strOfNums y59)) ++ (x1_1.extract (t57 : Int).toNat x1_1.size)) a2 (wrap64 (x7_1 - 1)) s0_0 bt60.2.1 bt60.2.2) else (none)) else (none)) else (none)) else (none)) else (if bt60.1 = 1 then (if 0 ≤ t57 then (if t57 ≤ (x1_1.size : Int) then (if (x1_1.extract 0 (t57 : Int).toNat).size + (strOfNums y59).size ≤ 9223372036854775807 then (if 0 ≤ (wrap64 (t57 + 1)) then (if (wrap64 (t57 + 1)) ≤ (x1_1.size : Int) then (if ((x1_1.extract 0 (t57 : Int).toNat) ++ (strOfNums y59)).size + (x1_1.extract ((wrap64 (t57 + 1)) : Int).toNat x1_1.size).size ≤ 9223372036854775807 then (spec_l1Cur_spoilt.l0 kj5 (((x1_1.extract 0 (t57 : Int).toNat) ++ (strOfNums y59)) ++ (x1_1.extract ((wrap64 (t57 + 1)) : Int).toNat x1_1.size)) a2 (wrap64 (x7_1 - 1)) s0_0 bt60.2.1 bt60.2.2) else (none)) else (none)) else (none)) else (none)) else (none)) else (none)) else (if 0 ≤ t57 then (if t57 ≤ (x1_1.size : Int) then (if 0 ≤ (wrap64 (t57 + 1)) then (if (wrap64 (t57 + 1)) ≤ (x1_1.size : Int) then (if (x1_1.extract 0 (t57 : Int).toNat).size + (x1_1.extract ((wrap64 (t57 + 1)) : Int).toNat x1_1.size).size ≤ 9223372036854775807 then (spec_l1Cur_spoilt.l0 kj5 ((x1_1.extract 0 (t57 : Int).toNat) ++ (x1_1.extract ((wrap64 (t57 + 1)) : Int).toNat x1_1.size)) a2 (wrap64 (x7_1 - 1)) s0_0 bt60.2.1 bt60.2.2) else (none)) else (none)) else (none)) else (none)) else (none))))) = some (r1, r2, r3) := by first | (rw [hy59]; with_reducible exact H) | (have H2_ := (Option.bind_some _ _).symm.trans H; rw [hy59]; with_reducible exact H2_) | (have H2_ := (Option.bind_some _ _).symm.trans H; with_reducible exact H2_) | with_reducible exact H | (rw [hy59]; exact H) | exact H
        have Ny59 := zA hy59; clear hy59; replace H := zAF H; obtain ⟨⟨t60, t67, t68⟩, A69, H⟩ := H; replace H : (if t60 = 0 then (if 0 ≤ t57 then (if t57 ≤ (x1_1.size : Int) then (if (x1_1.extract 0 (t57 : Int).toNat).size + (strOfNums y59).size ≤ 9223372036854775807 then (if ((x1_1.extract 0 (t57 : Int).toNat) ++ (strOfNums y59)).size + (x1_1.extract (t57 : Int).toNat x1_1.size).size ≤ 9223372036854775807 then (spec_l1Cur_spoilt.l0 kj5 (((x1_1.extract 0 (t57 : Int).toNat) ++ (strOfNums y59)) ++ (x1_1.extract (t57 : Int).toNat x1_1.size)) a2 (wrap64 (x7_1 - 1)) s0_0 t67 t68) else (none)) else (none)) else (none)) else (none)) else (if t60 = 1 then (if 0 ≤ t57 then (if t57 ≤ (x1_1.size : Int) then (if (x1_1.extract 0 (t57 : Int).toNat).size + (strOfNums y59).size ≤ 9223372036854775807 then (if 0 ≤ (wrap64 (t57 + 1)) then (if (wrap64 (t57 + 1)) ≤ (x1_1.size : Int) then (if ((x1_1.extract 0 (t57 : Int).toNat) ++ (strOfNums y59)).size + (x1_1.extract ((wrap64 (t57 + 1)) : Int).toNat x1_1.size).size ≤ 9223372036854775807 then (spec_l1Cur_spoilt.l0 kj5 (((x1_1.extract 0 (t57 : Int).toNat) ++ (strOfNums y59)) ++ (x1_1.extract ((wrap64 (t57 + 1)) : Int).toNat x1_1.size)) a2 (wrap64 (x7_1 - 1)) s0_0 t67 t68) else (none)) else (none)) else (none)) else (none)) else (none)) else (none)) else (if 0 ≤ t57 then (if t57 ≤ (x1_1.size : Int) then (if 0 ≤ (wrap64 (t57 + 1)) then (if (wrap64 (t57 + 1)) ≤ (x1_1.size : Int) then (if (x1_1.extract 0 (t57 : Int).toNat).size + (x1_1.extract ((wrap64 (t57 + 1)) : Int).toNat x1_1.size).size ≤ 9223372036854775807 then (spec_l1Cur_spoilt.l0 kj5 ((x1_1.extract 0 (t57 : Int).toNat) ++ (x1_1.extract ((wrap64 (t57 + 1)) : Int).toNat x1_1.size)) a2 (wrap64 (x7_1 - 1)) s0_0 t67 t68) else (none)) else (none)) else (none)) else (none)) else (none)))) = some (r1, r2, r3) := H; have A14 := zA A69; clear A69
        by_cases c15 : t60 = 0
        ·rw [if_pos c15] at H
         have c15b0 : (t60 == 0) = true := beq_iff_eq.mpr c15; have c15b1 : (t60 != 0) = false := bne_eq_false_iff_eq.mpr c15; clear c15
         by_cases c16 : 0 ≤ t57
         ·rw [if_pos c16] at H
          have c16b0 := eq_true c16; have c16b1 : decide (0 ≤ t57) = true := zX c16; clear c16
          by_cases c17 : t57 ≤ (x1_1.size : Int)
          ·rw [if_pos c17] at H
           have c17b0 := eq_true c17; have c17b1 : decide (t57 ≤ (x1_1.size : Int)) = true := zX c17; clear c17
           by_cases c18 : (x1_1.extract 0 (t57 : Int).toNat).size + (strOfNums y59).size ≤ 9223372036854775807
           ·rw [if_pos c18] at H
            have c18b0 := eq_true c18; have c18b1 : decide ((x1_1.extract 0 (t57 : Int).toNat).size + (strOfNums y59).size ≤ 9223372036854775807) = true := zX c18; (try (have c18e0 : (x1_1.extract 0 (t57 : Int).toNat).size = (t57 : Int).toNat := by (have h0_ : 0 ≤ (t57 : Int) := zW (by assumption); have h1_ : (t57 : Int) ≤ (x1_1.size : Int) := zW (by assumption); simp only [ByteArray.size_extract]; omega))); (try (have c18b3 := (show (x1_1.extract 0 (t57 : Int).toNat).size + (strOfNums y59).size ≤ 9223372036854775807 from c18); simp only [ByteArray.size_append, c18e0, ByteArray.size_extract, Nat.min_self, Nat.sub_zero] at c18b3; have c18b4 := eq_true c18b3; have c18b5 : decide (_) = true := zX c18b3; have c18b6 := eq_false (Nat.not_lt.2 c18b3); clear c18b3)); (try clear c18e0)
            try have c18b2 : (9223372036854775807 < (x1_1.extract 0 (t57 : Int).toNat).size + (strOfNums y59).size) = False := eq_false (Nat.not_lt.2 c18)
            have c19b0 := eq_true (zW (by first | (with_reducible assumption) | assumption) : 0 ≤ t57); have c20b0 := eq_true (zW (by first | (with_reducible assumption) | assumption) : t57 ≤ (x1_1.size : Int))
            by_cases c21 : ((x1_1.extract 0 (t57 : Int).toNat) ++ (strOfNums y59)).size + (x1_1.extract (t57 : Int).toNat x1_1.size).size ≤ 9223372036854775807
            ·rw [if_pos c21] at H
             have c21b0 := eq_true c21; have c21b1 : decide (((x1_1.extract 0 (t57 : Int).toNat) ++ (strOfNums y59)).size + (x1_1.extract (t57 : Int).toNat x1_1.size).size ≤ 9223372036854775807) = true := zX c21; (try (have c21e0 : (x1_1.extract 0 (t57 : Int).toNat).size = (t57 : Int).toNat := by (have h0_ : 0 ≤ (t57 : Int) := zW (by assumption); have h1_ : (t57 : Int) ≤ (x1_1.size : Int) := zW (by assumption); simp only [ByteArray.size_extract]; omega))); (try (have c21b3 := (show ((x1_1.extract 0 (t57 : Int).toNat) ++ (strOfNums y59)).size + (x1_1.extract (t57 : Int).toNat x1_1.size).size ≤ 9223372036854775807 from c21); simp only [ByteArray.size_append, c21e0, ByteArray.size_extract, Nat.min_self, Nat.sub_zero] at c21b3; have c21b4 := eq_true c21b3; have c21b5 : decide (_) = true := zX c21b3; have c21b6 := eq_false (Nat.not_lt.2 c21b3); clear c21b3)); (try clear c21e0)
             try have c21b2 : (9223372036854775807 < ((x1_1.extract 0 (t57 : Int).toNat) ++ (strOfNums y59)).size + (x1_1.extract (t57 : Int).toNat x1_1.size).size) = False := eq_false (Nat.not_lt.2 c21)
             have H' := zA H; clear H; go_wp2_with (first | (go_at_call 34; (with_reducible refine (spec_l1Cur_pick.calls g s0_0 x55_1 x56_1 (x1_1.size : Int) t57 t61 t62 w0 _ ?side1 ?side2 A9.out).mono ?_); (case side1 => repeat (first | (with_reducible first | exact HI0.out | apply I46.a | apply I46.n | apply I46.d | apply I46.s1 | apply I46.s2) | exact HI0.out)); (case side2 => repeat (first | (with_reducible first | exact HB.out | apply zH | apply zF | apply zG | refine zI ?_ (I46.ge HI0.out)) | exact HB.out)); rintro e w22 ⟨rfl, hi, hb, hk⟩; have n0_ := zA (yH (by repeat (first | (with_reducible first | exact HK.out | apply KeepBut.set_ | apply keep_drewN | apply keep_drew | apply keep_alloc) | exact HK.out)) hk (.inl rfl)); have n1_ := zA (hb); have n2_ := zA (hi); clear HK; clear HB; clear HI0; have HK := n0_; have HB := n1_; have HI0 := n2_; clear n0_ n1_ n2_; (try clear hb); (try clear hk); (try clear hi)) | (go_at_call 34; (with_reducible refine (spec_l1Cur_pick.calls g s0_0 t61 t62 (a2.size : Int) t58 t63 t65 w0 _ ?side1 ?side2 A10.out).mono ?_); (case side1 => repeat (first | (with_reducible first | exact HI0.out | apply I46.a | apply I46.n | apply I46.d | apply I46.s1 | apply I46.s2) | exact HI0.out)); (case side2 => repeat (first | (with_reducible first | exact HB.out | apply zH | apply zF | apply zG | refine zI ?_ (I46.ge HI0.out)) | exact HB.out)); rintro e w23 ⟨rfl, hi, hb, hk⟩; have n0_ := zA (yH (by repeat (first | (with_reducible first | exact HK.out | apply KeepBut.set_ | apply keep_drewN | apply keep_drew | apply keep_alloc) | exact HK.out)) hk (.inl rfl)); have n1_ := zA (hb); have n2_ := zA (hi); clear HK; clear HB; clear HI0; have HK := n0_; have HB := n1_; have HI0 := n2_; clear n0_ n1_ n2_; (try clear hb); (try clear hk); (try clear hi); have p13 : 0 ≤ (t58 : Int) := zW (by first | (with_reducible assumption) | assumption); have q13 : t58 < (a2.size : Int) := zW (by first | (with_reducible assumption) | assumption); have hx13 := bt_at a2 t58; replace p13 := eq_true p13; replace q13 := eq_true q13) | ((with_reducible refine gate_dst (N := 31) rfl ?_); (try (refine gate_guard (by rfl) ?_; dsimp only)); refine Kd.R_lit (Kd.int .u8) _ 5 ?hg (N := 31) ?hd (xs := ([bt a2 t58] : List Int)) (inner := [.int .u8 (bt a2 t58)]) (ok := fun _ => True) (okp := fun _ => True) ?hr ?hp (fun _ hk => hk) trivial (Below.refl _ _) (Nat.le_refl _) (by simp) ?_; (case hd => rfl); (case hg => rfl); (case hr => first | (go_simp; done) | (go_simp; rfl)); (case hp => exact (Reps.one (show Kd.M (Kd.int .u8) _ _ _ (bt a2 t58) [.int .u8 (bt a2 t58)] from rfl) (Reps.none _ _))); intro v70 w24 ho25 hb hg_ hnew_; clear hg_ hnew_; (first | rw [← Ny59.out] at ho25 | (simp only [Int.reduceToNat] at ho25; rw [← Ny59.out] at ho25)); have n0_ := zA (Kd.R_lower ho25 (keep_size (w := w) (g := g) (row := none) (by repeat (first | (with_reducible first | exact HK.out | apply KeepBut.set_ | apply keep_drewN | apply keep_drew | apply keep_alloc) | exact HK.out)))); have n1_ := zA (I46.below (by repeat (first | (with_reducible first | exact HI0.out | apply I46.a | apply I46.n | apply I46.d | apply I46.s1 | apply I46.s2) | exact HI0.out)) hb); have n2_ := zA (yH (by repeat (first | (with_reducible first | exact HK.out | apply KeepBut.set_ | apply keep_drewN | apply keep_drew | apply keep_alloc) | exact HK.out)) (yI hb g none) (.inl rfl)); have n3_ := zA (zAD (by repeat (first | (with_reducible first | exact HB.out | apply zH | apply zF | apply zG | refine zI ?_ (I46.ge HI0.out)) | exact HB.out)) hb); clear HI0; clear HK; clear HB; have HO71 := n0_; have HI0 := n1_; have HK := n2_; have HB := n3_; clear n0_ n1_ n2_ n3_; clear hb ho25; have hcv26 := own_string (P := Tryd.prog) Tryd.underlying22 Tryd.underlying5 Tryd.underlying9 (Kd.own_of_R HO71.out)) | (go_at_call 34; (with_reducible refine (spec_l1Cur_pick.calls g s0_0 t63 t65 3 t60 t67 t68 w0 _ ?side1 ?side2 A14.out).mono ?_); (case side1 => repeat (first | (with_reducible first | exact HI0.out | apply I46.a | apply I46.n | apply I46.d | apply I46.s1 | apply I46.s2) | exact HI0.out)); (case side2 => repeat (first | (with_reducible first | exact HB.out | apply zH | apply zF | apply zG | refine zI ?_ (I46.ge HI0.out)) | exact HB.out)); rintro e w27 ⟨rfl, hi, hb, hk⟩; have n0_ := zA (yC (yG (I46.apart (show I46 w0 _ g s0_0 t63 t65 from by repeat (first | (with_reducible first | exact HI0.out | apply I46.a | apply I46.n | apply I46.d | apply I46.s1 | apply I46.s2) | exact HI0.out)) (by (with_reducible repeat first | apply zQ | apply zR | apply zS); exact HO71.out) (by decide)) hk (fun _ h => h.2)) (fun _ h => h.1)); have n1_ := zA (yH (by repeat (first | (with_reducible first | exact HK.out | apply KeepBut.set_ | apply keep_drewN | apply keep_drew | apply keep_alloc) | exact HK.out)) hk (.inl rfl)); have n2_ := zA (hb); have n3_ := zA (hi); clear HO71; clear HK; clear HB; clear HI0; have HO71 := n0_; have HK := n1_; have HB := n2_; have HI0 := n3_; clear n0_ n1_ n2_ n3_; (try clear hb); (try clear hk); (try clear hi)) | go_quiet (fail))
             go_roundg kj5
             case measure => have := HK1.out; have := HJ5.out; omega
             case rel => exact ⟨(((x1_1.extract 0 (t57 : Int).toNat) ++ (strOfNums y59)) ++ (x1_1.extract (t57 : Int).toNat x1_1.size)), (wrap64 (x7_1 - 1)), (t67), (t68), (by first | rfl | (simp; done) | (simp [*]; done) | (simp [bne]; done)), (by first | rfl | (simp; done) | (simp [*]; done) | (simp [bne]; done)), H', ⟨by have := HK1.out; have := HJ5.out; omega⟩, ⟨by repeat (first | (with_reducible first | exact HI0.out | apply I46.a | apply I46.n | apply I46.d | apply I46.s1 | apply I46.s2) | exact HI0.out)⟩, ⟨by repeat (first | (with_reducible first | exact HK.out | apply KeepBut.set_ | apply keep_drewN | apply keep_drew | apply keep_alloc) | exact HK.out)⟩, ⟨by repeat (first | (with_reducible first | exact HB.out | apply zH | apply zF | apply zG | refine zI ?_ (I46.ge HI0.out)) | exact HB.out)⟩⟩
            ·rw [if_neg c21] at H
             exact absurd H (by simp)
           ·rw [if_neg c18] at H
            exact absurd H (by simp)
          ·rw [if_neg c17] at H
           exact absurd H (by simp)
         ·rw [if_neg c16] at H
          exact absurd H (by simp)
        ·rw [if_neg c15] at H
         have c15b0 : (t60 == 0) = false := beq_eq_false_iff_ne.mpr c15; have c15b1 : (t60 != 0) = true := bne_iff_ne.mpr c15
         by_cases c28 : t60 = 1
         ·rw [if_pos c28] at H
          have c28b0 : (t60 == 1) = true := beq_iff_eq.mpr c28; have c28b1 : (t60 != 1) = false := bne_eq_false_iff_eq.mpr c28; clear c28
          by_cases c29 : 0 ≤ t57
          ·rw [if_pos c29] at H
           have c29b0 := eq_true c29; have c29b1 : decide (0 ≤ t57) = true := zX c29; clear c29
           by_cases c30 : t57 ≤ (x1_1.size : Int)
           ·rw [if_pos c30] at H
            have c30b0 := eq_true c30; have c30b1 : decide (t57 ≤ (x1_1.size : Int)) = true := zX c30; clear c30
            by_cases c31 : (x1_1.extract 0 (t57 : Int).toNat).size + (strOfNums y59).size ≤ 9223372036854775807
            ·rw [if_pos c31] at H
             have c31b0 := eq_true c31; have c31b1 : decide ((x1_1.extract 0 (t57 : Int).toNat).size + (strOfNums y59).size ≤ 9223372036854775807) = true := zX c31; (try (have c31e0 : (x1_1.extract 0 (t57 : Int).toNat).size = (t57 : Int).toNat := by (have h0_ : 0 ≤ (t57 : Int) := zW (by assumption); have h1_ : (t57 : Int) ≤ (x1_1.size : Int) := zW (by assumption); simp only [ByteArray.size_extract]; omega))); (try (have c31b3 := (show (x1_1.extract 0 (t57 : Int).toNat).size + (strOfNums y59).size ≤ 9223372036854775807 from c31); simp only [ByteArray.size_append, c31e0, ByteArray.size_extract, Nat.min_self, Nat.sub_zero] at c31b3; have c31b4 := eq_true c31b3; have c31b5 : decide (_) = true := zX c31b3; have c31b6 := eq_false (Nat.not_lt.2 c31b3); clear c31b3)); (try clear c31e0)
             try have c31b2 : (9223372036854775807 < (x1_1.extract 0 (t57 : Int).toNat).size + (strOfNums y59).size) = False := eq_false (Nat.not_lt.2 c31)
             obtain ⟨ji32, hji32⟩ : ∃ j_ : Int, (wrap64 (t57 + 1)) = j_ := ⟨_, rfl⟩; replace H : (if 0 ≤ (ji32) then (if (ji32) ≤ (x1_1.size : Int) then (if ((x1_1.extract 0 (t57 : Int).toNat) ++ (strOfNums y59)).size + (x1_1.extract ((ji32) : Int).toNat x1_1.size).size ≤ 9223372036854775807 then (spec_l1Cur_spoilt.l0 kj5 (((x1_1.extract 0 (t57 : Int).toNat) ++ (strOfNums y59)) ++ (x1_1.extract ((ji32) : Int).toNat x1_1.size)) a2 (wrap64 (x7_1 - 1)) s0_0 t67 t68) else (none)) else (none)) else (none)) = some (r1, r2, r3) := by first | (rw [hji32] at H; exact H) | (simp only [hji32] at H ⊢; exact H)
             (try rw [hji32] at A9); (try rw [hji32] at A10); (try rw [hji32] at A14); have hji32w : (IntKind.i64.wrap (t57 + 1)) = ji32 := (i64_w _).trans hji32
             by_cases c33 : 0 ≤ (ji32)
             ·rw [if_pos c33] at H
              have c33b0 := eq_true c33; have c33b1 : decide (0 ≤ (ji32)) = true := zX c33; clear c33
              by_cases c34 : (ji32) ≤ (x1_1.size : Int)
              ·rw [if_pos c34] at H
               have c34b0 := eq_true c34; have c34b1 : decide ((ji32) ≤ (x1_1.size : Int)) = true := zX c34; clear c34
               by_cases c35 : ((x1_1.extract 0 (t57 : Int).toNat) ++ (strOfNums y59)).size + (x1_1.extract ((ji32) : Int).toNat x1_1.size).size ≤ 9223372036854775807
               ·rw [if_pos c35] at H
                have c35b0 := eq_true c35; have c35b1 : decide (((x1_1.extract 0 (t57 : Int).toNat) ++ (strOfNums y59)).size + (x1_1.extract ((ji32) : Int).toNat x1_1.size).size ≤ 9223372036854775807) = true := zX c35; (try (have c35e0 : (x1_1.extract 0 (t57 : Int).toNat).size = (t57 : Int).toNat := by (have h0_ : 0 ≤ (t57 : Int) := zW (by assumption); have h1_ : (t57 : Int) ≤ (x1_1.size : Int) := zW (by assumption); simp only [ByteArray.size_extract]; omega))); (try (have c35b3 := (show ((x1_1.extract 0 (t57 : Int).toNat) ++ (strOfNums y59)).size + (x1_1.extract ((ji32) : Int).toNat x1_1.size).size ≤ 9223372036854775807 from c35); simp only [ByteArray.size_append, c35e0, ByteArray.size_extract, Nat.min_self, Nat.sub_zero] at c35b3; have c35b4 := eq_true c35b3; have c35b5 : decide (_) = true := zX c35b3; have c35b6 := eq_false (Nat.not_lt.2 c35b3); clear c35b3)); (try clear c35e0)
                try have c35b2 : (9223372036854775807 < ((x1_1.extract 0 (t57 : Int).toNat) ++ (strOfNums y59)).size + (x1_1.extract ((ji32) : Int).toNat x1_1.size).size) = False := eq_false (Nat.not_lt.2 c35)
                have H' := zA H; clear H; go_wp2_with (first | (go_at_call 34; (with_reducible refine (spec_l1Cur_pick.calls g s0_0 x55_1 x56_1 (x1_1.size : Int) t57 t61 t62 w0 _ ?side1 ?side2 A9.out).mono ?_); (case side1 => repeat (first | (with_reducible first | exact HI0.out | apply I46.a | apply I46.n | apply I46.d | apply I46.s1 | apply I46.s2) | exact HI0.out)); (case side2 => repeat (first | (with_reducible first | exact HB.out | apply zH | apply zF | apply zG | refine zI ?_ (I46.ge HI0.out)) | exact HB.out)); rintro e w36 ⟨rfl, hi, hb, hk⟩; have n0_ := zA (yH (by repeat (first | (with_reducible first | exact HK.out | apply KeepBut.set_ | apply keep_drewN | apply keep_drew | apply keep_alloc) | exact HK.out)) hk (.inl rfl)); have n1_ := zA (hb); have n2_ := zA (hi); clear HK; clear HB; clear HI0; have HK := n0_; have HB := n1_; have HI0 := n2_; clear n0_ n1_ n2_; (try clear hb); (try clear hk); (try clear hi)) | (go_at_call 34; (with_reducible refine (spec_l1Cur_pick.calls g s0_0 t61 t62 (a2.size : Int) t58 t63 t65 w0 _ ?side1 ?side2 A10.out).mono ?_); (case side1 => repeat (first | (with_reducible first | exact HI0.out | apply I46.a | apply I46.n | apply I46.d | apply I46.s1 | apply I46.s2) | exact HI0.out)); (case side2 => repeat (first | (with_reducible first | exact HB.out | apply zH | apply zF | apply zG | refine zI ?_ (I46.ge HI0.out)) | exact HB.out)); rintro e w37 ⟨rfl, hi, hb, hk⟩; have n0_ := zA (yH (by repeat (first | (with_reducible first | exact HK.out | apply KeepBut.set_ | apply keep_drewN | apply keep_drew | apply keep_alloc) | exact HK.out)) hk (.inl rfl)); have n1_ := zA (hb); have n2_ := zA (hi); clear HK; clear HB; clear HI0; have HK := n0_; have HB := n1_; have HI0 := n2_; clear n0_ n1_ n2_; (try clear hb); (try clear hk); (try clear hi); have p13 : 0 ≤ (t58 : Int) := zW (by first | (with_reducible assumption) | assumption); have q13 : t58 < (a2.size : Int) := zW (by first | (with_reducible assumption) | assumption); have hx13 := bt_at a2 t58; replace p13 := eq_true p13; replace q13 := eq_true q13) | ((with_reducible refine gate_dst (N := 31) rfl ?_); (try (refine gate_guard (by rfl) ?_; dsimp only)); refine Kd.R_lit (Kd.int .u8) _ 5 ?hg (N := 31) ?hd (xs := ([bt a2 t58] : List Int)) (inner := [.int .u8 (bt a2 t58)]) (ok := fun _ => True) (okp := fun _ => True) ?hr ?hp (fun _ hk => hk) trivial (Below.refl _ _) (Nat.le_refl _) (by simp) ?_; (case hd => rfl); (case hg => rfl); (case hr => first | (go_simp; done) | (go_simp; rfl)); (case hp => exact (Reps.one (show Kd.M (Kd.int .u8) _ _ _ (bt a2 t58) [.int .u8 (bt a2 t58)] from rfl) (Reps.none _ _))); intro v70 w38 ho39 hb hg_ hnew_; clear hg_ hnew_; (first | rw [← Ny59.out] at ho39 | (simp only [Int.reduceToNat] at ho39; rw [← Ny59.out] at ho39)); have n0_ := zA (Kd.R_lower ho39 (keep_size (w := w) (g := g) (row := none) (by repeat (first | (with_reducible first | exact HK.out | apply KeepBut.set_ | apply keep_drewN | apply keep_drew | apply keep_alloc) | exact HK.out)))); have n1_ := zA (I46.below (by repeat (first | (with_reducible first | exact HI0.out | apply I46.a | apply I46.n | apply I46.d | apply I46.s1 | apply I46.s2) | exact HI0.out)) hb); have n2_ := zA (yH (by repeat (first | (with_reducible first | exact HK.out | apply KeepBut.set_ | apply keep_drewN | apply keep_drew | apply keep_alloc) | exact HK.out)) (yI hb g none) (.inl rfl)); have n3_ := zA (zAD (by repeat (first | (with_reducible first | exact HB.out | apply zH | apply zF | apply zG | refine zI ?_ (I46.ge HI0.out)) | exact HB.out)) hb); clear HI0; clear HK; clear HB; have HO71 := n0_; have HI0 := n1_; have HK := n2_; have HB := n3_; clear n0_ n1_ n2_ n3_; clear hb ho39; have hcv40 := own_string (P := Tryd.prog) Tryd.underlying22 Tryd.underlying5 Tryd.underlying9 (Kd.own_of_R HO71.out)) | (go_at_call 34; (with_reducible refine (spec_l1Cur_pick.calls g s0_0 t63 t65 3 t60 t67 t68 w0 _ ?side1 ?side2 A14.out).mono ?_); (case side1 => repeat (first | (with_reducible first | exact HI0.out | apply I46.a | apply I46.n | apply I46.d | apply I46.s1 | apply I46.s2) | exact HI0.out)); (case side2 => repeat (first | (with_reducible first | exact HB.out | apply zH | apply zF | apply zG | refine zI ?_ (I46.ge HI0.out)) | exact HB.out)); rintro e w41 ⟨rfl, hi, hb, hk⟩; have n0_ := zA (yC (yG (I46.apart (show I46 w0 _ g s0_0 t63 t65 from by repeat (first | (with_reducible first | exact HI0.out | apply I46.a | apply I46.n | apply I46.d | apply I46.s1 | apply I46.s2) | exact HI0.out)) (by (with_reducible repeat first | apply zQ | apply zR | apply zS); exact HO71.out) (by decide)) hk (fun _ h => h.2)) (fun _ h => h.1)); have n1_ := zA (yH (by repeat (first | (with_reducible first | exact HK.out | apply KeepBut.set_ | apply keep_drewN | apply keep_drew | apply keep_alloc) | exact HK.out)) hk (.inl rfl)); have n2_ := zA (hb); have n3_ := zA (hi); clear HO71; clear HK; clear HB; clear HI0; have HO71 := n0_; have HK := n1_; have HB := n2_; have HI0 := n3_; clear n0_ n1_ n2_ n3_; (try clear hb); (try clear hk); (try clear hi)) | go_quiet (fail))
                go_roundg kj5
                case measure => have := HK1.out; have := HJ5.out; omega
                case rel => exact ⟨(((x1_1.extract 0 (t57 : Int).toNat) ++ (strOfNums y59)) ++ (x1_1.extract ((ji32) : Int).toNat x1_1.size)), (wrap64 (x7_1 - 1)), (t67), (t68), (by first | rfl | (simp; done) | (simp only [← hji32] <;> (first | rfl | simp)) | (simp [*]; done)), (by first | rfl | (simp; done) | (simp [*]; done) | (simp [bne]; done)), ⟨by first | exact H'.out | (rw [hji32]; exact H'.out) | (simp only [hji32]; exact H'.out)⟩, ⟨by have := HK1.out; have := HJ5.out; omega⟩, ⟨by repeat (first | (with_reducible first | exact HI0.out | apply I46.a | apply I46.n | apply I46.d | apply I46.s1 | apply I46.s2) | exact HI0.out)⟩, ⟨by repeat (first | (with_reducible first | exact HK.out | apply KeepBut.set_ | apply keep_drewN | apply keep_drew | apply keep_alloc) | exact HK.out)⟩, ⟨by repeat (first | (with_reducible first | exact HB.out | apply zH | apply zF | apply zG | refine zI ?_ (I46.ge HI0.out)) | exact HB.out)⟩⟩
               ·rw [if_neg c35] at H
                exact absurd H (by simp)
              ·rw [if_neg c34] at H
               exact absurd H (by simp)
             ·rw [if_neg c33] at H
              exact absurd H (by simp)
            ·rw [if_neg c31] at H
             exact absurd H (by simp)
           ·rw [if_neg c30] at H
            exact absurd H (by simp)
          ·rw [if_neg c29] at H
           exact absurd H (by simp)
         ·rw [if_neg c28] at H
          have c28b0 : (t60 == 1) = false := beq_eq_false_iff_ne.mpr c28; have c28b1 : (t60 != 1) = true := bne_iff_ne.mpr c28
          by_cases c42 : 0 ≤ t57
          ·rw [if_pos c42] at H
           have c42b0 := eq_true c42; have c42b1 : decide (0 ≤ t57) = true := zX c42; clear c42
           by_cases c43 : t57 ≤ (x1_1.size : Int)
           ·rw [if_pos c43] at H
            have c43b0 := eq_true c43; have c43b1 : decide (t57 ≤ (x1_1.size : Int)) = true := zX c43; clear c43; obtain ⟨ji44, hji44⟩ : ∃ j_ : Int, (wrap64 (t57 + 1)) = j_ := ⟨_, rfl⟩; replace H : (if 0 ≤ (ji44) then (if (ji44) ≤ (x1_1.size : Int) then (if (x1_1.extract 0 (t57 : Int).toNat).size + (x1_1.extract ((ji44) : Int).toNat x1_1.size).size ≤ 9223372036854775807 then (spec_l1Cur_spoilt.l0 kj5 ((x1_1.extract 0 (t57 : Int).toNat) ++ (x1_1.extract ((ji44) : Int).toNat x1_1.size)) a2 (wrap64 (x7_1 - 1)) s0_0 t67 t68) else (none)) else (none)) else (none)) = some (r1, r2, r3) := by first | (rw [hji44] at H; exact H) | (simp only [hji44] at H ⊢; exact H)
            (try rw [hji44] at A9); (try rw [hji44] at A10); (try rw [hji44] at A14); have hji44w : (IntKind.i64.wrap (t57 + 1)) = ji44 := (i64_w _).trans hji44
            by_cases c45 : 0 ≤ (ji44)
            ·rw [if_pos c45] at H
             have c45b0 := eq_true c45; have c45b1 : decide (0 ≤ (ji44)) = true := zX c45; clear c45
             by_cases c46 : (ji44) ≤ (x1_1.size : Int)
             ·rw [if_pos c46] at H
              have c46b0 := eq_true c46; have c46b1 : decide ((ji44) ≤ (x1_1.size : Int)) = true := zX c46; clear c46
              by_cases c47 : (x1_1.extract 0 (t57 : Int).toNat).size + (x1_1.extract ((ji44) : Int).toNat x1_1.size).size ≤ 9223372036854775807
              ·rw [if_pos c47] at H
               have c47b0 := eq_true c47; have c47b1 : decide ((x1_1.extract 0 (t57 : Int).toNat).size + (x1_1.extract ((ji44) : Int).toNat x1_1.size).size ≤ 9223372036854775807) = true := zX c47; (try (have c47e0 : (x1_1.extract 0 (t57 : Int).toNat).size = (t57 : Int).toNat := by (have h0_ : 0 ≤ (t57 : Int) := zW (by assumption); have h1_ : (t57 : Int) ≤ (x1_1.size : Int) := zW (by assumption); simp only [ByteArray.size_extract]; omega))); (try (have c47b3 := (show (x1_1.extract 0 (t57 : Int).toNat).size + (x1_1.extract ((ji44) : Int).toNat x1_1.size).size ≤ 9223372036854775807 from c47); simp only [ByteArray.size_append, c47e0, ByteArray.size_extract, Nat.min_self, Nat.sub_zero] at c47b3; have c47b4 := eq_true c47b3; have c47b5 : decide (_) = true := zX c47b3; have c47b6 := eq_false (Nat.not_lt.2 c47b3); clear c47b3)); (try clear c47e0)
               try have c47b2 : (9223372036854775807 < (x1_1.extract 0 (t57 : Int).toNat).size + (x1_1.extract ((ji44) : Int).toNat x1_1.size).size) = False := eq_false (Nat.not_lt.2 c47)
               have H' := zA H; clear H; go_wp2_with (first | (go_at_call 34; (with_reducible refine (spec_l1Cur_pick.calls g s0_0 x55_1 x56_1 (x1_1.size : Int) t57 t61 t62 w0 _ ?side1 ?side2 A9.out).mono ?_); (case side1 => repeat (first | (with_reducible first | exact HI0.out | apply I46.a | apply I46.n | apply I46.d | apply I46.s1 | apply I46.s2) | exact HI0.out)); (case side2 => repeat (first | (with_reducible first | exact HB.out | apply zH | apply zF | apply zG | refine zI ?_ (I46.ge HI0.out)) | exact HB.out)); rintro e w48 ⟨rfl, hi, hb, hk⟩; have n0_ := zA (yH (by repeat (first | (with_reducible first | exact HK.out | apply KeepBut.set_ | apply keep_drewN | apply keep_drew | apply keep_alloc) | exact HK.out)) hk (.inl rfl)); have n1_ := zA (hb); have n2_ := zA (hi); clear HK; clear HB; clear HI0; have HK := n0_; have HB := n1_; have HI0 := n2_; clear n0_ n1_ n2_; (try clear hb); (try clear hk); (try clear hi)) | (go_at_call 34; (with_reducible refine (spec_l1Cur_pick.calls g s0_0 t61 t62 (a2.size : Int) t58 t63 t65 w0 _ ?side1 ?side2 A10.out).mono ?_); (case side1 => repeat (first | (with_reducible first | exact HI0.out | apply I46.a | apply I46.n | apply I46.d | apply I46.s1 | apply I46.s2) | exact HI0.out)); (case side2 => repeat (first | (with_reducible first | exact HB.out | apply zH | apply zF | apply zG | refine zI ?_ (I46.ge HI0.out)) | exact HB.out)); rintro e w49 ⟨rfl, hi, hb, hk⟩; have n0_ := zA (yH (by repeat (first | (with_reducible first | exact HK.out | apply KeepBut.set_ | apply keep_drewN | apply keep_drew | apply keep_alloc) | exact HK.out)) hk (.inl rfl)); have n1_ := zA (hb); have n2_ := zA (hi); clear HK; clear HB; clear HI0; have HK := n0_; have HB := n1_; have HI0 := n2_; clear n0_ n1_ n2_; (try clear hb); (try clear hk); (try clear hi); have p13 : 0 ≤ (t58 : Int) := zW (by first | (with_reducible assumption) | assumption); have q13 : t58 < (a2.size : Int) := zW (by first | (with_reducible assumption) | assumption); have hx13 := bt_at a2 t58; replace p13 := eq_true p13; replace q13 := eq_true q13) | ((with_reducible refine gate_dst (N := 31) rfl ?_); (try (refine gate_guard (by rfl) ?_; dsimp only)); refine Kd.R_lit (Kd.int .u8) _ 5 ?hg (N := 31) ?hd (xs := ([bt a2 t58] : List Int)) (inner := [.int .u8 (bt a2 t58)]) (ok := fun _ => True) (okp := fun _ => True) ?hr ?hp (fun _ hk => hk) trivial (Below.refl _ _) (Nat.le_refl _) (by simp) ?_; (case hd => rfl); (case hg => rfl); (case hr => first | (go_simp; done) | (go_simp; rfl)); (case hp => exact (Reps.one (show Kd.M (Kd.int .u8) _ _ _ (bt a2 t58) [.int .u8 (bt a2 t58)] from rfl) (Reps.none _ _))); intro v70 w50 ho51 hb hg_ hnew_; clear hg_ hnew_; (first | rw [← Ny59.out] at ho51 | (simp only [Int.reduceToNat] at ho51; rw [← Ny59.out] at ho51)); have n0_ := zA (Kd.R_lower ho51 (keep_size (w := w) (g := g) (row := none) (by repeat (first | (with_reducible first | exact HK.out | apply KeepBut.set_ | apply keep_drewN | apply keep_drew | apply keep_alloc) | exact HK.out)))); have n1_ := zA (I46.below (by repeat (first | (with_reducible first | exact HI0.out | apply I46.a | apply I46.n | apply I46.d | apply I46.s1 | apply I46.s2) | exact HI0.out)) hb); have n2_ := zA (yH (by repeat (first | (with_reducible first | exact HK.out | apply KeepBut.set_ | apply keep_drewN | apply keep_drew | apply keep_alloc) | exact HK.out)) (yI hb g none) (.inl rfl)); have n3_ := zA (zAD (by repeat (first | (with_reducible first | exact HB.out | apply zH | apply zF | apply zG | refine zI ?_ (I46.ge HI0.out)) | exact HB.out)) hb); clear HI0; clear HK; clear HB; have HO71 := n0_; have HI0 := n1_; have HK := n2_; have HB := n3_; clear n0_ n1_ n2_ n3_; clear hb ho51; have hcv52 := own_string (P := Tryd.prog) Tryd.underlying22 Tryd.underlying5 Tryd.underlying9 (Kd.own_of_R HO71.out)) | (go_at_call 34; (with_reducible refine (spec_l1Cur_pick.calls g s0_0 t63 t65 3 t60 t67 t68 w0 _ ?side1 ?side2 A14.out).mono ?_); (case side1 => repeat (first | (with_reducible first | exact HI0.out | apply I46.a | apply I46.n | apply I46.d | apply I46.s1 | apply I46.s2) | exact HI0.out)); (case side2 => repeat (first | (with_reducible first | exact HB.out | apply zH | apply zF | apply zG | refine zI ?_ (I46.ge HI0.out)) | exact HB.out)); rintro e w53 ⟨rfl, hi, hb, hk⟩; have n0_ := zA (yC (yG (I46.apart (show I46 w0 _ g s0_0 t63 t65 from by repeat (first | (with_reducible first | exact HI0.out | apply I46.a | apply I46.n | apply I46.d | apply I46.s1 | apply I46.s2) | exact HI0.out)) (by (with_reducible repeat first | apply zQ | apply zR | apply zS); exact HO71.out) (by decide)) hk (fun _ h => h.2)) (fun _ h => h.1)); have n1_ := zA (yH (by repeat (first | (with_reducible first | exact HK.out | apply KeepBut.set_ | apply keep_drewN | apply keep_drew | apply keep_alloc) | exact HK.out)) hk (.inl rfl)); have n2_ := zA (hb); have n3_ := zA (hi); clear HO71; clear HK; clear HB; clear HI0; have HO71 := n0_; have HK := n1_; have HB := n2_; have HI0 := n3_; clear n0_ n1_ n2_ n3_; (try clear hb); (try clear hk); (try clear hi)) | go_quiet (fail))
               go_roundg kj5
               case measure => have := HK1.out; have := HJ5.out; omega
               case rel => exact ⟨((x1_1.extract 0 (t57 : Int).toNat) ++ (x1_1.extract ((ji44) : Int).toNat x1_1.size)), (wrap64 (x7_1 - 1)), (t67), (t68), (by first | rfl | (simp; done) | (simp only [← hji44] <;> (first | rfl | simp)) | (simp [*]; done)), (by first | rfl | (simp; done) | (simp [*]; done) | (simp [bne]; done)), ⟨by first | exact H'.out | (rw [hji44]; exact H'.out) | (simp only [hji44]; exact H'.out)⟩, ⟨by have := HK1.out; have := HJ5.out; omega⟩, ⟨by repeat (first | (with_reducible first | exact HI0.out | apply I46.a | apply I46.n | apply I46.d | apply I46.s1 | apply I46.s2) | exact HI0.out)⟩, ⟨by repeat (first | (with_reducible first | exact HK.out | apply KeepBut.set_ | apply keep_drewN | apply keep_drew | apply keep_alloc) | exact HK.out)⟩, ⟨by repeat (first | (with_reducible first | exact HB.out | apply zH | apply zF | apply zG | refine zI ?_ (I46.ge HI0.out)) | exact HB.out)⟩⟩
              ·rw [if_neg c47] at H
               exact absurd H (by simp)
             ·rw [if_neg c46] at H
              exact absurd H (by simp)
            ·rw [if_neg c45] at H
             exact absurd H (by simp)
           ·rw [if_neg c43] at H
            exact absurd H (by simp)
          ·rw [if_neg c42] at H
           exact absurd H (by simp)
       ·rw [if_neg c12] at H
        exact absurd H (by simp)
      ·rw [if_neg c11] at H
       exact absurd H (by simp)
     ·replace c8 := Bool.eq_false_iff.mpr c8
      subst c8; have H1 : (some (x1_1, x55_1, x56_1)) = some (r1, r2, r3) := by rw [if_neg (show ¬ (false = true) by decide)] at H; exact H
      clear H; have H := H1; clear H1; simp only [Option.some.injEq, Prod.mk.injEq] at H; obtain ⟨rfl, rfl, rfl⟩ := H; go_wp2
      repeat (go_quiet (fail); try go_wp2)
      go_ret; exact ⟨by first | rfl | (simp <;> rfl) | (simp [*] <;> rfl), by repeat (first | (with_reducible first | exact HI0.out | apply I46.a | apply I46.n | apply I46.d | apply I46.s1 | apply I46.s2) | exact HI0.out), by repeat (first | (with_reducible first | exact HB.out | apply zH | apply zF | apply zG | refine zI ?_ (I46.ge HI0.out)) | exact HB.out), by repeat (first | (with_reducible first | exact HK.out | apply KeepBut.set_ | apply keep_drewN | apply keep_drew | apply keep_alloc) | exact HK.out)⟩
def spec_l1Cur_rowText.f (k : Nat) (s0_0 : List Int) (s0_1 : Int) (s0_2 : Int) : Option (ByteArray × Int × Int) := (spec_l1Cur_row.f k s0_0 s0_1 s0_2).bind fun bt10 => ((spec_RowBytes.f k bt10.1).bind fun bt11 => ((spec_l1Cur_one.f s0_0 bt10.2.1 bt10.2.2 3).bind fun bt12 => (if bt12.1 = true then ((spec_l1Cur_spoilt.f k s0_0 bt12.2.1 bt12.2.2 bt11.1 (⟨#[0, 1, 4, 255, 97]⟩ : ByteArray)).bind fun bt13 => (some (bt13.1, bt13.2.1, bt13.2.2))) else (some (bt11.1, bt12.2.1, bt12.2.2)))))
theorem spec_l1Cur_rowText.calls (k : Nat) (g : Nat) (s0_0 : List Int) (s0_1 : Int) (s0_2 : Int) (r1 : ByteArray) (r2 : Int) (r3 : Int) (w0 w : World) (hI : I46 w0 w g s0_0 s0_1 s0_2) (hB : Below w0.heap.size w0 w) (h : spec_l1Cur_rowText.f k s0_0 s0_1 s0_2 = some (r1, r2, r3)) :
  Calls Tryd.prog 31 #[.pointer (some ⟨g, 0, none⟩)] w fun e w' => e = .returned (.string r1) ∧ I46 w0 w' g s0_0 r2 r3 ∧ Below w0.heap.size w0 w' ∧ KeepBut w w' g none := by
 have HI0 := zA hI; have HK := zA (KeepBut.refl w g none); have HL := zA hB.size; clear hI; have HW0 := zA hB.size; have HB := zA hB; clear hB; have H : ((spec_l1Cur_row.f k s0_0 s0_1 s0_2).bind fun bt16 => ((spec_RowBytes.f k bt16.1).bind fun bt17 => ((spec_l1Cur_one.f s0_0 bt16.2.1 bt16.2.2 3).bind fun bt18 => (if bt18.1 = true then ((spec_l1Cur_spoilt.f k s0_0 bt18.2.1 bt18.2.2 bt17.1 (⟨#[0, 1, 4, 255, 97]⟩ : ByteArray)).bind fun bt19 => (some (bt19.1, bt19.2.1, bt19.2.2))) else (some (bt17.1, bt18.2.1, bt18.2.2)))))) = some (r1, r2, r3) := h; clear h; replace H := zAF H; obtain ⟨⟨t16, t21, t22⟩, A20, H⟩ := H; replace H : ((spec_RowBytes.f k t16).bind fun bt17 => ((spec_l1Cur_one.f s0_0 t21 t22 3).bind fun bt18 => (if bt18.1 = true then ((spec_l1Cur_spoilt.f k s0_0 bt18.2.1 bt18.2.2 bt17.1 (⟨#[0, 1, 4, 255, 97]⟩ : ByteArray)).bind fun bt19 => (some (bt19.1, bt19.2.1, bt19.2.2))) else (some (bt17.1, bt18.2.1, bt18.2.2))))) = some (r1, r2, r3) := H; have A2 := zA A20; clear A20; replace H := zAF H; obtain ⟨⟨t17, t23⟩, A30, H⟩ := H; replace H : ((spec_l1Cur_one.f s0_0 t21 t22 3).bind fun bt18 => (if bt18.1 = true then ((spec_l1Cur_spoilt.f k s0_0 bt18.2.1 bt18.2.2 t17 (⟨#[0, 1, 4, 255, 97]⟩ : ByteArray)).bind fun bt19 => (some (bt19.1, bt19.2.1, bt19.2.2))) else (some (t17, bt18.2.1, bt18.2.2)))) = some (r1, r2, r3) := H; have A3 := zA A30; clear A30; replace H := zAF H; obtain ⟨⟨t18, t24, t25⟩, A40, H⟩ := H; replace H : (if t18 = true then ((spec_l1Cur_spoilt.f k s0_0 t24 t25 t17 (⟨#[0, 1, 4, 255, 97]⟩ : ByteArray)).bind fun bt19 => (some (bt19.1, bt19.2.1, bt19.2.2))) else (some (t17, t24, t25))) = some (r1, r2, r3) := H; have A4 := zA A40; clear A40
 by_cases c5 : t18 = true
 ·subst c5
  have H1 : ((spec_l1Cur_spoilt.f k s0_0 t24 t25 t17 (⟨#[0, 1, 4, 255, 97]⟩ : ByteArray)).bind fun bt19 => (some (bt19.1, bt19.2.1, bt19.2.2))) = some (r1, r2, r3) := by rw [if_pos rfl] at H; exact H
  clear H; have H := H1; clear H1; replace H := zAF H; obtain ⟨⟨t19, t26, t27⟩, A60, H⟩ := H; replace H : (some (t19, t26, t27)) = some (r1, r2, r3) := H; have A6 := zA A60; clear A60; simp only [Option.some.injEq, Prod.mk.injEq] at H; obtain ⟨rfl, rfl, rfl⟩ := H; go_enter Tryd.func31, Tryd.ntmps31; go_wp2_with (first | ((with_reducible refine yB (f := 19) rfl ?_); refine goesL_ (some 7) rfl rfl Tryd.func19 (by kernel_rfl) rfl #[.pointer (some ⟨g, 0, none⟩)] rfl (by (try simp only [zAA, zAB, zAC]); first | done | rfl) ?_; (with_reducible refine (spec_l1Cur_row.calls k g s0_0 s0_1 s0_2 t16 t21 t22 w0 _ ?side1 ?side2 A2.out).mono ?_); (case side1 => repeat (first | (with_reducible first | exact HI0.out | apply I46.a | apply I46.n | apply I46.d | apply I46.s1 | apply I46.s2) | exact HI0.out)); (case side2 => repeat (first | (with_reducible first | exact HB.out | apply zH | apply zF | apply zG | refine zI ?_ (I46.ge HI0.out)) | exact HB.out)); rintro e w7 ⟨v28, rfl, ho0, hi, hb, hk⟩; refine ⟨_, rfl, ?_⟩; have n0_ := zA (Kd.R_lower ho0 (keep_size (w := w) (g := g) (row := none) (by repeat (first | (with_reducible first | exact HK.out | apply KeepBut.set_ | apply keep_drewN | apply keep_drew | apply keep_alloc) | exact HK.out)))); have n1_ := zA (yH (by repeat (first | (with_reducible first | exact HK.out | apply KeepBut.set_ | apply keep_drewN | apply keep_drew | apply keep_alloc) | exact HK.out)) hk (.inl rfl)); have n2_ := zA (hb); have n3_ := zA (hi); clear HK; clear HB; clear HI0; have HO29 := n0_; have HK := n1_; have HB := n2_; have HI0 := n3_; clear n0_ n1_ n2_ n3_; (try clear hb); (try clear hk); (try clear hi); (try clear ho0); obtain ⟨Ao8, co8, eo8⟩ := Kd.R_slice HO29.out; subst eo8) | ((with_reducible refine yB (f := 17) rfl ?_); refine goesL_ (some 8) rfl rfl Tryd.func17 (by kernel_rfl) rfl #[.slice Ao8 t16.length co8] rfl (by (try simp only [zAA, zAB, zAC]); first | done | rfl | (simp only [zZ, zY]; rfl)) ?_; (with_reducible refine (spec_RowBytes.calls k _ _ t16 t17 t23 _ ?side1 ?side2 A3.out).mono ?_); (case side1 => repeat (first | exact (yD HO29.out).2.2 | (with_reducible refine zT ?_ _) | (with_reducible refine zU ?_ _) | (with_reducible refine zV ?_))); (case side2 => exact (yD HO29.out).2.1); rintro e w9 ⟨rfl, hb⟩; refine ⟨_, rfl, ?_⟩; have n0_ := zA (Kd.R_below (by (with_reducible repeat first | apply zQ | apply zR | apply zS); exact HO29.out) hb); have n1_ := zA (I46.below (by repeat (first | (with_reducible first | exact HI0.out | apply I46.a | apply I46.n | apply I46.d | apply I46.s1 | apply I46.s2) | exact HI0.out)) hb); have n2_ := zA (yH (by repeat (first | (with_reducible first | exact HK.out | apply KeepBut.set_ | apply keep_drewN | apply keep_drew | apply keep_alloc) | exact HK.out)) (yI hb g none) (.inl rfl)); have n3_ := zA (zAD (by repeat (first | (with_reducible first | exact HB.out | apply zH | apply zF | apply zG | refine zI ?_ (I46.ge HI0.out)) | exact HB.out)) hb); clear HO29; clear HI0; clear HK; clear HB; have HO29 := n0_; have HI0 := n1_; have HK := n2_; have HB := n3_; clear n0_ n1_ n2_ n3_; (try clear hb)) | ((with_reducible refine yB (f := 20) rfl ?_); refine goesL_ (some 12) rfl rfl Tryd.func20 (by kernel_rfl) rfl #[.pointer (some ⟨g, 0, none⟩), .int .i64 3] rfl (by (try simp only [zAA, zAB, zAC]); first | done | rfl) ?_; (with_reducible refine (spec_l1Cur_one.calls g s0_0 t21 t22 3 true t24 t25 w0 _ ?side1 ?side2 A4.out).mono ?_); (case side1 => repeat (first | (with_reducible first | exact HI0.out | apply I46.a | apply I46.n | apply I46.d | apply I46.s1 | apply I46.s2) | exact HI0.out)); (case side2 => repeat (first | (with_reducible first | exact HB.out | apply zH | apply zF | apply zG | refine zI ?_ (I46.ge HI0.out)) | exact HB.out)); rintro e w10 ⟨rfl, hi, hb, hk⟩; refine ⟨_, rfl, ?_⟩; have n0_ := zA (yC (yG (I46.apart (show I46 w0 _ g s0_0 t21 t22 from by repeat (first | (with_reducible first | exact HI0.out | apply I46.a | apply I46.n | apply I46.d | apply I46.s1 | apply I46.s2) | exact HI0.out)) (by (with_reducible repeat first | apply zQ | apply zR | apply zS); exact HO29.out) (by decide)) hk (fun _ h => h.2)) (fun _ h => h.1)); have n1_ := zA (yH (by repeat (first | (with_reducible first | exact HK.out | apply KeepBut.set_ | apply keep_drewN | apply keep_drew | apply keep_alloc) | exact HK.out)) hk (.inl rfl)); have n2_ := zA (hb); have n3_ := zA (hi); clear HO29; clear HK; clear HB; clear HI0; have HO29 := n0_; have HK := n1_; have HB := n2_; have HI0 := n3_; clear n0_ n1_ n2_ n3_; (try clear hb); (try clear hk); (try clear hi)) | ((with_reducible refine yB (f := 47) rfl ?_); refine goesL_ (some 15) rfl rfl Tryd.func47 (by kernel_rfl) rfl #[.pointer (some ⟨g, 0, none⟩), .string t17, .string (⟨#[0, 1, 4, 255, 97]⟩ : ByteArray)] rfl (by (try simp only [zAA, zAB, zAC]); first | done | rfl) ?_; (with_reducible refine (spec_l1Cur_spoilt.calls k g s0_0 t24 t25 t17 (⟨#[0, 1, 4, 255, 97]⟩ : ByteArray) t19 t26 t27 w0 _ ?side1 ?side2 A6.out).mono ?_); (case side1 => repeat (first | (with_reducible first | exact HI0.out | apply I46.a | apply I46.n | apply I46.d | apply I46.s1 | apply I46.s2) | exact HI0.out)); (case side2 => repeat (first | (with_reducible first | exact HB.out | apply zH | apply zF | apply zG | refine zI ?_ (I46.ge HI0.out)) | exact HB.out)); rintro e w11 ⟨rfl, hi, hb, hk⟩; refine ⟨_, rfl, ?_⟩; have n0_ := zA (yC (yG (I46.apart (show I46 w0 _ g s0_0 t24 t25 from by repeat (first | (with_reducible first | exact HI0.out | apply I46.a | apply I46.n | apply I46.d | apply I46.s1 | apply I46.s2) | exact HI0.out)) (by (with_reducible repeat first | apply zQ | apply zR | apply zS); exact HO29.out) (by decide)) hk (fun _ h => h.2)) (fun _ h => h.1)); have n1_ := zA (yH (by repeat (first | (with_reducible first | exact HK.out | apply KeepBut.set_ | apply keep_drewN | apply keep_drew | apply keep_alloc) | exact HK.out)) hk (.inl rfl)); have n2_ := zA (hb); have n3_ := zA (hi); clear HO29; clear HK; clear HB; clear HI0; have HO29 := n0_; have HK := n1_; have HB := n2_; have HI0 := n3_; clear n0_ n1_ n2_ n3_; (try clear hb); (try clear hk); (try clear hi)))
  go_ret; exact ⟨by first | rfl | (simp <;> rfl) | (simp [*] <;> rfl), by repeat (first | (with_reducible first | exact HI0.out | apply I46.a | apply I46.n | apply I46.d | apply I46.s1 | apply I46.s2) | exact HI0.out), by repeat (first | (with_reducible first | exact HB.out | apply zH | apply zF | apply zG | refine zI ?_ (I46.ge HI0.out)) | exact HB.out), by repeat (first | (with_reducible first | exact HK.out | apply KeepBut.set_ | apply keep_drewN | apply keep_drew | apply keep_alloc) | exact HK.out)⟩
 ·replace c5 := Bool.eq_false_iff.mpr c5
  subst c5; have H1 : (some (t17, t24, t25)) = some (r1, r2, r3) := by rw [if_neg (show ¬ (false = true) by decide)] at H; exact H
  clear H; have H := H1; clear H1; simp only [Option.some.injEq, Prod.mk.injEq] at H; obtain ⟨rfl, rfl, rfl⟩ := H; go_enter Tryd.func31, Tryd.ntmps31; go_wp2_with (first | ((with_reducible refine yB (f := 19) rfl ?_); refine goesL_ (some 7) rfl rfl Tryd.func19 (by kernel_rfl) rfl #[.pointer (some ⟨g, 0, none⟩)] rfl (by (try simp only [zAA, zAB, zAC]); first | done | rfl) ?_; (with_reducible refine (spec_l1Cur_row.calls k g s0_0 s0_1 s0_2 t16 t21 t22 w0 _ ?side1 ?side2 A2.out).mono ?_); (case side1 => repeat (first | (with_reducible first | exact HI0.out | apply I46.a | apply I46.n | apply I46.d | apply I46.s1 | apply I46.s2) | exact HI0.out)); (case side2 => repeat (first | (with_reducible first | exact HB.out | apply zH | apply zF | apply zG | refine zI ?_ (I46.ge HI0.out)) | exact HB.out)); rintro e w12 ⟨v28, rfl, ho0, hi, hb, hk⟩; refine ⟨_, rfl, ?_⟩; have n0_ := zA (Kd.R_lower ho0 (keep_size (w := w) (g := g) (row := none) (by repeat (first | (with_reducible first | exact HK.out | apply KeepBut.set_ | apply keep_drewN | apply keep_drew | apply keep_alloc) | exact HK.out)))); have n1_ := zA (yH (by repeat (first | (with_reducible first | exact HK.out | apply KeepBut.set_ | apply keep_drewN | apply keep_drew | apply keep_alloc) | exact HK.out)) hk (.inl rfl)); have n2_ := zA (hb); have n3_ := zA (hi); clear HK; clear HB; clear HI0; have HO29 := n0_; have HK := n1_; have HB := n2_; have HI0 := n3_; clear n0_ n1_ n2_ n3_; (try clear hb); (try clear hk); (try clear hi); (try clear ho0); obtain ⟨Ao13, co13, eo13⟩ := Kd.R_slice HO29.out; subst eo13) | ((with_reducible refine yB (f := 17) rfl ?_); refine goesL_ (some 8) rfl rfl Tryd.func17 (by kernel_rfl) rfl #[.slice Ao13 t16.length co13] rfl (by (try simp only [zAA, zAB, zAC]); first | done | rfl | (simp only [zZ, zY]; rfl)) ?_; (with_reducible refine (spec_RowBytes.calls k _ _ t16 t17 t23 _ ?side1 ?side2 A3.out).mono ?_); (case side1 => repeat (first | exact (yD HO29.out).2.2 | (with_reducible refine zT ?_ _) | (with_reducible refine zU ?_ _) | (with_reducible refine zV ?_))); (case side2 => exact (yD HO29.out).2.1); rintro e w14 ⟨rfl, hb⟩; refine ⟨_, rfl, ?_⟩; have n0_ := zA (Kd.R_below (by (with_reducible repeat first | apply zQ | apply zR | apply zS); exact HO29.out) hb); have n1_ := zA (I46.below (by repeat (first | (with_reducible first | exact HI0.out | apply I46.a | apply I46.n | apply I46.d | apply I46.s1 | apply I46.s2) | exact HI0.out)) hb); have n2_ := zA (yH (by repeat (first | (with_reducible first | exact HK.out | apply KeepBut.set_ | apply keep_drewN | apply keep_drew | apply keep_alloc) | exact HK.out)) (yI hb g none) (.inl rfl)); have n3_ := zA (zAD (by repeat (first | (with_reducible first | exact HB.out | apply zH | apply zF | apply zG | refine zI ?_ (I46.ge HI0.out)) | exact HB.out)) hb); clear HO29; clear HI0; clear HK; clear HB; have HO29 := n0_; have HI0 := n1_; have HK := n2_; have HB := n3_; clear n0_ n1_ n2_ n3_; (try clear hb)) | ((with_reducible refine yB (f := 20) rfl ?_); refine goesL_ (some 12) rfl rfl Tryd.func20 (by kernel_rfl) rfl #[.pointer (some ⟨g, 0, none⟩), .int .i64 3] rfl (by (try simp only [zAA, zAB, zAC]); first | done | rfl) ?_; (with_reducible refine (spec_l1Cur_one.calls g s0_0 t21 t22 3 false t24 t25 w0 _ ?side1 ?side2 A4.out).mono ?_); (case side1 => repeat (first | (with_reducible first | exact HI0.out | apply I46.a | apply I46.n | apply I46.d | apply I46.s1 | apply I46.s2) | exact HI0.out)); (case side2 => repeat (first | (with_reducible first | exact HB.out | apply zH | apply zF | apply zG | refine zI ?_ (I46.ge HI0.out)) | exact HB.out)); rintro e w15 ⟨rfl, hi, hb, hk⟩; refine ⟨_, rfl, ?_⟩; have n0_ := zA (yC (yG (I46.apart (show I46 w0 _ g s0_0 t21 t22 from by repeat (first | (with_reducible first | exact HI0.out | apply I46.a | apply I46.n | apply I46.d | apply I46.s1 | apply I46.s2) | exact HI0.out)) (by (with_reducible repeat first | apply zQ | apply zR | apply zS); exact HO29.out) (by decide)) hk (fun _ h => h.2)) (fun _ h => h.1)); have n1_ := zA (yH (by repeat (first | (with_reducible first | exact HK.out | apply KeepBut.set_ | apply keep_drewN | apply keep_drew | apply keep_alloc) | exact HK.out)) hk (.inl rfl)); have n2_ := zA (hb); have n3_ := zA (hi); clear HO29; clear HK; clear HB; clear HI0; have HO29 := n0_; have HK := n1_; have HB := n2_; have HI0 := n3_; clear n0_ n1_ n2_ n3_; (try clear hb); (try clear hk); (try clear hi))); go_ret; exact ⟨by first | rfl | (simp <;> rfl) | (simp [*] <;> rfl), by repeat (first | (with_reducible first | exact HI0.out | apply I46.a | apply I46.n | apply I46.d | apply I46.s1 | apply I46.s2) | exact HI0.out), by repeat (first | (with_reducible first | exact HB.out | apply zH | apply zF | apply zG | refine zI ?_ (I46.ge HI0.out)) | exact HB.out), by repeat (first | (with_reducible first | exact HK.out | apply KeepBut.set_ | apply keep_drewN | apply keep_drew | apply keep_alloc) | exact HK.out)⟩
def spec_DrawReadRow.f (k : Nat) (l0 : List Int) : Option (ByteArray) := (spec_l1Cur_rowText.f k l0 0 0).bind fun bt10 => (some bt10.1)
theorem spec_DrawReadRow.calls (k : Nat) (A0 : Option Addr) (c0 : Nat) (l0 : List Int) (r : ByteArray) (w : World) (hr0 : Kd.C (Kd.int .u8) w A0 l0.length l0) (hc0 : l0.length ≤ c0) (h : spec_DrawReadRow.f k l0 = some r) :
  Calls Tryd.prog 14 #[.slice A0 l0.length c0] w fun e w' => e = .returned (.string r) ∧ Below w.heap.size w w' := by
 have hu46 := Tryd.underlying46; have HR0 := zA hr0; have HC0 := zA hc0; clear hr0 hc0; have HB := zA (Below.refl w.heap.size w); have H : ((spec_l1Cur_rowText.f k l0 0 0).bind fun bt10 => (some bt10.1)) = some r := h; clear h; replace H := zAF H; obtain ⟨⟨t10, t11, t12⟩, A20, H⟩ := H; replace H : (some t10) = some r := H; have A2 := zA A20; clear A20; obtain rfl := Option.some.inj H; go_enter Tryd.func14, Tryd.ntmps14; go_wp2_with (first | ((with_reducible refine gate_dst (N := 6) rfl ?_); refine box_event ?hg (N := 6) ?hd (cs := #[.slice A0 l0.length c0, .int .i64 0, .int .u64 0]) (t := 46) ?hr ?_; (case hd => rfl); (case hg => rfl); (case hr => first | (go_simp; done) | (go_simp; rfl)); intro gb13 hg w3 hbox hb; have n0_ := zA (zAD (by (with_reducible repeat first | exact HB.out | apply zH | apply zF | apply zG) <;> exact HB.out) hb); have n1_ := zA ((show I46 w w3 gb13 l0 0 0 from ⟨A0, c0, hbox, (by rw [hg]; exact (zAE (by (with_reducible repeat first | exact HB.out | apply zH | apply zF | apply zG) <;> exact HB.out)) : w.heap.size ≤ gb13), HR0.out⟩)); clear HB; have HB := n0_; have HI13 := n1_; clear n0_ n1_; clear hb hbox hg) | ((with_reducible refine yB (f := 31) rfl ?_); refine goesL_ (some 8) rfl rfl Tryd.func31 (by kernel_rfl) rfl #[.pointer (some ⟨gb13, 0, none⟩)] rfl (by (try simp only [zAA, zAB, zAC]); first | done | rfl) ?_; (with_reducible refine (spec_l1Cur_rowText.calls k gb13 l0 0 0 t10 t11 t12 w _ ?side1 ?side2 A2.out).mono ?_); (case side1 => repeat (first | (with_reducible first | exact HI13.out | apply I46.a | apply I46.n | apply I46.d | apply I46.s1 | apply I46.s2) | exact HI13.out)); (case side2 => repeat (first | (with_reducible first | exact HB.out | apply zH | apply zF | apply zG | refine zI ?_ (I46.ge HI13.out)) | exact HB.out)); rintro e w4 ⟨rfl, hi, hb, hk⟩; refine ⟨_, rfl, ?_⟩; have n0_ := zA (hb); have n1_ := zA (hi); clear HB; clear HI13; have HB := n0_; have HI13 := n1_; clear n0_ n1_; (try clear hb); (try clear hk); (try clear hi))); go_ret; exact ⟨by first | rfl | (simp <;> rfl) | (simp [*] <;> rfl), by repeat (first | (with_reducible first | exact HB.out | apply zH | apply zF | apply zG | refine zI ?_ (I46.ge HI13.out)) | exact HB.out)⟩
mutual
def spec_l4Read.j4 : Nat → ByteArray → Int → Int → Int → ByteArray → Option (Int × Int × ByteArray × Int)
 | 0, _, _, _, _, _ => none
 | k + 1, x0, x1, x10, x11, x12 => (spec_GoodValue.f x10 x11 x12).bind fun t13 => (if t13 = true then ((spec_l4Bytes.f k x10 x11 x12).bind fun t14 => (if (x0.size : Int) < (wrap64 (x1 + (t14.size : Int))) then (some (0, 0, (⟨#[]⟩ : ByteArray), (-1))) else (if 0 ≤ x1 then (if x1 ≤ (wrap64 (x1 + (t14.size : Int))) then (if (wrap64 (x1 + (t14.size : Int))) ≤ (x0.size : Int) then (if (x0.extract (x1 : Int).toNat ((wrap64 (x1 + (t14.size : Int))) : Int).toNat).toList = t14.toList then (some (x10, x11, x12, wrap64 (x1 + (t14.size : Int)))) else (some (0, 0, (⟨#[]⟩ : ByteArray), (-1)))) else (none)) else (none)) else (none)))) else (some (0, 0, (⟨#[]⟩ : ByteArray), (-1))))
def spec_l4Read.j0 : Nat → ByteArray → Int → ByteArray → Bool → Int → Int → ByteArray → Option (Int × Int × ByteArray × Int)
 | 0, _, _, _, _, _, _, _ => none
 | k + 1, x0, x1, x7, x20, x10, x11, x12 => if x20 = true then (if 0 < (x7.size : Int) then (spec_l4Read.j4 k x0 x1 x10 (wrap64 (bt x7 0)) x12) else (none)) else (if x10 = 3 then (spec_l4Read.j1 k x0 x1 x7 (decide ((x7.size : Int) > 3)) x10 x11 x12) else (spec_l4Read.j1 k x0 x1 x7 false x10 x11 x12))
def spec_l4Read.j1 : Nat → ByteArray → Int → ByteArray → Bool → Int → Int → ByteArray → Option (Int × Int × ByteArray × Int)
 | 0, _, _, _, _, _, _, _ => none
 | k + 1, x0, x1, x7, x33, x10, x11, x12 => if x33 = true then (if 0 < (x7.size : Int) then (if 1 < (x7.size : Int) then (if 2 < (x7.size : Int) then (if 3 < (x7.size : Int) then (spec_l4Read.j4 k x0 x1 x10 (wrap64 ((wrap64 ((wrap64 ((wrap64 ((wrap64 ((wrap64 (bt x7 0)) * 16777216)) + (wrap64 ((wrap64 (bt x7 1)) * 65536)))) + (wrap64 ((wrap64 (bt x7 2)) * 256)))) + (wrap64 (bt x7 3)))) - 1000000000)) x12) else (none)) else (none)) else (none)) else (none)) else (if x10 = 4 then (spec_l4Read.l0 k x0 x1 x7 ([] : List Int) 0 x10 x11 x12) else (spec_l4Read.j4 k x0 x1 x10 x11 x12))
def spec_l4Read.l0 : Nat → ByteArray → Int → ByteArray → List Int → Int → Int → Int → ByteArray → Option (Int × Int × ByteArray × Int)
 | 0, _, _, _, _, _, _, _, _ => none
 | k + 1, x0, x1, x7, x8, x9, x10, x11, x12 => if (wrap64 (x9 + 1)) < (x7.size : Int) then (if 0 ≤ x9 then (if x9 < (x7.size : Int) then (if (bt x7 x9) = 0 then (if 0 ≤ (wrap64 (x9 + 1)) then (spec_l4Read.j3 k x0 x1 x7 x8 x9 (!((bt x7 (wrap64 (x9 + 1))) == 0)) x10 x11 x12) else (none)) else (spec_l4Read.j3 k x0 x1 x7 x8 x9 (!false) x10 x11 x12)) else (none)) else (none)) else (spec_l4Read.j3 k x0 x1 x7 x8 x9 false x10 x11 x12)
def spec_l4Read.j3 : Nat → ByteArray → Int → ByteArray → List Int → Int → Bool → Int → Int → ByteArray → Option (Int × Int × ByteArray × Int)
 | 0, _, _, _, _, _, _, _, _, _ => none
 | k + 1, x0, x1, x7, x8, x9, x84, x10, x11, x12 => if x84 = true then (if 0 ≤ x9 then (if x9 < (x7.size : Int) then (if x8.length < 140737488355328 then ((some (x8 ++ [bt x7 x9] : List Int)).bind fun y15 => (if (bt x7 x9) = 0 then (spec_l4Read.l0 k x0 x1 x7 y15 (wrap64 ((wrap64 (x9 + 1)) + 1)) x10 x11 x12) else (spec_l4Read.l0 k x0 x1 x7 y15 (wrap64 (x9 + 1)) x10 x11 x12))) else (none)) else (none)) else (none)) else (spec_l4Read.j4 k x0 x1 x10 x11 (strOfNums x8))
end
def spec_l4Read.f (k : Nat) (a0 : ByteArray) (a1 : Int) : Option (Int × Int × ByteArray × Int) := if 0 ≤ a1 then (if a1 < (a0.size : Int) then (if 0 ≤ (wrap64 (a1 + 1)) then (if (wrap64 (a1 + 1)) ≤ (a0.size : Int) then (if (wrap64 (bt a0 a1)) = 2 then (spec_l4Read.j0 k a0 a1 (a0.extract ((wrap64 (a1 + 1)) : Int).toNat a0.size) (decide (((a0.extract ((wrap64 (a1 + 1)) : Int).toNat a0.size).size : Int) > 0)) (wrap64 (bt a0 a1)) 0 (⟨#[]⟩ : ByteArray)) else (spec_l4Read.j0 k a0 a1 (a0.extract ((wrap64 (a1 + 1)) : Int).toNat a0.size) false (wrap64 (bt a0 a1)) 0 (⟨#[]⟩ : ByteArray))) else (none)) else (none)) else (none)) else (none)
def spec_l4Read.T6 : Bool × List (List Nat × List Nat) := (true, [([], []), ([0], [0]), ([1], [1]), ([2], [2]), ([], []), ([4], [4]), ([5], [5]), ([6], [6]), ([3, 7], [3, 7]), ([], []), ([9], [9]), ([10], [10]), ([11], [11]), ([8, 12], [8, 12]), ([], []), ([14], [14]), ([15], [15]), ([13, 16], [13, 16]), ([17], [17]), ([0, 1, 2, 3, 4, 5, 6, 7, 8, 9, 10, 11, 12, 13, 14, 15, 16, 17, 18], []), ([19, 18, 0, 1, 2, 3, 4, 5, 6, 7, 8, 9, 10, 11, 12, 13, 14, 15, 16, 17, 18], [18, 19])])
def spec_l4Read.B6 : List Nat := [0, 1, 3, 7, 0, 16, 48, 112, 255, 0, 512, 1536, 3584, 8191, 0, 16384, 49152, 131071, 262143, 524287, 1048575]
theorem spec_l4Read.tab6 : rtab .any (opsOf Tryd.f32 6) = spec_l4Read.T6 := by kernel_rfl
theorem spec_l4Read.bits6 : waitsOk spec_l4Read.T6.2 spec_l4Read.B6 = true := by kernel_rfl
theorem spec_l4Read.calls (k : Nat) (a0 : ByteArray) (a1 : Int) (r1 : Int) (r2 : Int) (r3 : ByteArray) (r4 : Int) (w : World) (h : spec_l4Read.f k a0 a1 = some (r1, r2, r3, r4)) :
  Calls Tryd.prog 32 #[.string a0, .int .i64 a1] w fun e w' => e = .returned (.tuple #[.agg #[.int .i64 r1, .int .i64 r2, .string r3], .int .i64 r4]) ∧ Below w.heap.size w w' := by
 have hu39 := Tryd.underlying39; have HB := zA (Below.refl w.heap.size w); have H : (if 0 ≤ a1 then (if a1 < (a0.size : Int) then (if 0 ≤ (wrap64 (a1 + 1)) then (if (wrap64 (a1 + 1)) ≤ (a0.size : Int) then (if (wrap64 (bt a0 a1)) = 2 then (spec_l4Read.j0 k a0 a1 (a0.extract ((wrap64 (a1 + 1)) : Int).toNat a0.size) (decide (((a0.extract ((wrap64 (a1 + 1)) : Int).toNat a0.size).size : Int) > 0)) (wrap64 (bt a0 a1)) 0 (⟨#[]⟩ : ByteArray)) else (spec_l4Read.j0 k a0 a1 (a0.extract ((wrap64 (a1 + 1)) : Int).toNat a0.size) false (wrap64 (bt a0 a1)) 0 (⟨#[]⟩ : ByteArray))) else (none)) else (none)) else (none)) else (none)) = some (r1, r2, r3, r4) := h; clear h
 by_cases c3 : 0 ≤ a1
 ·rw [if_pos c3] at H
  have c3b0 : decide (0 ≤ a1) = true := zX c3; clear c3
  by_cases c4 : a1 < (a0.size : Int)
  ·rw [if_pos c4] at H
   have c4b0 : decide (a1 < (a0.size : Int)) = true := zX c4; clear c4; obtain ⟨ji6, hji6⟩ : ∃ j_ : Int, (wrap64 (a1 + 1)) = j_ := ⟨_, rfl⟩; replace H : (if 0 ≤ (ji6) then (if (ji6) ≤ (a0.size : Int) then (if (wrap64 (bt a0 a1)) = 2 then (spec_l4Read.j0 k a0 a1 (a0.extract ((ji6) : Int).toNat a0.size) (decide (((a0.extract ((ji6) : Int).toNat a0.size).size : Int) > 0)) (wrap64 (bt a0 a1)) 0 (⟨#[]⟩ : ByteArray)) else (spec_l4Read.j0 k a0 a1 (a0.extract ((ji6) : Int).toNat a0.size) false (wrap64 (bt a0 a1)) 0 (⟨#[]⟩ : ByteArray))) else (none)) else (none)) = some (r1, r2, r3, r4) := by first | (rw [hji6] at H; exact H) | (simp only [hji6] at H ⊢; exact H)
   have hji6w : (IntKind.i64.wrap (a1 + 1)) = ji6 := (i64_w _).trans hji6
   by_cases c7 : 0 ≤ (ji6)
   ·rw [if_pos c7] at H
    have c7b0 := eq_true c7; have c7b1 : decide (0 ≤ (ji6)) = true := zX c7; clear c7
    by_cases c8 : (ji6) ≤ (a0.size : Int)
    ·rw [if_pos c8] at H
     have c8b0 := eq_true c8; have c8b1 : decide ((ji6) ≤ (a0.size : Int)) = true := zX c8; clear c8; obtain ⟨xt_, hxt_⟩ : ∃ t_ : ByteArray, (a0.extract ((ji6) : Int).toNat a0.size) = t_ := ⟨_, rfl⟩; simp only [hxt_] at H; have HC9 := zA H; clear H; go_enter Tryd.func32, Tryd.ntmps32; go_upto_block 0 with (first | ((with_reducible refine gate_dst (N := 4) rfl ?_); (try (refine gate_guard (by rfl) ?_; dsimp only)); refine box_event ?hg (N := 4) ?hd (cs := #[.int .i64 0, .int .i64 0, .string (⟨#[]⟩ : ByteArray)]) (t := 39) ?hr ?_; (case hd => rfl); (case hg => rfl); (case hr => first | (go_simp; done) | (go_simp; rfl)); intro gb99 hg w10 hbox hb; have n0_ := zA (zAD (by (with_reducible repeat first | exact HB.out | apply zH | apply zF | apply zG) <;> exact HB.out) hb); have n1_ := zA (hbox); have n2_ := zA ((by rw [hg]; exact (zAE (by (with_reducible repeat first | exact HB.out | apply zH | apply zF | apply zG) <;> exact HB.out)) : w.heap.size ≤ gb99)); have n3_ := zA ((by rw [hg]; exact (zAE (by (with_reducible repeat first | exact HB.out | apply zH | apply zF | apply zG) <;> exact HB.out)) : w.heap.size ≤ gb99)); clear HB; have HB := n0_; have BK99 := n1_; have GW99 := n2_; have GE99 := n3_; clear n0_ n1_ n2_ n3_; clear hb hbox hg; have p5 : 0 ≤ (a1 : Int) := zW (by first | (with_reducible assumption) | assumption); have q5 : a1 < (a0.size : Int) := zW (by first | (with_reducible assumption) | assumption); have hx5 := bt_at a0 a1; replace p5 := eq_true p5; replace q5 := eq_true q5) | ((with_reducible refine gate_dst (N := 6) rfl ?_); (try (refine gate_guard (by rfl) ?_; dsimp only)); refine box_event ?hg (N := 6) ?hd (cs := #[.int .i64 0, .int .i64 0, .string (⟨#[]⟩ : ByteArray)]) (t := 39) ?hr ?_; (case hd => rfl); (case hg => rfl); (case hr => first | (go_simp; done) | (go_simp; rfl)); intro gb355 hg w11 hbox hb; have n0_ := zA (yE (g := gb99) (o := .cells #[.int .i64 0, .int .i64 0, .string (⟨#[]⟩ : ByteArray)] 39 (0, 0)) (by (with_reducible repeat (first | refine zL ?_ _ | refine zN ?_ | refine zM ?_ _)); exact BK99.out) hb); have n1_ := zA (zAD (by repeat (first | (with_reducible first | exact HB.out | apply zH | apply zF | apply zG | refine zI ?_ GE99.out) | exact HB.out)) hb); have n2_ := zA (hbox); have n3_ := zA ((by rw [hg]; exact (zAE (by repeat (first | (with_reducible first | exact HB.out | apply zH | apply zF | apply zG | refine zI ?_ GE99.out) | exact HB.out))) : w.heap.size ≤ gb355)); have n4_ := zA ((by rw [hg]; exact (zAE (by repeat (first | (with_reducible first | exact HB.out | apply zH | apply zF | apply zG | refine zI ?_ GE99.out) | exact HB.out))) : w.heap.size ≤ gb355)); have n5_ := zA ((by rw [hg]; exact zK (blk_lt (g := gb99) (o := .cells #[.int .i64 0, .int .i64 0, .string (⟨#[]⟩ : ByteArray)] 39 (0, 0)) (by (with_reducible repeat (first | refine zL ?_ _ | refine zN ?_ | refine zM ?_ _)); exact BK99.out)) : gb99 ≠ gb355)); have n6_ := zA ((by rw [hg]; exact Nat.ne_of_gt (blk_lt (g := gb99) (o := .cells #[.int .i64 0, .int .i64 0, .string (⟨#[]⟩ : ByteArray)] 39 (0, 0)) (by (with_reducible repeat (first | refine zL ?_ _ | refine zN ?_ | refine zM ?_ _)); exact BK99.out)) : gb355 ≠ gb99)); clear BK99; clear HB; have BK99 := n0_; have HB := n1_; have BK355 := n2_; have GW355 := n3_; have GE355 := n4_; have NB99_355 := n5_; have NB355_99 := n6_; clear n0_ n1_ n2_ n3_ n4_ n5_ n6_; clear hb hbox hg; have hnb12 := NB355_99.out; have hnc12 := NB99_355.out; have hcz13_0 : w11.cell? ⟨gb355, 0, none⟩ = some (.int .i64 0) := (zP BK355.out 0).trans rfl; have hcz13_1 : w11.cell? ⟨gb355, 1, none⟩ = some (.int .i64 0) := (zP BK355.out 1).trans rfl; have hcz13_2 : w11.cell? ⟨gb355, 2, none⟩ = some (.string (⟨#[]⟩ : ByteArray)) := (zP BK355.out 2).trans rfl; have hfz13_0 := zO BK355.out 0; have hfz13_1 := zO BK355.out 1; have hfz13_2 := zO BK355.out 2))
     (try simp only [Act.put, zC, zD, zE]); (try simp only [hxt_]); go_cut [] (fun wc => ∃ (kq : Nat) (x356001_8 : Int) (x356002_8 : ByteArray), Aside0 (spec_l4Read.j4 kq a0 a1 (wrap64 (bt a0 a1)) x356001_8 x356002_8 = some (r1, r2, r3, r4)) ∧ Aside0 (kq ≤ k) ∧ Aside0 (wc.heap[gb99]? = some (.cells #[.int .i64 0, .int .i64 0, .string (⟨#[]⟩ : ByteArray)] 39 (0, 0))) ∧ Aside0 (wc.heap[gb355]? = some (.cells #[.int .i64 (wrap64 (bt a0 a1)), .int .i64 x356001_8, .string x356002_8] 39 (0, 0))) ∧ Aside0 (Below w.heap.size w wc))
     case first =>
      have H := HC9.out; clear HC9; have HC14 := zA H; clear H; go_upto_region 3 with (fail)
      (try simp only [hxt_]); go_cut [20] (fun v20 wc => ∃ (kq : Nat) (x20_13 : Bool), v20 = .bool x20_13 ∧ Aside0 (spec_l4Read.j0 kq a0 a1 xt_ x20_13 (wrap64 (bt a0 a1)) 0 (⟨#[]⟩ : ByteArray) = some (r1, r2, r3, r4)) ∧ Aside0 (kq ≤ k) ∧ Aside0 (wc.heap[gb99]? = some (.cells #[.int .i64 0, .int .i64 0, .string (⟨#[]⟩ : ByteArray)] 39 (0, 0))) ∧ Aside0 (wc.heap[gb355]? = some (.cells #[.int .i64 (wrap64 (bt a0 a1)), .int .i64 0, .string (⟨#[]⟩ : ByteArray)] 39 (0, 0))) ∧ Aside0 (Below w.heap.size w wc))
      case first =>
       have H := HC14.out; clear HC14
       by_cases c15 : (wrap64 (bt a0 a1)) = 2
       ·rw [if_pos c15] at H
        have c15b0 : ((wrap64 (bt a0 a1)) == 2) = true := beq_iff_eq.mpr c15; have c15b1 : ((wrap64 (bt a0 a1)) != 2) = false := bne_eq_false_iff_eq.mpr c15; clear c15; (first | rw [c15b0] | (simp only [i64_w, i32_w]; rw [c15b0]) | skip); have H' := zA H; clear H; have hnb16 := NB355_99.out; have hnc16 := NB99_355.out; have hcz17_0 : w11.cell? ⟨gb355, 0, none⟩ = some (.int .i64 0) := (zP BK355.out 0).trans rfl; have hcz17_1 : w11.cell? ⟨gb355, 1, none⟩ = some (.int .i64 0) := (zP BK355.out 1).trans rfl; have hcz17_2 : w11.cell? ⟨gb355, 2, none⟩ = some (.string (⟨#[]⟩ : ByteArray)) := (zP BK355.out 2).trans rfl; have hfz17_0 := zO BK355.out 0; have hfz17_1 := zO BK355.out 1; have hfz17_2 := zO BK355.out 2; go_wp2; go_meet
        case rel => exact ⟨_, (decide ((xt_.size : Int) > 0)), (by first | rfl | (simp; done) | (simp only [← hji6] <;> (first | rfl | simp)) | (simp [*]; done)), ⟨by first | exact H'.out | (rw [hji6]; exact H'.out) | (simp only [hji6]; exact H'.out)⟩, ⟨by first | omega | exact Nat.le_refl _⟩, ⟨by (with_reducible repeat (first | refine zL ?_ _ | refine zN ?_ | refine zM ?_ _)); refine blk_far ?_ NB99_355.out _; (with_reducible repeat (first | refine zL ?_ _ | refine zN ?_ | refine zM ?_ _)); refine blk_far ?_ NB99_355.out _; (with_reducible repeat (first | refine zL ?_ _ | refine zN ?_ | refine zM ?_ _)); refine blk_far ?_ NB99_355.out _; (with_reducible repeat (first | refine zL ?_ _ | refine zN ?_ | refine zM ?_ _)); exact BK99.out⟩, ⟨by (with_reducible repeat (first | refine zL ?_ _ | refine zN ?_ | refine zM ?_ _)); refine blk_put (cs := #[.int .i64 (wrap64 (bt a0 a1)), .int .i64 0, .string (⟨#[]⟩ : ByteArray)]) ?_ 2 _ rfl; (with_reducible repeat (first | refine zL ?_ _ | refine zN ?_ | refine zM ?_ _)); refine blk_put (cs := #[.int .i64 (wrap64 (bt a0 a1)), .int .i64 0, .string (⟨#[]⟩ : ByteArray)]) ?_ 1 _ rfl; (with_reducible repeat (first | refine zL ?_ _ | refine zN ?_ | refine zM ?_ _)); refine blk_put (cs := #[.int .i64 0, .int .i64 0, .string (⟨#[]⟩ : ByteArray)]) ?_ 0 _ rfl; (with_reducible repeat (first | refine zL ?_ _ | refine zN ?_ | refine zM ?_ _)); exact BK355.out⟩, ⟨by repeat (first | (with_reducible first | exact HB.out | apply zH | apply zF | apply zG | refine zI ?_ GE99.out | refine zI ?_ GE355.out) | exact HB.out)⟩⟩
       ·rw [if_neg c15] at H
        have c15b0 : ((wrap64 (bt a0 a1)) == 2) = false := beq_eq_false_iff_ne.mpr c15; have c15b1 : ((wrap64 (bt a0 a1)) != 2) = true := bne_iff_ne.mpr c15; (first | rw [c15b0] | (simp only [i64_w, i32_w]; rw [c15b0]) | skip); have H' := zA H; clear H; have hnb18 := NB355_99.out; have hnc18 := NB99_355.out; have hcz19_0 : w11.cell? ⟨gb355, 0, none⟩ = some (.int .i64 0) := (zP BK355.out 0).trans rfl; have hcz19_1 : w11.cell? ⟨gb355, 1, none⟩ = some (.int .i64 0) := (zP BK355.out 1).trans rfl; have hcz19_2 : w11.cell? ⟨gb355, 2, none⟩ = some (.string (⟨#[]⟩ : ByteArray)) := (zP BK355.out 2).trans rfl; have hfz19_0 := zO BK355.out 0; have hfz19_1 := zO BK355.out 1; have hfz19_2 := zO BK355.out 2; go_wp2; go_meet
        case rel => exact ⟨_, (false), (by first | rfl | (simp; done) | (simp [*]; done) | (simp [bne]; done)), H', ⟨by first | omega | exact Nat.le_refl _⟩, ⟨by (with_reducible repeat (first | refine zL ?_ _ | refine zN ?_ | refine zM ?_ _)); refine blk_far ?_ NB99_355.out _; (with_reducible repeat (first | refine zL ?_ _ | refine zN ?_ | refine zM ?_ _)); refine blk_far ?_ NB99_355.out _; (with_reducible repeat (first | refine zL ?_ _ | refine zN ?_ | refine zM ?_ _)); refine blk_far ?_ NB99_355.out _; (with_reducible repeat (first | refine zL ?_ _ | refine zN ?_ | refine zM ?_ _)); exact BK99.out⟩, ⟨by (with_reducible repeat (first | refine zL ?_ _ | refine zN ?_ | refine zM ?_ _)); refine blk_put (cs := #[.int .i64 (wrap64 (bt a0 a1)), .int .i64 0, .string (⟨#[]⟩ : ByteArray)]) ?_ 2 _ rfl; (with_reducible repeat (first | refine zL ?_ _ | refine zN ?_ | refine zM ?_ _)); refine blk_put (cs := #[.int .i64 (wrap64 (bt a0 a1)), .int .i64 0, .string (⟨#[]⟩ : ByteArray)]) ?_ 1 _ rfl; (with_reducible repeat (first | refine zL ?_ _ | refine zN ?_ | refine zM ?_ _)); refine blk_put (cs := #[.int .i64 0, .int .i64 0, .string (⟨#[]⟩ : ByteArray)]) ?_ 0 _ rfl; (with_reducible repeat (first | refine zL ?_ _ | refine zN ?_ | refine zM ?_ _)); exact BK355.out⟩, ⟨by repeat (first | (with_reducible first | exact HB.out | apply zH | apply zF | apply zG | refine zI ?_ GE99.out | refine zI ?_ GE355.out) | exact HB.out)⟩⟩
      case rest =>
       clear HC14
       try clear c1
       try clear p2
       try clear c3
       try clear c3b0
       try clear c4
       try clear c4b0
       try clear p5
       try clear q5
       try clear hx5
       try clear p6
       try clear c7
       try clear c7b0
       try clear c7b1
       try clear c8
       try clear c8b0
       try clear c8b1
       try clear c12
       try clear c15
       try clear c15b0
       try clear c15b1
       try clear c16
       try clear c18
       try clear hcz13_0
       try clear hcz13_1
       try clear hcz13_2
       try clear hcz17_0
       try clear hcz17_1
       try clear hcz17_2
       try clear hcz19_0
       try clear hcz19_1
       try clear hcz19_2
       try clear hfz13_0
       try clear hfz13_1
       try clear hfz13_2
       try clear hfz17_0
       try clear hfz17_1
       try clear hfz17_2
       try clear hfz19_0
       try clear hfz19_1
       try clear hfz19_2
       try clear p5
       try clear q5
       obtain ⟨kq, x20_13, rfl, HA, HJ13, BK99, BK355, HB⟩ := hcut
       cases kq with
       | zero => exact absurd HA.out (by simp [spec_l4Read.j0])
       | succ kj13 =>
        have H := HA.out; clear HA; simp only [spec_l4Read.j0] at H
        by_cases c20 : x20_13 = true
        ·subst c20
         have H1 : (if 0 < (xt_.size : Int) then (spec_l4Read.j4 kj13 a0 a1 (wrap64 (bt a0 a1)) (wrap64 (bt xt_ 0)) (⟨#[]⟩ : ByteArray)) else (none)) = some (r1, r2, r3, r4) := by rw [if_pos rfl] at H; exact H
         clear H; have H := H1; clear H1
         by_cases c21 : 0 < (xt_.size : Int)
         ·rw [if_pos c21] at H
          have c21b0 : decide (0 < (xt_.size : Int)) = true := zX c21; have c21b1 : decide (0 < xt_.size) = true := zX (by omega); clear c21; have H' := zA H; clear H; have p22 : 0 ≤ (0 : Int) := (by omega); have q22 : 0 < xt_.size := (by have : (0 : Int) < (xt_.size : Int) := zW (by first | (with_reducible assumption) | assumption); omega); have hx22 : ∀ h : 0 < xt_.size, ((xt_[0]'h).toNat : Int) = bt xt_ 0 := bt_at xt_ 0; clear p22; have qi22 : (0 < (xt_.size : Int)) = True := eq_true (zW (by first | (with_reducible assumption) | assumption)); replace q22 := eq_true q22; have hnb23 := NB355_99.out; have hnc23 := NB99_355.out; have hcz24_0 : wc.cell? ⟨gb355, 0, none⟩ = some (.int .i64 (wrap64 (bt a0 a1))) := (zP BK355.out 0).trans rfl; have hcz24_1 : wc.cell? ⟨gb355, 1, none⟩ = some (.int .i64 0) := (zP BK355.out 1).trans rfl; have hcz24_2 : wc.cell? ⟨gb355, 2, none⟩ = some (.string (⟨#[]⟩ : ByteArray)) := (zP BK355.out 2).trans rfl; have hfz24_0 := zO BK355.out 0; have hfz24_1 := zO BK355.out 1; have hfz24_2 := zO BK355.out 2; go_wp2; go_meet
          case rel => exact ⟨_, (wrap64 (bt xt_ 0)), ((⟨#[]⟩ : ByteArray)), H', ⟨by have := HJ13.out; first | omega | exact Nat.le_refl _⟩, ⟨by (with_reducible repeat (first | refine zL ?_ _ | refine zN ?_ | refine zM ?_ _)); refine blk_far ?_ NB99_355.out _; (with_reducible repeat (first | refine zL ?_ _ | refine zN ?_ | refine zM ?_ _)); exact BK99.out⟩, ⟨by (with_reducible repeat (first | refine zL ?_ _ | refine zN ?_ | refine zM ?_ _)); refine blk_put (cs := #[.int .i64 (wrap64 (bt a0 a1)), .int .i64 0, .string (⟨#[]⟩ : ByteArray)]) ?_ 1 _ rfl; (with_reducible repeat (first | refine zL ?_ _ | refine zN ?_ | refine zM ?_ _)); exact BK355.out⟩, ⟨by repeat (first | (with_reducible first | exact HB.out | apply zH | apply zF | apply zG | refine zI ?_ GE99.out | refine zI ?_ GE355.out) | exact HB.out)⟩⟩
         ·rw [if_neg c21] at H
          exact absurd H (by simp)
        ·replace c20 := Bool.eq_false_iff.mpr c20
         subst c20; have H1 : (if (wrap64 (bt a0 a1)) = 3 then (spec_l4Read.j1 kj13 a0 a1 xt_ (decide ((xt_.size : Int) > 3)) (wrap64 (bt a0 a1)) 0 (⟨#[]⟩ : ByteArray)) else (spec_l4Read.j1 kj13 a0 a1 xt_ false (wrap64 (bt a0 a1)) 0 (⟨#[]⟩ : ByteArray))) = some (r1, r2, r3, r4) := by rw [if_neg (show ¬ (false = true) by decide)] at H; exact H
         clear H; have H := H1; clear H1; have HC25 := zA H; clear H; go_upto_region 5 with (fail)
         (try simp only [hxt_]); go_cut [33] (fun v33 wc => ∃ (kq : Nat) (x33_24 : Bool), v33 = .bool x33_24 ∧ Aside0 (spec_l4Read.j1 kq a0 a1 xt_ x33_24 (wrap64 (bt a0 a1)) 0 (⟨#[]⟩ : ByteArray) = some (r1, r2, r3, r4)) ∧ Aside0 (kq ≤ kj13) ∧ Aside0 (wc.heap[gb99]? = some (.cells #[.int .i64 0, .int .i64 0, .string (⟨#[]⟩ : ByteArray)] 39 (0, 0))) ∧ Aside0 (wc.heap[gb355]? = some (.cells #[.int .i64 (wrap64 (bt a0 a1)), .int .i64 0, .string (⟨#[]⟩ : ByteArray)] 39 (0, 0))) ∧ Aside0 (Below w.heap.size w wc))
         case first =>
          have H := HC25.out; clear HC25
          by_cases c26 : (wrap64 (bt a0 a1)) = 3
          ·rw [if_pos c26] at H
           have c26b0 : ((wrap64 (bt a0 a1)) == 3) = true := beq_iff_eq.mpr c26; have c26b1 : ((wrap64 (bt a0 a1)) != 3) = false := bne_eq_false_iff_eq.mpr c26; clear c26; (first | rw [c26b0] | (simp only [i64_w, i32_w]; rw [c26b0]) | skip); have H' := zA H; clear H; have hnb27 := NB355_99.out; have hnc27 := NB99_355.out; have hcz28_0 : wc.cell? ⟨gb355, 0, none⟩ = some (.int .i64 (wrap64 (bt a0 a1))) := (zP BK355.out 0).trans rfl; have hcz28_1 : wc.cell? ⟨gb355, 1, none⟩ = some (.int .i64 0) := (zP BK355.out 1).trans rfl; have hcz28_2 : wc.cell? ⟨gb355, 2, none⟩ = some (.string (⟨#[]⟩ : ByteArray)) := (zP BK355.out 2).trans rfl; have hfz28_0 := zO BK355.out 0; have hfz28_1 := zO BK355.out 1; have hfz28_2 := zO BK355.out 2; go_wp2; go_meet
           case rel => exact ⟨_, (decide ((xt_.size : Int) > 3)), (by first | rfl | (simp; done) | (simp only [← hji6] <;> (first | rfl | simp)) | (simp [*]; done)), ⟨by first | exact H'.out | (rw [hji6]; exact H'.out) | (simp only [hji6]; exact H'.out)⟩, ⟨by have := HJ13.out; first | omega | exact Nat.le_refl _⟩, ⟨by (with_reducible repeat (first | refine zL ?_ _ | refine zN ?_ | refine zM ?_ _)); exact BK99.out⟩, ⟨by (with_reducible repeat (first | refine zL ?_ _ | refine zN ?_ | refine zM ?_ _)); exact BK355.out⟩, ⟨by repeat (first | (with_reducible first | exact HB.out | apply zH | apply zF | apply zG | refine zI ?_ GE99.out | refine zI ?_ GE355.out) | exact HB.out)⟩⟩
          ·rw [if_neg c26] at H
           have c26b0 : ((wrap64 (bt a0 a1)) == 3) = false := beq_eq_false_iff_ne.mpr c26; have c26b1 : ((wrap64 (bt a0 a1)) != 3) = true := bne_iff_ne.mpr c26; (first | rw [c26b0] | (simp only [i64_w, i32_w]; rw [c26b0]) | skip); have H' := zA H; clear H; have hnb29 := NB355_99.out; have hnc29 := NB99_355.out; have hcz30_0 : wc.cell? ⟨gb355, 0, none⟩ = some (.int .i64 (wrap64 (bt a0 a1))) := (zP BK355.out 0).trans rfl; have hcz30_1 : wc.cell? ⟨gb355, 1, none⟩ = some (.int .i64 0) := (zP BK355.out 1).trans rfl; have hcz30_2 : wc.cell? ⟨gb355, 2, none⟩ = some (.string (⟨#[]⟩ : ByteArray)) := (zP BK355.out 2).trans rfl; have hfz30_0 := zO BK355.out 0; have hfz30_1 := zO BK355.out 1; have hfz30_2 := zO BK355.out 2; go_wp2; go_meet
           case rel => exact ⟨_, (false), (by first | rfl | (simp; done) | (simp [*]; done) | (simp [bne]; done)), H', ⟨by have := HJ13.out; first | omega | exact Nat.le_refl _⟩, ⟨by (with_reducible repeat (first | refine zL ?_ _ | refine zN ?_ | refine zM ?_ _)); exact BK99.out⟩, ⟨by (with_reducible repeat (first | refine zL ?_ _ | refine zN ?_ | refine zM ?_ _)); exact BK355.out⟩, ⟨by repeat (first | (with_reducible first | exact HB.out | apply zH | apply zF | apply zG | refine zI ?_ GE99.out | refine zI ?_ GE355.out) | exact HB.out)⟩⟩
         case rest =>
          clear HC25
          try clear c1
          try clear c2
          try clear p2
          try clear q2
          try clear hx2
          try clear qi2
          try clear c3
          try clear c3b0
          try clear c4
          try clear c4b0
          try clear p5
          try clear q5
          try clear hx5
          try clear p6
          try clear c7
          try clear c7b0
          try clear c7b1
          try clear c8
          try clear c8b0
          try clear c8b1
          try clear c12
          try clear c15
          try clear c15b0
          try clear c15b1
          try clear c16
          try clear c18
          try clear c20
          try clear c21
          try clear c21b0
          try clear c21b1
          try clear p22
          try clear q22
          try clear hx22
          try clear qi22
          try clear c23
          try clear c26
          try clear c26b0
          try clear c26b1
          try clear c27
          try clear c29
          try clear hcz13_0
          try clear hcz13_1
          try clear hcz13_2
          try clear hcz17_0
          try clear hcz17_1
          try clear hcz17_2
          try clear hcz19_0
          try clear hcz19_1
          try clear hcz19_2
          try clear hcz24_0
          try clear hcz24_1
          try clear hcz24_2
          try clear hcz28_0
          try clear hcz28_1
          try clear hcz28_2
          try clear hcz30_0
          try clear hcz30_1
          try clear hcz30_2
          try clear hfz13_0
          try clear hfz13_1
          try clear hfz13_2
          try clear hfz17_0
          try clear hfz17_1
          try clear hfz17_2
          try clear hfz19_0
          try clear hfz19_1
          try clear hfz19_2
          try clear hfz24_0
          try clear hfz24_1
          try clear hfz24_2
          try clear hfz28_0
          try clear hfz28_1
          try clear hfz28_2
          try clear hfz30_0
          try clear hfz30_1
          try clear hfz30_2
          try clear p2
          try clear p22
          try clear p5
          try clear p6
          try clear q22
          try clear q5
          obtain ⟨kq, x33_24, rfl, HA, HJ24, BK99, BK355, HB⟩ := hcut
          cases kq with
          | zero => exact absurd HA.out (by simp [spec_l4Read.j1])
          | succ kj24 =>
           have H := HA.out; clear HA; simp only [spec_l4Read.j1] at H
           by_cases c31 : x33_24 = true
           ·subst c31
            have H1 : (if 0 < (xt_.size : Int) then (if 1 < (xt_.size : Int) then (if 2 < (xt_.size : Int) then (if 3 < (xt_.size : Int) then (spec_l4Read.j4 kj24 a0 a1 (wrap64 (bt a0 a1)) (wrap64 ((wrap64 ((wrap64 ((wrap64 ((wrap64 ((wrap64 (bt xt_ 0)) * 16777216)) + (wrap64 ((wrap64 (bt xt_ 1)) * 65536)))) + (wrap64 ((wrap64 (bt xt_ 2)) * 256)))) + (wrap64 (bt xt_ 3)))) - 1000000000)) (⟨#[]⟩ : ByteArray)) else (none)) else (none)) else (none)) else (none)) = some (r1, r2, r3, r4) := by rw [if_pos rfl] at H; exact H
            clear H; have H := H1; clear H1
            by_cases c32 : 0 < (xt_.size : Int)
            ·rw [if_pos c32] at H
             have c32b0 : decide (0 < (xt_.size : Int)) = true := zX c32; have c32b1 : decide (0 < xt_.size) = true := zX (by omega); clear c32
             by_cases c34 : 1 < (xt_.size : Int)
             ·rw [if_pos c34] at H
              have c34b0 : decide (1 < (xt_.size : Int)) = true := zX c34; have c34b1 : decide (1 < xt_.size) = true := zX (by omega); clear c34
              by_cases c36 : 2 < (xt_.size : Int)
              ·rw [if_pos c36] at H
               have c36b0 : decide (2 < (xt_.size : Int)) = true := zX c36; have c36b1 : decide (2 < xt_.size) = true := zX (by omega); clear c36
               by_cases c38 : 3 < (xt_.size : Int)
               ·rw [if_pos c38] at H
                have c38b0 : decide (3 < (xt_.size : Int)) = true := zX c38; have c38b1 : decide (3 < xt_.size) = true := zX (by omega); clear c38; have H' := zA H; clear H
                try go_wp2
                have n0_ := zA (zN BK99.out); have n1_ := zA (zN BK355.out); have n2_ := zA (zG HB.out); clear BK99 BK355 HB; have BK99 := n0_; have BK355 := n1_; have HB := n2_; clear n0_ n1_ n2_; have p33 : 0 ≤ (0 : Int) := (by omega); have q33 : 0 < xt_.size := (by have : (0 : Int) < (xt_.size : Int) := zW (by first | (with_reducible assumption) | assumption); omega); have hx33 : ∀ h : 0 < xt_.size, ((xt_[0]'h).toNat : Int) = bt xt_ 0 := bt_at xt_ 0; clear p33; have qi33 : (0 < (xt_.size : Int)) = True := eq_true (zW (by first | (with_reducible assumption) | assumption)); replace q33 := eq_true q33; have p35 : 0 ≤ (1 : Int) := (by omega); have q35 : 1 < xt_.size := (by have : (1 : Int) < (xt_.size : Int) := zW (by first | (with_reducible assumption) | assumption); omega); have hx35 : ∀ h : 1 < xt_.size, ((xt_[1]'h).toNat : Int) = bt xt_ 1 := bt_at xt_ 1; clear p35; have qi35 : (1 < (xt_.size : Int)) = True := eq_true (zW (by first | (with_reducible assumption) | assumption)); replace q35 := eq_true q35; have p37 : 0 ≤ (2 : Int) := (by omega); have q37 : 2 < xt_.size := (by have : (2 : Int) < (xt_.size : Int) := zW (by first | (with_reducible assumption) | assumption); omega); have hx37 : ∀ h : 2 < xt_.size, ((xt_[2]'h).toNat : Int) = bt xt_ 2 := bt_at xt_ 2; clear p37; have qi37 : (2 < (xt_.size : Int)) = True := eq_true (zW (by first | (with_reducible assumption) | assumption)); replace q37 := eq_true q37; have p39 : 0 ≤ (3 : Int) := (by omega); have q39 : 3 < xt_.size := (by have : (3 : Int) < (xt_.size : Int) := zW (by first | (with_reducible assumption) | assumption); omega); have hx39 : ∀ h : 3 < xt_.size, ((xt_[3]'h).toNat : Int) = bt xt_ 3 := bt_at xt_ 3; clear p39; have qi39 : (3 < (xt_.size : Int)) = True := eq_true (zW (by first | (with_reducible assumption) | assumption)); replace q39 := eq_true q39; refine start_ (n := 21) (S := fun w' => True) (ds := []) #[false, false, false, false, false, false, false, false, false, false, false, false, false, false, false, false, false, false, false, false, false] (by kernel_rfl) rfl rfl trivial (fun hHeld => ?_); refine with_tabW spec_l4Read.tab6 spec_l4Read.bits6 (fun HT_ HW_ => ?_); generalize wc.drew = w40 at BK99 BK355 HB hHeld ⊢; refine pure_ (i := 0) (N := some 42) (v := ?_) (a' := ?_) #[true, false, false, false, false, false, false, false, false, false, false, false, false, false, false, false, false, false, false, false, false] rfl rfl (any_of HT_.out (by kernel_rfl)) (fun _ _ _ h => h) (Or.inl ⟨by rfl, ?_⟩) ?_ ?_; rotate_left
                ·intro w'
                 go_simp
                 with_reducible rfl
                rotate_left
                ·simp only [Act.put, zC, zD, zE, i64_w]
                 rfl
                refine pure_ (i := 4) (N := some 46) (v := ?_) (a' := ?_) #[true, false, false, false, true, false, false, false, false, false, false, false, false, false, false, false, false, false, false, false, false] rfl rfl (any_of HT_.out (by kernel_rfl)) (fun _ _ _ h => h) (Or.inl ⟨by rfl, ?_⟩) ?_ ?_; rotate_left
                ·intro w'
                 go_simp
                 with_reducible rfl
                rotate_left
                ·simp only [Act.put, zC, zD, zE, i64_w]
                 rfl
                refine pure_ (i := 9) (N := some 51) (v := ?_) (a' := ?_) #[true, false, false, false, true, false, false, false, false, true, false, false, false, false, false, false, false, false, false, false, false] rfl rfl (any_of HT_.out (by kernel_rfl)) (fun _ _ _ h => h) (Or.inl ⟨by rfl, ?_⟩) ?_ ?_; rotate_left
                ·intro w'
                 go_simp
                 with_reducible rfl
                rotate_left
                ·simp only [Act.put, zC, zD, zE, i64_w]
                 rfl
                refine pure_ (i := 14) (N := some 56) (v := ?_) (a' := ?_) #[true, false, false, false, true, false, false, false, false, true, false, false, false, false, true, false, false, false, false, false, false] rfl rfl (any_of HT_.out (by kernel_rfl)) (fun _ _ _ h => h) (Or.inl ⟨by rfl, ?_⟩) ?_ ?_; rotate_left
                ·intro w'
                 go_simp
                 with_reducible rfl
                rotate_left
                ·simp only [Act.put, zC, zD, zE, i64_w]
                 rfl
                refine take_ (i := 1) (N := some 43) (v := ?_) (a' := ?_) #[true, true, false, false, true, false, false, false, false, true, false, false, false, false, true, false, false, false, false, false, false] rfl rfl (take_ofW HT_.out HW_.out (by kernel_rfl)) (fun _ _ _ h => h) (Or.inl ⟨by rfl, ?_⟩) hHeld ?_ ?_; rotate_left
                ·intro w' _
                 go_simp
                 with_reducible rfl
                rotate_left
                ·simp only [Act.put, zC, zD, zE, i64_w]
                 rfl
                refine pure_ (i := 2) (N := some 44) (v := ?_) (a' := ?_) #[true, true, true, false, true, false, false, false, false, true, false, false, false, false, true, false, false, false, false, false, false] rfl rfl (any_of HT_.out (by kernel_rfl)) (fun _ _ _ h => h) (Or.inl ⟨by rfl, ?_⟩) ?_ ?_; rotate_left
                ·intro w'
                 go_simp
                 with_reducible rfl
                rotate_left
                ·simp only [Act.put, zC, zD, zE, i64_w]
                 rfl
                refine pure_ (i := 3) (N := some 45) (v := ?_) (a' := ?_) #[true, true, true, true, true, false, false, false, false, true, false, false, false, false, true, false, false, false, false, false, false] rfl rfl (any_of HT_.out (by kernel_rfl)) (fun _ _ _ h => h) (Or.inl ⟨by rfl, ?_⟩) ?_ ?_; rotate_left
                ·intro w'
                 go_simp
                 with_reducible rfl
                rotate_left
                ·simp only [Act.put, zC, zD, zE, i64_w]
                 rfl
                refine take_ (i := 5) (N := some 47) (v := ?_) (a' := ?_) #[true, true, true, true, true, true, false, false, false, true, false, false, false, false, true, false, false, false, false, false, false] rfl rfl (take_ofW HT_.out HW_.out (by kernel_rfl)) (fun _ _ _ h => h) (Or.inl ⟨by rfl, ?_⟩) hHeld ?_ ?_; rotate_left
                ·intro w' _
                 go_simp
                 with_reducible rfl
                rotate_left
                ·simp only [Act.put, zC, zD, zE, i64_w]
                 rfl
                refine pure_ (i := 6) (N := some 48) (v := ?_) (a' := ?_) #[true, true, true, true, true, true, true, false, false, true, false, false, false, false, true, false, false, false, false, false, false] rfl rfl (any_of HT_.out (by kernel_rfl)) (fun _ _ _ h => h) (Or.inl ⟨by rfl, ?_⟩) ?_ ?_; rotate_left
                ·intro w'
                 go_simp
                 with_reducible rfl
                rotate_left
                ·simp only [Act.put, zC, zD, zE, i64_w]
                 rfl
                refine pure_ (i := 7) (N := some 49) (v := ?_) (a' := ?_) #[true, true, true, true, true, true, true, true, false, true, false, false, false, false, true, false, false, false, false, false, false] rfl rfl (any_of HT_.out (by kernel_rfl)) (fun _ _ _ h => h) (Or.inl ⟨by rfl, ?_⟩) ?_ ?_; rotate_left
                ·intro w'
                 go_simp
                 with_reducible rfl
                rotate_left
                ·simp only [Act.put, zC, zD, zE, i64_w]
                 rfl
                refine pure_ (i := 8) (N := some 50) (v := ?_) (a' := ?_) #[true, true, true, true, true, true, true, true, true, true, false, false, false, false, true, false, false, false, false, false, false] rfl rfl (any_of HT_.out (by kernel_rfl)) (fun _ _ _ h => h) (Or.inl ⟨by rfl, ?_⟩) ?_ ?_; rotate_left
                ·intro w'
                 go_simp
                 with_reducible rfl
                rotate_left
                ·simp only [Act.put, zC, zD, zE, i64_w]
                 rfl
                refine take_ (i := 10) (N := some 52) (v := ?_) (a' := ?_) #[true, true, true, true, true, true, true, true, true, true, true, false, false, false, true, false, false, false, false, false, false] rfl rfl (take_ofW HT_.out HW_.out (by kernel_rfl)) (fun _ _ _ h => h) (Or.inl ⟨by rfl, ?_⟩) hHeld ?_ ?_; rotate_left
                ·intro w' _
                 go_simp
                 with_reducible rfl
                rotate_left
                ·simp only [Act.put, zC, zD, zE, i64_w]
                 rfl
                refine pure_ (i := 11) (N := some 53) (v := ?_) (a' := ?_) #[true, true, true, true, true, true, true, true, true, true, true, true, false, false, true, false, false, false, false, false, false] rfl rfl (any_of HT_.out (by kernel_rfl)) (fun _ _ _ h => h) (Or.inl ⟨by rfl, ?_⟩) ?_ ?_; rotate_left
                ·intro w'
                 go_simp
                 with_reducible rfl
                rotate_left
                ·simp only [Act.put, zC, zD, zE, i64_w]
                 rfl
                refine pure_ (i := 12) (N := some 54) (v := ?_) (a' := ?_) #[true, true, true, true, true, true, true, true, true, true, true, true, true, false, true, false, false, false, false, false, false] rfl rfl (any_of HT_.out (by kernel_rfl)) (fun _ _ _ h => h) (Or.inl ⟨by rfl, ?_⟩) ?_ ?_; rotate_left
                ·intro w'
                 go_simp
                 with_reducible rfl
                rotate_left
                ·simp only [Act.put, zC, zD, zE, i64_w]
                 rfl
                refine pure_ (i := 13) (N := some 55) (v := ?_) (a' := ?_) #[true, true, true, true, true, true, true, true, true, true, true, true, true, true, true, false, false, false, false, false, false] rfl rfl (any_of HT_.out (by kernel_rfl)) (fun _ _ _ h => h) (Or.inl ⟨by rfl, ?_⟩) ?_ ?_; rotate_left
                ·intro w'
                 go_simp
                 with_reducible rfl
                rotate_left
                ·simp only [Act.put, zC, zD, zE, i64_w]
                 rfl
                refine take_ (i := 15) (N := some 57) (v := ?_) (a' := ?_) #[true, true, true, true, true, true, true, true, true, true, true, true, true, true, true, true, false, false, false, false, false] rfl rfl (take_ofW HT_.out HW_.out (by kernel_rfl)) (fun _ _ _ h => h) (Or.inl ⟨by rfl, ?_⟩) hHeld ?_ ?_; rotate_left
                ·intro w' _
                 go_simp
                 with_reducible rfl
                rotate_left
                ·simp only [Act.put, zC, zD, zE, i64_w]
                 rfl
                refine pure_ (i := 16) (N := some 58) (v := ?_) (a' := ?_) #[true, true, true, true, true, true, true, true, true, true, true, true, true, true, true, true, true, false, false, false, false] rfl rfl (any_of HT_.out (by kernel_rfl)) (fun _ _ _ h => h) (Or.inl ⟨by rfl, ?_⟩) ?_ ?_; rotate_left
                ·intro w'
                 go_simp
                 with_reducible rfl
                rotate_left
                ·simp only [Act.put, zC, zD, zE, i64_w]
                 rfl
                refine pure_ (i := 17) (N := some 59) (v := ?_) (a' := ?_) #[true, true, true, true, true, true, true, true, true, true, true, true, true, true, true, true, true, true, false, false, false] rfl rfl (any_of HT_.out (by kernel_rfl)) (fun _ _ _ h => h) (Or.inl ⟨by rfl, ?_⟩) ?_ ?_; rotate_left
                ·intro w'
                 go_simp
                 with_reducible rfl
                rotate_left
                ·simp only [Act.put, zC, zD, zE, i64_w]
                 rfl
                refine pure_ (i := 18) (N := some 60) (v := ?_) (a' := ?_) #[true, true, true, true, true, true, true, true, true, true, true, true, true, true, true, true, true, true, true, false, false] rfl rfl (any_of HT_.out (by kernel_rfl)) (fun _ _ _ h => h) (Or.inl ⟨by rfl, ?_⟩) ?_ ?_; rotate_left
                ·intro w'
                 go_simp
                 with_reducible rfl
                rotate_left
                ·simp only [Act.put, zC, zD, zE, i64_w]
                 rfl
                refine pure_ (i := 19) (N := some 61) (v := ?_) (a' := ?_) #[true, true, true, true, true, true, true, true, true, true, true, true, true, true, true, true, true, true, true, true, false] rfl rfl (any_of HT_.out (by kernel_rfl)) (fun _ _ _ h => h) (Or.inl ⟨by rfl, ?_⟩) ?_ ?_; rotate_left
                ·intro w'
                 go_simp
                 with_reducible rfl
                rotate_left
                ·simp only [Act.put, zC, zD, zE, i64_w]
                 rfl
                refine one_ (i := 20) (N := none) #[true, true, true, true, true, true, true, true, true, true, true, true, true, true, true, true, true, true, true, true, true] rfl rfl (one_of HT_.out (by kernel_rfl)) (by decide) (fun K hK => ?_); have hs41 : w40.cell? ⟨gb355, 1, none⟩ = some (.int .i64 0) := (zP BK355.out 1).trans rfl; have hfs41 := zO BK355.out 1; have hns41_0 := NB99_355.out; have hms41_0 := NB355_99.out; refine skip_ (w1 := ?_) (by rfl) rfl ?_ ?_; rotate_left
                ·go_simp
                 rfl
                refine hK.out _ _ trivial (fun hHeld => ?_); clear hK K; refine done_ (done_of HT_.out (by kernel_rfl)) ?_
                try go_wp2
                go_meet
                case rel => exact ⟨_, (wrap64 ((wrap64 ((wrap64 ((wrap64 ((wrap64 ((wrap64 (bt xt_ 0)) * 16777216)) + (wrap64 ((wrap64 (bt xt_ 1)) * 65536)))) + (wrap64 ((wrap64 (bt xt_ 2)) * 256)))) + (wrap64 (bt xt_ 3)))) - 1000000000)), ((⟨#[]⟩ : ByteArray)), H', ⟨by have := HJ13.out; have := HJ24.out; first | omega | exact Nat.le_refl _⟩, ⟨by (with_reducible repeat (first | refine zL ?_ _ | refine zN ?_ | refine zM ?_ _)); refine blk_far ?_ NB99_355.out _; (with_reducible repeat (first | refine zL ?_ _ | refine zN ?_ | refine zM ?_ _)); exact BK99.out⟩, ⟨by (with_reducible repeat (first | refine zL ?_ _ | refine zN ?_ | refine zM ?_ _)); refine blk_put (cs := #[.int .i64 (wrap64 (bt a0 a1)), .int .i64 0, .string (⟨#[]⟩ : ByteArray)]) ?_ 1 _ rfl; (with_reducible repeat (first | refine zL ?_ _ | refine zN ?_ | refine zM ?_ _)); exact BK355.out⟩, ⟨by repeat (first | (with_reducible first | exact HB.out | apply zH | apply zF | apply zG | refine zI ?_ GE99.out | refine zI ?_ GE355.out) | exact HB.out)⟩⟩
               ·rw [if_neg c38] at H
                exact absurd H (by simp)
              ·rw [if_neg c36] at H
               exact absurd H (by simp)
             ·rw [if_neg c34] at H
              exact absurd H (by simp)
            ·rw [if_neg c32] at H
             exact absurd H (by simp)
           ·replace c31 := Bool.eq_false_iff.mpr c31
            subst c31; have H1 : (if (wrap64 (bt a0 a1)) = 4 then (spec_l4Read.l0 kj24 a0 a1 xt_ ([] : List Int) 0 (wrap64 (bt a0 a1)) 0 (⟨#[]⟩ : ByteArray)) else (spec_l4Read.j4 kj24 a0 a1 (wrap64 (bt a0 a1)) 0 (⟨#[]⟩ : ByteArray))) = some (r1, r2, r3, r4) := by rw [if_neg (show ¬ (false = true) by decide)] at H; exact H
            clear H; have H := H1; clear H1
            by_cases c42 : (wrap64 (bt a0 a1)) = 4
            ·rw [if_pos c42] at H
             have c42b0 : ((wrap64 (bt a0 a1)) == 4) = true := beq_iff_eq.mpr c42; have c42b1 : ((wrap64 (bt a0 a1)) != 4) = false := bne_eq_false_iff_eq.mpr c42; clear c42; have H' := zA H; clear H; have hnb43 := NB355_99.out; have hnc43 := NB99_355.out; have hcz44_0 : wc.cell? ⟨gb355, 0, none⟩ = some (.int .i64 (wrap64 (bt a0 a1))) := (zP BK355.out 0).trans rfl; have hcz44_1 : wc.cell? ⟨gb355, 1, none⟩ = some (.int .i64 0) := (zP BK355.out 1).trans rfl; have hcz44_2 : wc.cell? ⟨gb355, 2, none⟩ = some (.string (⟨#[]⟩ : ByteArray)) := (zP BK355.out 2).trans rfl; have hfz44_0 := zO BK355.out 0; have hfz44_1 := zO BK355.out 1; have hfz44_2 := zO BK355.out 2; go_wp2; go_loopg [8, 9] kj24 (fun kq v8 v9 w' => ∃ (x8_3 : List Int) (x9_3 : Int), v9 = .int .i64 x9_3 ∧ Aside0 (spec_l4Read.l0 kq a0 a1 xt_ x8_3 x9_3 (wrap64 (bt a0 a1)) 0 (⟨#[]⟩ : ByteArray) = some (r1, r2, r3, r4)) ∧ Aside0 (kq ≤ kj24) ∧ Aside0 (Kd.R (Kd.int .u8) 5 w' w.heap.size (fun _ => True) v8 x8_3) ∧ Aside0 (w'.heap[gb99]? = some (.cells #[.int .i64 0, .int .i64 0, .string (⟨#[]⟩ : ByteArray)] 39 (0, 0))) ∧ Aside0 (w'.heap[gb355]? = some (.cells #[.int .i64 (wrap64 (bt a0 a1)), .int .i64 0, .string (⟨#[]⟩ : ByteArray)] 39 (0, 0))) ∧ Aside0 (Below w.heap.size w w'))
             case atStart => exact ⟨(([] : List Int)), (0), (by first | rfl | (simp; done) | (simp [*]; done) | (simp [bne]; done)), H', ⟨Nat.le_refl _⟩, ⟨by first | exact Kd.R_nil _ _ _ _ _ | exact Kd.N_nil _ _ _ _ _ | exact Kd.V_nil _ _ _ _ _ | exact Kd.Q_nil _ _ _ _ _ | exact Kd.S_nil _ _ _ _ _⟩, ⟨by (with_reducible repeat (first | refine zL ?_ _ | refine zN ?_ | refine zM ?_ _)); exact BK99.out⟩, ⟨by (with_reducible repeat (first | refine zL ?_ _ | refine zN ?_ | refine zM ?_ _)); exact BK355.out⟩, ⟨by repeat (first | (with_reducible first | exact HB.out | apply zH | apply zF | apply zG | refine zI ?_ GE99.out | refine zI ?_ GE355.out) | exact HB.out)⟩⟩
             case round =>
              clear H'
              try clear c1
              try clear c2
              try clear p2
              try clear q2
              try clear hx2
              try clear qi2
              try clear c3
              try clear c3b0
              try clear p3
              try clear q3
              try clear hx3
              try clear qi3
              try clear c4
              try clear c4b0
              try clear p5
              try clear q5
              try clear hx5
              try clear p6
              try clear c7
              try clear c7b0
              try clear c7b1
              try clear c8
              try clear c8b0
              try clear c8b1
              try clear c12
              try clear c15
              try clear c15b0
              try clear c15b1
              try clear c16
              try clear c18
              try clear c20
              try clear c21
              try clear c21b0
              try clear c21b1
              try clear p22
              try clear q22
              try clear hx22
              try clear qi22
              try clear c23
              try clear c26
              try clear c26b0
              try clear c26b1
              try clear c27
              try clear c29
              try clear c31
              try clear c32
              try clear c32b0
              try clear c32b1
              try clear p33
              try clear q33
              try clear hx33
              try clear qi33
              try clear c34
              try clear c34b0
              try clear c34b1
              try clear p35
              try clear q35
              try clear hx35
              try clear qi35
              try clear c36
              try clear c36b0
              try clear c36b1
              try clear p37
              try clear q37
              try clear hx37
              try clear qi37
              try clear c38
              try clear c38b0
              try clear c38b1
              try clear p39
              try clear q39
              try clear hx39
              try clear qi39
              try clear c42
              try clear c42b0
              try clear c42b1
              try clear c43
              try clear hcz13_0
              try clear hcz13_1
              try clear hcz13_2
              try clear hcz17_0
              try clear hcz17_1
              try clear hcz17_2
              try clear hcz19_0
              try clear hcz19_1
              try clear hcz19_2
              try clear hcz24_0
              try clear hcz24_1
              try clear hcz24_2
              try clear hcz28_0
              try clear hcz28_1
              try clear hcz28_2
              try clear hcz30_0
              try clear hcz30_1
              try clear hcz30_2
              try clear hcz44_0
              try clear hcz44_1
              try clear hcz44_2
              try clear hfz13_0
              try clear hfz13_1
              try clear hfz13_2
              try clear hfz17_0
              try clear hfz17_1
              try clear hfz17_2
              try clear hfz19_0
              try clear hfz19_1
              try clear hfz19_2
              try clear hfz24_0
              try clear hfz24_1
              try clear hfz24_2
              try clear hfz28_0
              try clear hfz28_1
              try clear hfz28_2
              try clear hfz30_0
              try clear hfz30_1
              try clear hfz30_2
              try clear hfz44_0
              try clear hfz44_1
              try clear hfz44_2
              try clear p2
              try clear p22
              try clear p33
              try clear p35
              try clear p37
              try clear p39
              try clear p5
              try clear p6
              try clear q2
              try clear q22
              try clear q33
              try clear q35
              try clear q37
              try clear q39
              try clear q5
              obtain ⟨x8_3, x9_3, rfl, HA, HK3, HO_8, BK99, BK355, HB⟩ := hrel
              cases gk with
              | zero => exact absurd HA.out (by simp [spec_l4Read.l0])
              | succ k3 =>
               have H := HA.out; clear HA; simp only [spec_l4Read.l0] at H; have HC45 := zA H; clear H; go_upto_region 10 with (fail)
               (try simp only [hxt_]); go_cut [84] (fun v84 wc => ∃ (kq : Nat) (x84_44 : Bool), v84 = .bool x84_44 ∧ Aside0 (spec_l4Read.j3 kq a0 a1 xt_ x8_3 x9_3 x84_44 (wrap64 (bt a0 a1)) 0 (⟨#[]⟩ : ByteArray) = some (r1, r2, r3, r4)) ∧ Aside0 (kq ≤ k3) ∧ Aside0 (Kd.R (Kd.int .u8) 5 wc w.heap.size (fun _ => True) u8 x8_3) ∧ Aside0 (wc.heap[gb99]? = some (.cells #[.int .i64 0, .int .i64 0, .string (⟨#[]⟩ : ByteArray)] 39 (0, 0))) ∧ Aside0 (wc.heap[gb355]? = some (.cells #[.int .i64 (wrap64 (bt a0 a1)), .int .i64 0, .string (⟨#[]⟩ : ByteArray)] 39 (0, 0))) ∧ Aside0 (Below w.heap.size w wc))
               case first =>
                have H := HC45.out; clear HC45
                by_cases c46 : (wrap64 (x9_3 + 1)) < (xt_.size : Int)
                ·rw [if_pos c46] at H
                 have c46b0 : decide ((wrap64 (x9_3 + 1)) < (xt_.size : Int)) = true := zX c46; clear c46; (first | rw [c46b0] | (simp only [i64_w, i32_w]; rw [c46b0]) | skip)
                 by_cases c47 : 0 ≤ x9_3
                 ·rw [if_pos c47] at H
                  have c47b0 : decide (0 ≤ x9_3) = true := zX c47; clear c47
                  by_cases c48 : x9_3 < (xt_.size : Int)
                  ·rw [if_pos c48] at H
                   have c48b0 : decide (x9_3 < (xt_.size : Int)) = true := zX c48; clear c48
                   by_cases c50 : (bt xt_ x9_3) = 0
                   ·rw [if_pos c50] at H
                    have c50b0 : ((bt xt_ x9_3) == 0) = true := beq_iff_eq.mpr c50; have c50b1 : ((bt xt_ x9_3) != 0) = false := bne_eq_false_iff_eq.mpr c50; clear c50; obtain ⟨ji51, hji51⟩ : ∃ j_ : Int, (wrap64 (x9_3 + 1)) = j_ := ⟨_, rfl⟩; replace H : (if 0 ≤ (ji51) then (spec_l4Read.j3 k3 a0 a1 xt_ x8_3 x9_3 (!((bt xt_ (ji51)) == 0)) (wrap64 (bt a0 a1)) 0 (⟨#[]⟩ : ByteArray)) else (none)) = some (r1, r2, r3, r4) := by first | (rw [hji51] at H; exact H) | (simp only [hji51] at H ⊢; exact H)
                    (try rw [hji51] at c46b0); have hji51w : (IntKind.i64.wrap (x9_3 + 1)) = ji51 := (i64_w _).trans hji51
                    by_cases c52 : 0 ≤ (ji51)
                    ·rw [if_pos c52] at H
                     have c52b0 : decide (0 ≤ (ji51)) = true := zX c52; clear c52; have H' := zA H; clear H; have p49 : 0 ≤ (x9_3 : Int) := zW (by first | (with_reducible assumption) | assumption); have q49 : x9_3 < (xt_.size : Int) := zW (by first | (with_reducible assumption) | assumption); have hx49 := bt_at xt_ x9_3; replace p49 := eq_true p49; replace q49 := eq_true q49; have p53 : 0 ≤ ((ji51) : Int) := zW (by first | (with_reducible assumption) | assumption); have q53 : (ji51) < (xt_.size : Int) := zW (by first | (with_reducible assumption) | assumption); have hx53 := bt_at xt_ (ji51); replace p53 := eq_true p53; replace q53 := eq_true q53; go_wp2; go_meet
                     case rel => exact ⟨_, (!((bt xt_ (ji51)) == 0)), (by first | rfl | (simp; done) | (simp only [← hji6, ← hji51] <;> (first | rfl | simp)) | (simp [*]; done)), H', ⟨by have := HJ13.out; have := HJ24.out; have := HK3.out; first | omega | exact Nat.le_refl _⟩, ⟨by (with_reducible repeat first | apply zQ | apply zR | apply zS); exact HO_8.out⟩, ⟨by (with_reducible repeat (first | refine zL ?_ _ | refine zN ?_ | refine zM ?_ _)); exact BK99.out⟩, ⟨by (with_reducible repeat (first | refine zL ?_ _ | refine zN ?_ | refine zM ?_ _)); exact BK355.out⟩, ⟨by repeat (first | (with_reducible first | exact HB.out | apply zH | apply zF | apply zG | refine zI ?_ GE99.out | refine zI ?_ GE355.out) | exact HB.out)⟩⟩
                    ·rw [if_neg c52] at H
                     exact absurd H (by simp)
                   ·rw [if_neg c50] at H
                    have c50b0 : ((bt xt_ x9_3) == 0) = false := beq_eq_false_iff_ne.mpr c50; have c50b1 : ((bt xt_ x9_3) != 0) = true := bne_iff_ne.mpr c50; have H' := zA H; clear H; have p49 : 0 ≤ (x9_3 : Int) := zW (by first | (with_reducible assumption) | assumption); have q49 : x9_3 < (xt_.size : Int) := zW (by first | (with_reducible assumption) | assumption); have hx49 := bt_at xt_ x9_3; replace p49 := eq_true p49; replace q49 := eq_true q49; go_wp2; go_meet
                    case rel => exact ⟨_, (!false), (by first | rfl | (simp; done) | (simp [*]; done) | (simp [bne]; done)), H', ⟨by have := HJ13.out; have := HJ24.out; have := HK3.out; first | omega | exact Nat.le_refl _⟩, ⟨by (with_reducible repeat first | apply zQ | apply zR | apply zS); exact HO_8.out⟩, ⟨by (with_reducible repeat (first | refine zL ?_ _ | refine zN ?_ | refine zM ?_ _)); exact BK99.out⟩, ⟨by (with_reducible repeat (first | refine zL ?_ _ | refine zN ?_ | refine zM ?_ _)); exact BK355.out⟩, ⟨by repeat (first | (with_reducible first | exact HB.out | apply zH | apply zF | apply zG | refine zI ?_ GE99.out | refine zI ?_ GE355.out) | exact HB.out)⟩⟩
                  ·rw [if_neg c48] at H
                   exact absurd H (by simp)
                 ·rw [if_neg c47] at H
                  exact absurd H (by simp)
                ·rw [if_neg c46] at H
                 have c46b0 : decide ((wrap64 (x9_3 + 1)) < (xt_.size : Int)) = false := decide_eq_false c46; clear c46; (first | rw [c46b0] | (simp only [i64_w, i32_w]; rw [c46b0]) | skip); have H' := zA H; clear H; go_wp2; go_meet
                 case rel => exact ⟨_, (false), (by first | rfl | (simp; done) | (simp [*]; done) | (simp [bne]; done)), H', ⟨by have := HJ13.out; have := HJ24.out; have := HK3.out; first | omega | exact Nat.le_refl _⟩, ⟨by (with_reducible repeat first | apply zQ | apply zR | apply zS); exact HO_8.out⟩, ⟨by (with_reducible repeat (first | refine zL ?_ _ | refine zN ?_ | refine zM ?_ _)); exact BK99.out⟩, ⟨by (with_reducible repeat (first | refine zL ?_ _ | refine zN ?_ | refine zM ?_ _)); exact BK355.out⟩, ⟨by repeat (first | (with_reducible first | exact HB.out | apply zH | apply zF | apply zG | refine zI ?_ GE99.out | refine zI ?_ GE355.out) | exact HB.out)⟩⟩
               case rest =>
                clear HC45
                try clear c1
                try clear c2
                try clear p2
                try clear q2
                try clear hx2
                try clear qi2
                try clear c3
                try clear c3b0
                try clear p3
                try clear q3
                try clear hx3
                try clear qi3
                try clear c4
                try clear c4b0
                try clear p4
                try clear q4
                try clear hx4
                try clear c5
                try clear p5
                try clear q5
                try clear hx5
                try clear p6
                try clear c7
                try clear c7b0
                try clear c7b1
                try clear c8
                try clear c8b0
                try clear c8b1
                try clear c12
                try clear c15
                try clear c15b0
                try clear c15b1
                try clear c16
                try clear c18
                try clear c20
                try clear c21
                try clear c21b0
                try clear c21b1
                try clear p22
                try clear q22
                try clear hx22
                try clear qi22
                try clear c23
                try clear c26
                try clear c26b0
                try clear c26b1
                try clear c27
                try clear c29
                try clear c31
                try clear c32
                try clear c32b0
                try clear c32b1
                try clear p33
                try clear q33
                try clear hx33
                try clear qi33
                try clear c34
                try clear c34b0
                try clear c34b1
                try clear p35
                try clear q35
                try clear hx35
                try clear qi35
                try clear c36
                try clear c36b0
                try clear c36b1
                try clear p37
                try clear q37
                try clear hx37
                try clear qi37
                try clear c38
                try clear c38b0
                try clear c38b1
                try clear p39
                try clear q39
                try clear hx39
                try clear qi39
                try clear c42
                try clear c42b0
                try clear c42b1
                try clear c43
                try clear c46
                try clear c46b0
                try clear c47
                try clear c47b0
                try clear c48
                try clear c48b0
                try clear p49
                try clear q49
                try clear hx49
                try clear c50
                try clear c50b0
                try clear c50b1
                try clear c52
                try clear c52b0
                try clear p53
                try clear q53
                try clear hx53
                try clear hcz13_0
                try clear hcz13_1
                try clear hcz13_2
                try clear hcz17_0
                try clear hcz17_1
                try clear hcz17_2
                try clear hcz19_0
                try clear hcz19_1
                try clear hcz19_2
                try clear hcz24_0
                try clear hcz24_1
                try clear hcz24_2
                try clear hcz28_0
                try clear hcz28_1
                try clear hcz28_2
                try clear hcz30_0
                try clear hcz30_1
                try clear hcz30_2
                try clear hcz44_0
                try clear hcz44_1
                try clear hcz44_2
                try clear hfz13_0
                try clear hfz13_1
                try clear hfz13_2
                try clear hfz17_0
                try clear hfz17_1
                try clear hfz17_2
                try clear hfz19_0
                try clear hfz19_1
                try clear hfz19_2
                try clear hfz24_0
                try clear hfz24_1
                try clear hfz24_2
                try clear hfz28_0
                try clear hfz28_1
                try clear hfz28_2
                try clear hfz30_0
                try clear hfz30_1
                try clear hfz30_2
                try clear hfz44_0
                try clear hfz44_1
                try clear hfz44_2
                try clear p2
                try clear p22
                try clear p3
                try clear p33
                try clear p35
                try clear p37
                try clear p39
                try clear p49
                try clear p5
                try clear p53
                try clear p6
                try clear q2
                try clear q22
                try clear q3
                try clear q33
                try clear q35
                try clear q37
                try clear q39
                try clear q49
                try clear q5
                try clear q53
                obtain ⟨kq, x84_44, rfl, HA, HJ44, HO_8, BK99, BK355, HB⟩ := hcut
                cases kq with
                | zero => exact absurd HA.out (by simp [spec_l4Read.j3])
                | succ kj44 =>
                 have H := HA.out; clear HA; simp only [spec_l4Read.j3] at H
                 by_cases c54 : x84_44 = true
                 ·subst c54
                  have H1 : (if 0 ≤ x9_3 then (if x9_3 < (xt_.size : Int) then (if x8_3.length < 140737488355328 then ((some (x8_3 ++ [bt xt_ x9_3] : List Int)).bind fun y356 => (if (bt xt_ x9_3) = 0 then (spec_l4Read.l0 kj44 a0 a1 xt_ y356 (wrap64 ((wrap64 (x9_3 + 1)) + 1)) (wrap64 (bt a0 a1)) 0 (⟨#[]⟩ : ByteArray)) else (spec_l4Read.l0 kj44 a0 a1 xt_ y356 (wrap64 (x9_3 + 1)) (wrap64 (bt a0 a1)) 0 (⟨#[]⟩ : ByteArray)))) else (none)) else (none)) else (none)) = some (r1, r2, r3, r4) := by rw [if_pos rfl] at H; exact H
                  clear H; have H := H1; clear H1
                  by_cases c55 : 0 ≤ x9_3
                  ·rw [if_pos c55] at H
                   have c55b0 : decide (0 ≤ x9_3) = true := zX c55; clear c55
                   by_cases c56 : x9_3 < (xt_.size : Int)
                   ·rw [if_pos c56] at H
                    have c56b0 : decide (x9_3 < (xt_.size : Int)) = true := zX c56; clear c56
                    by_cases c58 : x8_3.length < 140737488355328
                    ·rw [if_pos c58] at H
                     have LMc58 := zA c58; clear c58; obtain ⟨y356, hy356⟩ : ∃ y_ : List Int, y_ = (x8_3 ++ [bt xt_ x9_3]) := ⟨_, rfl⟩; replace H : (if (bt xt_ x9_3) = 0 then (spec_l4Read.l0 kj44 a0 a1 xt_ y356 (wrap64 ((wrap64 (x9_3 + 1)) + 1)) (wrap64 (bt a0 a1)) 0 (⟨#[]⟩ : ByteArray)) else (spec_l4Read.l0 kj44 a0 a1 xt_ y356 (wrap64 (x9_3 + 1)) (wrap64 (bt a0 a1)) 0 (⟨#[]⟩ : ByteArray))) = some (r1, r2, r3, r4) := by first | (rw [hy356]; with_reducible exact H) | (have H2_ := (Option.bind_some _ _).symm.trans H; rw [hy356]; with_reducible exact H2_) | (have H2_ := (Option.bind_some _ _).symm.trans H; with_reducible exact H2_) | with_reducible exact H | (rw [hy356]; exact H) | exact H
                     have Ny356 := zA hy356; clear hy356
                     by_cases c60 : (bt xt_ x9_3) = 0
                     ·rw [if_pos c60] at H
                      have c60b0 : ((bt xt_ x9_3) == 0) = true := beq_iff_eq.mpr c60; have c60b1 : ((bt xt_ x9_3) != 0) = false := bne_eq_false_iff_eq.mpr c60; clear c60; have H' := zA H; clear H; have p57 : 0 ≤ (x9_3 : Int) := zW (by first | (with_reducible assumption) | assumption); have q57 : x9_3 < (xt_.size : Int) := zW (by first | (with_reducible assumption) | assumption); have hx57 := bt_at xt_ x9_3; replace p57 := eq_true p57; replace q57 := eq_true q57; go_wp2_with (first | ((with_reducible refine gate_builtin (b := .append) (xs := #[.tmp 87, .tmp 91]) rfl ?_); (try (refine gate_guard (by rfl) ?_; dsimp only)); at_builtin; refine Kd.R_append (Kd.int .u8) (w0 := w) w.heap.size rfl (.tmp 87) (.tmp 91) 22 5 (.int .u8 0) 1 rfl Tryd.underlying22 info5 rfl (by decide) (by omega) u8 x8_3 (bt xt_ x9_3) [.int .u8 (bt xt_ x9_3)] (fun _ => True) (fun _ => False) rfl rfl ?aP (fun _ hk => hk.elim) ?aF ?aO ?aB ?aS ?aL ?_; (case aP => exact rfl); (case aB => exact (by repeat (first | (with_reducible first | exact HB.out | apply zH | apply zF | apply zG | refine zI ?_ GE99.out | refine zI ?_ GE355.out) | exact HB.out))); (case aF => exact (fun _ _ => trivial)); (case aO => exact (by (with_reducible repeat first | apply zQ | apply zR | apply zS); exact HO_8.out)); (case aS => exact (zAE (by repeat (first | (with_reducible first | exact HB.out | apply zH | apply zF | apply zG | refine zI ?_ GE99.out | refine zI ?_ GE355.out) | exact HB.out)))); (case aL => have := LMc58.out; omega); intro v357 w61 ho hb hg hat; rw [← Ny356.out] at ho; have n0_ := zA (blk_grown (g := gb99) (o := .cells #[.int .i64 0, .int .i64 0, .string (⟨#[]⟩ : ByteArray)] 39 (0, 0)) (by (with_reducible repeat (first | refine zL ?_ _ | refine zN ?_ | refine zM ?_ _)); exact BK99.out) hg (Kd.R_ne HO_8.out BK99.out (by decide))); have n1_ := zA (blk_grown (g := gb355) (o := .cells #[.int .i64 (wrap64 (bt a0 a1)), .int .i64 0, .string (⟨#[]⟩ : ByteArray)] 39 (0, 0)) (by (with_reducible repeat (first | refine zL ?_ _ | refine zN ?_ | refine zM ?_ _)); exact BK355.out) hg (Kd.R_ne HO_8.out BK355.out (by decide))); have n2_ := zA (hb); have n3_ := zA (ho); clear BK99; clear BK355; clear HB; clear HO_8; have BK99 := n0_; have BK355 := n1_; have HB := n2_; have HO358 := n3_; clear n0_ n1_ n2_ n3_; clear ho hb hg hat; have p59 : 0 ≤ (x9_3 : Int) := zW (by first | (with_reducible assumption) | assumption); have q59 : x9_3 < (xt_.size : Int) := zW (by first | (with_reducible assumption) | assumption); have hx59 := bt_at xt_ x9_3; replace p59 := eq_true p59; replace q59 := eq_true q59)); go_roundg kj44
                      case measure => have := HJ13.out; have := HJ24.out; have := HK3.out; have := HJ44.out; omega
                      case rel => exact ⟨(y356), (wrap64 ((wrap64 (x9_3 + 1)) + 1)), (by first | rfl | (simp; done) | (simp [*]; done) | (simp [bne]; done)), H', ⟨by have := HJ13.out; have := HJ24.out; have := HK3.out; have := HJ44.out; omega⟩, ⟨by (with_reducible repeat first | apply zQ | apply zR | apply zS); exact HO358.out⟩, ⟨by (with_reducible repeat (first | refine zL ?_ _ | refine zN ?_ | refine zM ?_ _)); exact BK99.out⟩, ⟨by (with_reducible repeat (first | refine zL ?_ _ | refine zN ?_ | refine zM ?_ _)); exact BK355.out⟩, ⟨by repeat (first | (with_reducible first | exact HB.out | apply zH | apply zF | apply zG | refine zI ?_ GE99.out | refine zI ?_ GE355.out) | exact HB.out)⟩⟩
                     ·rw [if_neg c60] at H
                      have c60b0 : ((bt xt_ x9_3) == 0) = false := beq_eq_false_iff_ne.mpr c60; have c60b1 : ((bt xt_ x9_3) != 0) = true := bne_iff_ne.mpr c60; have H' := zA H; clear H; have p57 : 0 ≤ (x9_3 : Int) := zW (by first | (with_reducible assumption) | assumption); have q57 : x9_3 < (xt_.size : Int) := zW (by first | (with_reducible assumption) | assumption); have hx57 := bt_at xt_ x9_3; replace p57 := eq_true p57; replace q57 := eq_true q57; go_wp2_with (first | ((with_reducible refine gate_builtin (b := .append) (xs := #[.tmp 87, .tmp 91]) rfl ?_); (try (refine gate_guard (by rfl) ?_; dsimp only)); at_builtin; refine Kd.R_append (Kd.int .u8) (w0 := w) w.heap.size rfl (.tmp 87) (.tmp 91) 22 5 (.int .u8 0) 1 rfl Tryd.underlying22 info5 rfl (by decide) (by omega) u8 x8_3 (bt xt_ x9_3) [.int .u8 (bt xt_ x9_3)] (fun _ => True) (fun _ => False) rfl rfl ?aP (fun _ hk => hk.elim) ?aF ?aO ?aB ?aS ?aL ?_; (case aP => exact rfl); (case aB => exact (by repeat (first | (with_reducible first | exact HB.out | apply zH | apply zF | apply zG | refine zI ?_ GE99.out | refine zI ?_ GE355.out) | exact HB.out))); (case aF => exact (fun _ _ => trivial)); (case aO => exact (by (with_reducible repeat first | apply zQ | apply zR | apply zS); exact HO_8.out)); (case aS => exact (zAE (by repeat (first | (with_reducible first | exact HB.out | apply zH | apply zF | apply zG | refine zI ?_ GE99.out | refine zI ?_ GE355.out) | exact HB.out)))); (case aL => have := LMc58.out; omega); intro v357 w62 ho hb hg hat; rw [← Ny356.out] at ho; have n0_ := zA (blk_grown (g := gb99) (o := .cells #[.int .i64 0, .int .i64 0, .string (⟨#[]⟩ : ByteArray)] 39 (0, 0)) (by (with_reducible repeat (first | refine zL ?_ _ | refine zN ?_ | refine zM ?_ _)); exact BK99.out) hg (Kd.R_ne HO_8.out BK99.out (by decide))); have n1_ := zA (blk_grown (g := gb355) (o := .cells #[.int .i64 (wrap64 (bt a0 a1)), .int .i64 0, .string (⟨#[]⟩ : ByteArray)] 39 (0, 0)) (by (with_reducible repeat (first | refine zL ?_ _ | refine zN ?_ | refine zM ?_ _)); exact BK355.out) hg (Kd.R_ne HO_8.out BK355.out (by decide))); have n2_ := zA (hb); have n3_ := zA (ho); clear BK99; clear BK355; clear HB; clear HO_8; have BK99 := n0_; have BK355 := n1_; have HB := n2_; have HO358 := n3_; clear n0_ n1_ n2_ n3_; clear ho hb hg hat; have p59 : 0 ≤ (x9_3 : Int) := zW (by first | (with_reducible assumption) | assumption); have q59 : x9_3 < (xt_.size : Int) := zW (by first | (with_reducible assumption) | assumption); have hx59 := bt_at xt_ x9_3; replace p59 := eq_true p59; replace q59 := eq_true q59)); go_roundg kj44
                      case measure => have := HJ13.out; have := HJ24.out; have := HK3.out; have := HJ44.out; omega
                      case rel => exact ⟨(y356), (wrap64 (x9_3 + 1)), (by first | rfl | (simp; done) | (simp [*]; done) | (simp [bne]; done)), H', ⟨by have := HJ13.out; have := HJ24.out; have := HK3.out; have := HJ44.out; omega⟩, ⟨by (with_reducible repeat first | apply zQ | apply zR | apply zS); exact HO358.out⟩, ⟨by (with_reducible repeat (first | refine zL ?_ _ | refine zN ?_ | refine zM ?_ _)); exact BK99.out⟩, ⟨by (with_reducible repeat (first | refine zL ?_ _ | refine zN ?_ | refine zM ?_ _)); exact BK355.out⟩, ⟨by repeat (first | (with_reducible first | exact HB.out | apply zH | apply zF | apply zG | refine zI ?_ GE99.out | refine zI ?_ GE355.out) | exact HB.out)⟩⟩
                    ·rw [if_neg c58] at H
                     exact absurd H (by simp)
                   ·rw [if_neg c56] at H
                    exact absurd H (by simp)
                  ·rw [if_neg c55] at H
                   exact absurd H (by simp)
                 ·replace c54 := Bool.eq_false_iff.mpr c54
                  subst c54; have H1 : (spec_l4Read.j4 kj44 a0 a1 (wrap64 (bt a0 a1)) 0 (strOfNums x8_3)) = some (r1, r2, r3, r4) := by rw [if_neg (show ¬ (false = true) by decide)] at H; exact H
                  clear H; have H := H1; clear H1; have H' := zA H; clear H; have hcv63 := own_string (P := Tryd.prog) Tryd.underlying22 Tryd.underlying5 Tryd.underlying9 (Kd.own_of_R HO_8.out); have hnb64 := NB355_99.out; have hnc64 := NB99_355.out; have hcz65_0 : wc.cell? ⟨gb355, 0, none⟩ = some (.int .i64 (wrap64 (bt a0 a1))) := (zP BK355.out 0).trans rfl; have hcz65_1 : wc.cell? ⟨gb355, 1, none⟩ = some (.int .i64 0) := (zP BK355.out 1).trans rfl; have hcz65_2 : wc.cell? ⟨gb355, 2, none⟩ = some (.string (⟨#[]⟩ : ByteArray)) := (zP BK355.out 2).trans rfl; have hfz65_0 := zO BK355.out 0; have hfz65_1 := zO BK355.out 1; have hfz65_2 := zO BK355.out 2; go_wp2; go_meet
                  case rel => exact ⟨_, (0), (strOfNums x8_3), H', ⟨by have := HJ13.out; have := HJ24.out; have := HK3.out; have := HJ44.out; first | omega | exact Nat.le_refl _⟩, ⟨by (with_reducible repeat (first | refine zL ?_ _ | refine zN ?_ | refine zM ?_ _)); refine blk_far ?_ NB99_355.out _; (with_reducible repeat (first | refine zL ?_ _ | refine zN ?_ | refine zM ?_ _)); exact BK99.out⟩, ⟨by (with_reducible repeat (first | refine zL ?_ _ | refine zN ?_ | refine zM ?_ _)); refine blk_put (cs := #[.int .i64 (wrap64 (bt a0 a1)), .int .i64 0, .string (⟨#[]⟩ : ByteArray)]) ?_ 2 _ rfl; (with_reducible repeat (first | refine zL ?_ _ | refine zN ?_ | refine zM ?_ _)); exact BK355.out⟩, ⟨by repeat (first | (with_reducible first | exact HB.out | apply zH | apply zF | apply zG | refine zI ?_ GE99.out | refine zI ?_ GE355.out) | exact HB.out)⟩⟩
            ·rw [if_neg c42] at H
             have c42b0 : ((wrap64 (bt a0 a1)) == 4) = false := beq_eq_false_iff_ne.mpr c42; have c42b1 : ((wrap64 (bt a0 a1)) != 4) = true := bne_iff_ne.mpr c42; have H' := zA H; clear H; have hnb66 := NB355_99.out; have hnc66 := NB99_355.out; have hcz67_0 : wc.cell? ⟨gb355, 0, none⟩ = some (.int .i64 (wrap64 (bt a0 a1))) := (zP BK355.out 0).trans rfl; have hcz67_1 : wc.cell? ⟨gb355, 1, none⟩ = some (.int .i64 0) := (zP BK355.out 1).trans rfl; have hcz67_2 : wc.cell? ⟨gb355, 2, none⟩ = some (.string (⟨#[]⟩ : ByteArray)) := (zP BK355.out 2).trans rfl; have hfz67_0 := zO BK355.out 0; have hfz67_1 := zO BK355.out 1; have hfz67_2 := zO BK355.out 2; go_wp2; go_meet
             case rel => exact ⟨_, (0), ((⟨#[]⟩ : ByteArray)), H', ⟨by have := HJ13.out; have := HJ24.out; first | omega | exact Nat.le_refl _⟩, ⟨by (with_reducible repeat (first | refine zL ?_ _ | refine zN ?_ | refine zM ?_ _)); exact BK99.out⟩, ⟨by (with_reducible repeat (first | refine zL ?_ _ | refine zN ?_ | refine zM ?_ _)); exact BK355.out⟩, ⟨by repeat (first | (with_reducible first | exact HB.out | apply zH | apply zF | apply zG | refine zI ?_ GE99.out | refine zI ?_ GE355.out) | exact HB.out)⟩⟩
     case rest =>
      clear HC9
      try clear c1
      try clear c2
      try clear p2
      try clear q2
      try clear hx2
      try clear qi2
      try clear c3
      try clear c3b0
      try clear p3
      try clear q3
      try clear hx3
      try clear qi3
      try clear c4
      try clear c4b0
      try clear p4
      try clear q4
      try clear hx4
      try clear c5
      try clear p5
      try clear q5
      try clear hx5
      try clear c6
      try clear p6
      try clear hcv6
      try clear c7
      try clear c7b0
      try clear c7b1
      try clear c8
      try clear c8b0
      try clear c8b1
      try clear c12
      try clear c15
      try clear c15b0
      try clear c15b1
      try clear c16
      try clear c18
      try clear c20
      try clear c21
      try clear c21b0
      try clear c21b1
      try clear p22
      try clear q22
      try clear hx22
      try clear qi22
      try clear c23
      try clear c26
      try clear c26b0
      try clear c26b1
      try clear c27
      try clear c29
      try clear c31
      try clear c32
      try clear c32b0
      try clear c32b1
      try clear p33
      try clear q33
      try clear hx33
      try clear qi33
      try clear c34
      try clear c34b0
      try clear c34b1
      try clear p35
      try clear q35
      try clear hx35
      try clear qi35
      try clear c36
      try clear c36b0
      try clear c36b1
      try clear p37
      try clear q37
      try clear hx37
      try clear qi37
      try clear c38
      try clear c38b0
      try clear c38b1
      try clear p39
      try clear q39
      try clear hx39
      try clear qi39
      try clear c42
      try clear c42b0
      try clear c42b1
      try clear c43
      try clear c46
      try clear c46b0
      try clear c47
      try clear c47b0
      try clear c48
      try clear c48b0
      try clear p49
      try clear q49
      try clear hx49
      try clear c50
      try clear c50b0
      try clear c50b1
      try clear c52
      try clear c52b0
      try clear p53
      try clear q53
      try clear hx53
      try clear c54
      try clear c55
      try clear c55b0
      try clear c56
      try clear c56b0
      try clear p57
      try clear q57
      try clear hx57
      try clear c58
      try clear p59
      try clear q59
      try clear hx59
      try clear c60
      try clear c60b0
      try clear c60b1
      try clear hcv63
      try clear c64
      try clear p64
      try clear c66
      try clear hcz13_0
      try clear hcz13_1
      try clear hcz13_2
      try clear hcz17_0
      try clear hcz17_1
      try clear hcz17_2
      try clear hcz19_0
      try clear hcz19_1
      try clear hcz19_2
      try clear hcz24_0
      try clear hcz24_1
      try clear hcz24_2
      try clear hcz28_0
      try clear hcz28_1
      try clear hcz28_2
      try clear hcz30_0
      try clear hcz30_1
      try clear hcz30_2
      try clear hcz44_0
      try clear hcz44_1
      try clear hcz44_2
      try clear hcz65_0
      try clear hcz65_1
      try clear hcz65_2
      try clear hcz67_0
      try clear hcz67_1
      try clear hcz67_2
      try clear hfz13_0
      try clear hfz13_1
      try clear hfz13_2
      try clear hfz17_0
      try clear hfz17_1
      try clear hfz17_2
      try clear hfz19_0
      try clear hfz19_1
      try clear hfz19_2
      try clear hfz24_0
      try clear hfz24_1
      try clear hfz24_2
      try clear hfz28_0
      try clear hfz28_1
      try clear hfz28_2
      try clear hfz30_0
      try clear hfz30_1
      try clear hfz30_2
      try clear hfz44_0
      try clear hfz44_1
      try clear hfz44_2
      try clear hfz65_0
      try clear hfz65_1
      try clear hfz65_2
      try clear hfz67_0
      try clear hfz67_1
      try clear hfz67_2
      try clear p2
      try clear p22
      try clear p3
      try clear p33
      try clear p35
      try clear p37
      try clear p39
      try clear p4
      try clear p49
      try clear p5
      try clear p53
      try clear p57
      try clear p59
      try clear p6
      try clear q2
      try clear q22
      try clear q3
      try clear q33
      try clear q35
      try clear q37
      try clear q39
      try clear q4
      try clear q49
      try clear q5
      try clear q53
      try clear q57
      try clear q59
      obtain ⟨kq, x356001_8, x356002_8, HA, HJ8, BK99, BK355, HB⟩ := hcut
      cases kq with
      | zero => exact absurd HA.out (by simp [spec_l4Read.j4])
      | succ kj8 =>
       have H := HA.out; clear HA; simp only [spec_l4Read.j4] at H; replace H := zAF H; obtain ⟨t359, A680, H⟩ := H; replace H : (if t359 = true then ((spec_l4Bytes.f kj8 (wrap64 (bt a0 a1)) x356001_8 x356002_8).bind fun t360 => (if (a0.size : Int) < (wrap64 (a1 + (t360.size : Int))) then (some (0, 0, (⟨#[]⟩ : ByteArray), (-1))) else (if 0 ≤ a1 then (if a1 ≤ (wrap64 (a1 + (t360.size : Int))) then (if (wrap64 (a1 + (t360.size : Int))) ≤ (a0.size : Int) then (if (a0.extract (a1 : Int).toNat ((wrap64 (a1 + (t360.size : Int))) : Int).toNat).toList = t360.toList then (some ((wrap64 (bt a0 a1)), x356001_8, x356002_8, wrap64 (a1 + (t360.size : Int)))) else (some (0, 0, (⟨#[]⟩ : ByteArray), (-1)))) else (none)) else (none)) else (none)))) else (some (0, 0, (⟨#[]⟩ : ByteArray), (-1)))) = some (r1, r2, r3, r4) := H; have A68 := zA A680; clear A680
       by_cases c69 : t359 = true
       ·subst c69
        have H1 : ((spec_l4Bytes.f kj8 (wrap64 (bt a0 a1)) x356001_8 x356002_8).bind fun t360 => (if (a0.size : Int) < (wrap64 (a1 + (t360.size : Int))) then (some (0, 0, (⟨#[]⟩ : ByteArray), (-1))) else (if 0 ≤ a1 then (if a1 ≤ (wrap64 (a1 + (t360.size : Int))) then (if (wrap64 (a1 + (t360.size : Int))) ≤ (a0.size : Int) then (if (a0.extract (a1 : Int).toNat ((wrap64 (a1 + (t360.size : Int))) : Int).toNat).toList = t360.toList then (some ((wrap64 (bt a0 a1)), x356001_8, x356002_8, wrap64 (a1 + (t360.size : Int)))) else (some (0, 0, (⟨#[]⟩ : ByteArray), (-1)))) else (none)) else (none)) else (none)))) = some (r1, r2, r3, r4) := by rw [if_pos rfl] at H; exact H
        clear H; have H := H1; clear H1; replace H := zAF H; obtain ⟨t360, A700, H⟩ := H; replace H : (if (a0.size : Int) < (wrap64 (a1 + (t360.size : Int))) then (some (0, 0, (⟨#[]⟩ : ByteArray), (-1))) else (if 0 ≤ a1 then (if a1 ≤ (wrap64 (a1 + (t360.size : Int))) then (if (wrap64 (a1 + (t360.size : Int))) ≤ (a0.size : Int) then (if (a0.extract (a1 : Int).toNat ((wrap64 (a1 + (t360.size : Int))) : Int).toNat).toList = t360.toList then (some ((wrap64 (bt a0 a1)), x356001_8, x356002_8, wrap64 (a1 + (t360.size : Int)))) else (some (0, 0, (⟨#[]⟩ : ByteArray), (-1)))) else (none)) else (none)) else (none))) = some (r1, r2, r3, r4) := H; have A70 := zA A700; clear A700
        by_cases c71 : (a0.size : Int) < (wrap64 (a1 + (t360.size : Int)))
        ·rw [if_pos c71] at H
         have c71b0 : decide ((a0.size : Int) < (wrap64 (a1 + (t360.size : Int)))) = true := zX c71; clear c71; simp only [Option.some.injEq, Prod.mk.injEq] at H; obtain ⟨rfl, rfl, rfl, rfl⟩ := H; have hnb72 := NB355_99.out; have hnc72 := NB99_355.out; have hcz73_0 : wc.cell? ⟨gb355, 0, none⟩ = some (.int .i64 (wrap64 (bt a0 a1))) := (zP BK355.out 0).trans rfl; have hcz73_1 : wc.cell? ⟨gb355, 1, none⟩ = some (.int .i64 x356001_8) := (zP BK355.out 1).trans rfl; have hcz73_2 : wc.cell? ⟨gb355, 2, none⟩ = some (.string x356002_8) := (zP BK355.out 2).trans rfl; have hfz73_0 := zO BK355.out 0; have hfz73_1 := zO BK355.out 1; have hfz73_2 := zO BK355.out 2; go_wp2_with (first | ((with_reducible refine yB (f := 42) rfl ?_); refine goesL_ (some 103) rfl rfl Tryd.func42 (by kernel_rfl) rfl #[.agg #[.int .i64 (wrap64 (bt a0 a1)), .int .i64 x356001_8, .string x356002_8]] rfl (by (try simp only [zAA, zAB, zAC]); first | done | rfl) ?_; (with_reducible refine (spec_GoodValue.calls (wrap64 (bt a0 a1)) x356001_8 x356002_8 true _ A68.out).mono ?_); rintro e w74 ⟨rfl, hb⟩; refine ⟨_, rfl, ?_⟩; have n0_ := zA (yE (g := gb99) (o := .cells #[.int .i64 0, .int .i64 0, .string (⟨#[]⟩ : ByteArray)] 39 (0, 0)) (by (with_reducible repeat (first | refine zL ?_ _ | refine zN ?_ | refine zM ?_ _)); exact BK99.out) hb); have n1_ := zA (yE (g := gb355) (o := .cells #[.int .i64 (wrap64 (bt a0 a1)), .int .i64 x356001_8, .string x356002_8] 39 (0, 0)) (by (with_reducible repeat (first | refine zL ?_ _ | refine zN ?_ | refine zM ?_ _)); exact BK355.out) hb); have n2_ := zA (zAD (by repeat (first | (with_reducible first | exact HB.out | apply zH | apply zF | apply zG | refine zI ?_ GE99.out | refine zI ?_ GE355.out) | exact HB.out)) hb); clear BK99; clear BK355; clear HB; have BK99 := n0_; have BK355 := n1_; have HB := n2_; clear n0_ n1_ n2_; (try clear hb); have hcz75_0 : w74.cell? ⟨gb355, 0, none⟩ = some (.int .i64 (wrap64 (bt a0 a1))) := (zP BK355.out 0).trans rfl; have hcz75_1 : w74.cell? ⟨gb355, 1, none⟩ = some (.int .i64 x356001_8) := (zP BK355.out 1).trans rfl; have hcz75_2 : w74.cell? ⟨gb355, 2, none⟩ = some (.string x356002_8) := (zP BK355.out 2).trans rfl; have hfz75_0 := zO BK355.out 0; have hfz75_1 := zO BK355.out 1; have hfz75_2 := zO BK355.out 2) | ((with_reducible refine yB (f := 48) rfl ?_); refine goesL_ (some 107) rfl rfl Tryd.func48 (by kernel_rfl) rfl #[.agg #[.int .i64 (wrap64 (bt a0 a1)), .int .i64 x356001_8, .string x356002_8]] rfl (by (try simp only [zAA, zAB, zAC]); first | done | rfl) ?_; (with_reducible refine (spec_l4Bytes.calls kj8 (wrap64 (bt a0 a1)) x356001_8 x356002_8 t360 _ A70.out).mono ?_); rintro e w76 ⟨rfl, hb⟩; refine ⟨_, rfl, ?_⟩; have n0_ := zA (yE (g := gb99) (o := .cells #[.int .i64 0, .int .i64 0, .string (⟨#[]⟩ : ByteArray)] 39 (0, 0)) (by (with_reducible repeat (first | refine zL ?_ _ | refine zN ?_ | refine zM ?_ _)); exact BK99.out) hb); have n1_ := zA (yE (g := gb355) (o := .cells #[.int .i64 (wrap64 (bt a0 a1)), .int .i64 x356001_8, .string x356002_8] 39 (0, 0)) (by (with_reducible repeat (first | refine zL ?_ _ | refine zN ?_ | refine zM ?_ _)); exact BK355.out) hb); have n2_ := zA (zAD (by repeat (first | (with_reducible first | exact HB.out | apply zH | apply zF | apply zG | refine zI ?_ GE99.out | refine zI ?_ GE355.out) | exact HB.out)) hb); clear BK99; clear BK355; clear HB; have BK99 := n0_; have BK355 := n1_; have HB := n2_; clear n0_ n1_ n2_; (try clear hb); have hcz77_0 : w76.cell? ⟨gb99, 0, none⟩ = some (.int .i64 0) := (zP BK99.out 0).trans rfl; have hcz77_1 : w76.cell? ⟨gb99, 1, none⟩ = some (.int .i64 0) := (zP BK99.out 1).trans rfl; have hcz77_2 : w76.cell? ⟨gb99, 2, none⟩ = some (.string (⟨#[]⟩ : ByteArray)) := (zP BK99.out 2).trans rfl; have hfz77_0 := zO BK99.out 0; have hfz77_1 := zO BK99.out 1; have hfz77_2 := zO BK99.out 2)); refine bodyPost_ret (results_ct rfl _ _ gb99 39 #[.int .i64 0, .int .i64 0, .string (⟨#[]⟩ : ByteArray)] (0, 0) _ rfl (by (with_reducible repeat (first | refine zL ?_ _ | refine zN ?_ | refine zM ?_ _)); refine blk_put (cs := #[.int .i64 0, .int .i64 0, .string (⟨#[]⟩ : ByteArray)]) ?_ 2 _ rfl; (with_reducible repeat (first | refine zL ?_ _ | refine zN ?_ | refine zM ?_ _)); refine blk_put (cs := #[.int .i64 0, .int .i64 0, .string (⟨#[]⟩ : ByteArray)]) ?_ 1 _ rfl; (with_reducible repeat (first | refine zL ?_ _ | refine zN ?_ | refine zM ?_ _)); refine blk_put (cs := #[.int .i64 0, .int .i64 0, .string (⟨#[]⟩ : ByteArray)]) ?_ 0 _ rfl; (with_reducible repeat (first | refine zL ?_ _ | refine zN ?_ | refine zM ?_ _)); exact BK99.out) Tryd.underlying39 rfl (by kernel_rfl)) rfl ?_; exact ⟨by first | rfl | (simp [errW_none, errW_some] <;> rfl) | (simp only [← hji6]; first | rfl | (simp [errW_none, errW_some] <;> rfl)) | (simp [*, errW_none, errW_some] <;> rfl), by repeat (first | (with_reducible first | exact HB.out | apply zH | apply zF | apply zG | refine zI ?_ GE99.out | refine zI ?_ GE355.out) | exact HB.out)⟩
        ·rw [if_neg c71] at H
         have c71b0 : decide ((a0.size : Int) < (wrap64 (a1 + (t360.size : Int)))) = false := decide_eq_false c71; clear c71
         by_cases c78 : 0 ≤ a1
         ·rw [if_pos c78] at H
          have c78b0 := eq_true c78; have c78b1 : decide (0 ≤ a1) = true := zX c78; clear c78
          by_cases c79 : a1 ≤ (wrap64 (a1 + (t360.size : Int)))
          ·rw [if_pos c79] at H
           have c79b0 := eq_true c79; have c79b1 : decide (a1 ≤ (wrap64 (a1 + (t360.size : Int)))) = true := zX c79
           by_cases c80 : (wrap64 (a1 + (t360.size : Int))) ≤ (a0.size : Int)
           ·rw [if_pos c80] at H
            have c80b0 := eq_true c80; have c80b1 : decide ((wrap64 (a1 + (t360.size : Int))) ≤ (a0.size : Int)) = true := zX c80
            by_cases c81 : (a0.extract (a1 : Int).toNat ((wrap64 (a1 + (t360.size : Int))) : Int).toNat).toList = t360.toList
            ·rw [if_pos c81] at H
             have c81b0 : ((a0.extract (a1 : Int).toNat ((wrap64 (a1 + (t360.size : Int))) : Int).toNat).toList == t360.toList) = true := beq_iff_eq.mpr c81; have c81b1 : ((a0.extract (a1 : Int).toNat ((wrap64 (a1 + (t360.size : Int))) : Int).toNat).toList != t360.toList) = false := bne_eq_false_iff_eq.mpr c81; clear c81; simp only [Option.some.injEq, Prod.mk.injEq] at H; obtain ⟨rfl, rfl, rfl, rfl⟩ := H; have hnb82 := NB355_99.out; have hnc82 := NB99_355.out; have hcz83_0 : wc.cell? ⟨gb355, 0, none⟩ = some (.int .i64 (wrap64 (bt a0 a1))) := (zP BK355.out 0).trans rfl; have hcz83_1 : wc.cell? ⟨gb355, 1, none⟩ = some (.int .i64 x356001_8) := (zP BK355.out 1).trans rfl; have hcz83_2 : wc.cell? ⟨gb355, 2, none⟩ = some (.string x356002_8) := (zP BK355.out 2).trans rfl; have hfz83_0 := zO BK355.out 0; have hfz83_1 := zO BK355.out 1; have hfz83_2 := zO BK355.out 2; go_wp2_with (first | ((with_reducible refine yB (f := 42) rfl ?_); refine goesL_ (some 103) rfl rfl Tryd.func42 (by kernel_rfl) rfl #[.agg #[.int .i64 (wrap64 (bt a0 a1)), .int .i64 x356001_8, .string x356002_8]] rfl (by (try simp only [zAA, zAB, zAC]); first | done | rfl) ?_; (with_reducible refine (spec_GoodValue.calls (wrap64 (bt a0 a1)) x356001_8 x356002_8 true _ A68.out).mono ?_); rintro e w84 ⟨rfl, hb⟩; refine ⟨_, rfl, ?_⟩; have n0_ := zA (yE (g := gb99) (o := .cells #[.int .i64 0, .int .i64 0, .string (⟨#[]⟩ : ByteArray)] 39 (0, 0)) (by (with_reducible repeat (first | refine zL ?_ _ | refine zN ?_ | refine zM ?_ _)); exact BK99.out) hb); have n1_ := zA (yE (g := gb355) (o := .cells #[.int .i64 (wrap64 (bt a0 a1)), .int .i64 x356001_8, .string x356002_8] 39 (0, 0)) (by (with_reducible repeat (first | refine zL ?_ _ | refine zN ?_ | refine zM ?_ _)); exact BK355.out) hb); have n2_ := zA (zAD (by repeat (first | (with_reducible first | exact HB.out | apply zH | apply zF | apply zG | refine zI ?_ GE99.out | refine zI ?_ GE355.out) | exact HB.out)) hb); clear BK99; clear BK355; clear HB; have BK99 := n0_; have BK355 := n1_; have HB := n2_; clear n0_ n1_ n2_; (try clear hb); have hcz85_0 : w84.cell? ⟨gb355, 0, none⟩ = some (.int .i64 (wrap64 (bt a0 a1))) := (zP BK355.out 0).trans rfl; have hcz85_1 : w84.cell? ⟨gb355, 1, none⟩ = some (.int .i64 x356001_8) := (zP BK355.out 1).trans rfl; have hcz85_2 : w84.cell? ⟨gb355, 2, none⟩ = some (.string x356002_8) := (zP BK355.out 2).trans rfl; have hfz85_0 := zO BK355.out 0; have hfz85_1 := zO BK355.out 1; have hfz85_2 := zO BK355.out 2) | ((with_reducible refine yB (f := 48) rfl ?_); refine goesL_ (some 107) rfl rfl Tryd.func48 (by kernel_rfl) rfl #[.agg #[.int .i64 (wrap64 (bt a0 a1)), .int .i64 x356001_8, .string x356002_8]] rfl (by (try simp only [zAA, zAB, zAC]); first | done | rfl) ?_; (with_reducible refine (spec_l4Bytes.calls kj8 (wrap64 (bt a0 a1)) x356001_8 x356002_8 t360 _ A70.out).mono ?_); rintro e w86 ⟨rfl, hb⟩; refine ⟨_, rfl, ?_⟩; have n0_ := zA (yE (g := gb99) (o := .cells #[.int .i64 0, .int .i64 0, .string (⟨#[]⟩ : ByteArray)] 39 (0, 0)) (by (with_reducible repeat (first | refine zL ?_ _ | refine zN ?_ | refine zM ?_ _)); exact BK99.out) hb); have n1_ := zA (yE (g := gb355) (o := .cells #[.int .i64 (wrap64 (bt a0 a1)), .int .i64 x356001_8, .string x356002_8] 39 (0, 0)) (by (with_reducible repeat (first | refine zL ?_ _ | refine zN ?_ | refine zM ?_ _)); exact BK355.out) hb); have n2_ := zA (zAD (by repeat (first | (with_reducible first | exact HB.out | apply zH | apply zF | apply zG | refine zI ?_ GE99.out | refine zI ?_ GE355.out) | exact HB.out)) hb); clear BK99; clear BK355; clear HB; have BK99 := n0_; have BK355 := n1_; have HB := n2_; clear n0_ n1_ n2_; (try clear hb); have hcz87_0 : w86.cell? ⟨gb355, 0, none⟩ = some (.int .i64 (wrap64 (bt a0 a1))) := (zP BK355.out 0).trans rfl; have hcz87_1 : w86.cell? ⟨gb355, 1, none⟩ = some (.int .i64 x356001_8) := (zP BK355.out 1).trans rfl; have hcz87_2 : w86.cell? ⟨gb355, 2, none⟩ = some (.string x356002_8) := (zP BK355.out 2).trans rfl; have hfz87_0 := zO BK355.out 0; have hfz87_1 := zO BK355.out 1; have hfz87_2 := zO BK355.out 2; have hcz88_0 : w86.cell? ⟨gb99, 0, none⟩ = some (.int .i64 0) := (zP BK99.out 0).trans rfl; have hcz88_1 : w86.cell? ⟨gb99, 1, none⟩ = some (.int .i64 0) := (zP BK99.out 1).trans rfl; have hcz88_2 : w86.cell? ⟨gb99, 2, none⟩ = some (.string (⟨#[]⟩ : ByteArray)) := (zP BK99.out 2).trans rfl; have hfz88_0 := zO BK99.out 0; have hfz88_1 := zO BK99.out 1; have hfz88_2 := zO BK99.out 2)); refine bodyPost_ret (results_ct rfl _ _ gb99 39 #[.int .i64 (wrap64 (bt a0 a1)), .int .i64 x356001_8, .string x356002_8] (0, 0) _ rfl (by (with_reducible repeat (first | refine zL ?_ _ | refine zN ?_ | refine zM ?_ _)); refine blk_put (cs := #[.int .i64 (wrap64 (bt a0 a1)), .int .i64 x356001_8, .string (⟨#[]⟩ : ByteArray)]) ?_ 2 _ rfl; (with_reducible repeat (first | refine zL ?_ _ | refine zN ?_ | refine zM ?_ _)); refine blk_put (cs := #[.int .i64 (wrap64 (bt a0 a1)), .int .i64 0, .string (⟨#[]⟩ : ByteArray)]) ?_ 1 _ rfl; (with_reducible repeat (first | refine zL ?_ _ | refine zN ?_ | refine zM ?_ _)); refine blk_put (cs := #[.int .i64 0, .int .i64 0, .string (⟨#[]⟩ : ByteArray)]) ?_ 0 _ rfl; (with_reducible repeat (first | refine zL ?_ _ | refine zN ?_ | refine zM ?_ _)); exact BK99.out) Tryd.underlying39 rfl (by kernel_rfl)) rfl ?_
             exact ⟨by first | rfl | (simp [errW_none, errW_some] <;> rfl) | (simp only [← hji6]; first | rfl | (simp [errW_none, errW_some] <;> rfl)) | (simp [*, errW_none, errW_some] <;> rfl), by repeat (first | (with_reducible first | exact HB.out | apply zH | apply zF | apply zG | refine zI ?_ GE99.out | refine zI ?_ GE355.out) | exact HB.out)⟩
            ·rw [if_neg c81] at H
             have c81b0 : ((a0.extract (a1 : Int).toNat ((wrap64 (a1 + (t360.size : Int))) : Int).toNat).toList == t360.toList) = false := beq_eq_false_iff_ne.mpr c81; have c81b1 : ((a0.extract (a1 : Int).toNat ((wrap64 (a1 + (t360.size : Int))) : Int).toNat).toList != t360.toList) = true := bne_iff_ne.mpr c81; simp only [Option.some.injEq, Prod.mk.injEq] at H; obtain ⟨rfl, rfl, rfl, rfl⟩ := H; have hnb89 := NB355_99.out; have hnc89 := NB99_355.out; have hcz90_0 : wc.cell? ⟨gb355, 0, none⟩ = some (.int .i64 (wrap64 (bt a0 a1))) := (zP BK355.out 0).trans rfl; have hcz90_1 : wc.cell? ⟨gb355, 1, none⟩ = some (.int .i64 x356001_8) := (zP BK355.out 1).trans rfl; have hcz90_2 : wc.cell? ⟨gb355, 2, none⟩ = some (.string x356002_8) := (zP BK355.out 2).trans rfl; have hfz90_0 := zO BK355.out 0; have hfz90_1 := zO BK355.out 1; have hfz90_2 := zO BK355.out 2; go_wp2_with (first | ((with_reducible refine yB (f := 42) rfl ?_); refine goesL_ (some 103) rfl rfl Tryd.func42 (by kernel_rfl) rfl #[.agg #[.int .i64 (wrap64 (bt a0 a1)), .int .i64 x356001_8, .string x356002_8]] rfl (by (try simp only [zAA, zAB, zAC]); first | done | rfl) ?_; (with_reducible refine (spec_GoodValue.calls (wrap64 (bt a0 a1)) x356001_8 x356002_8 true _ A68.out).mono ?_); rintro e w91 ⟨rfl, hb⟩; refine ⟨_, rfl, ?_⟩; have n0_ := zA (yE (g := gb99) (o := .cells #[.int .i64 0, .int .i64 0, .string (⟨#[]⟩ : ByteArray)] 39 (0, 0)) (by (with_reducible repeat (first | refine zL ?_ _ | refine zN ?_ | refine zM ?_ _)); exact BK99.out) hb); have n1_ := zA (yE (g := gb355) (o := .cells #[.int .i64 (wrap64 (bt a0 a1)), .int .i64 x356001_8, .string x356002_8] 39 (0, 0)) (by (with_reducible repeat (first | refine zL ?_ _ | refine zN ?_ | refine zM ?_ _)); exact BK355.out) hb); have n2_ := zA (zAD (by repeat (first | (with_reducible first | exact HB.out | apply zH | apply zF | apply zG | refine zI ?_ GE99.out | refine zI ?_ GE355.out) | exact HB.out)) hb); clear BK99; clear BK355; clear HB; have BK99 := n0_; have BK355 := n1_; have HB := n2_; clear n0_ n1_ n2_; (try clear hb); have hcz92_0 : w91.cell? ⟨gb355, 0, none⟩ = some (.int .i64 (wrap64 (bt a0 a1))) := (zP BK355.out 0).trans rfl; have hcz92_1 : w91.cell? ⟨gb355, 1, none⟩ = some (.int .i64 x356001_8) := (zP BK355.out 1).trans rfl; have hcz92_2 : w91.cell? ⟨gb355, 2, none⟩ = some (.string x356002_8) := (zP BK355.out 2).trans rfl; have hfz92_0 := zO BK355.out 0; have hfz92_1 := zO BK355.out 1; have hfz92_2 := zO BK355.out 2) | ((with_reducible refine yB (f := 48) rfl ?_); refine goesL_ (some 107) rfl rfl Tryd.func48 (by kernel_rfl) rfl #[.agg #[.int .i64 (wrap64 (bt a0 a1)), .int .i64 x356001_8, .string x356002_8]] rfl (by (try simp only [zAA, zAB, zAC]); first | done | rfl) ?_; (with_reducible refine (spec_l4Bytes.calls kj8 (wrap64 (bt a0 a1)) x356001_8 x356002_8 t360 _ A70.out).mono ?_); rintro e w93 ⟨rfl, hb⟩; refine ⟨_, rfl, ?_⟩; have n0_ := zA (yE (g := gb99) (o := .cells #[.int .i64 0, .int .i64 0, .string (⟨#[]⟩ : ByteArray)] 39 (0, 0)) (by (with_reducible repeat (first | refine zL ?_ _ | refine zN ?_ | refine zM ?_ _)); exact BK99.out) hb); have n1_ := zA (yE (g := gb355) (o := .cells #[.int .i64 (wrap64 (bt a0 a1)), .int .i64 x356001_8, .string x356002_8] 39 (0, 0)) (by (with_reducible repeat (first | refine zL ?_ _ | refine zN ?_ | refine zM ?_ _)); exact BK355.out) hb); have n2_ := zA (zAD (by repeat (first | (with_reducible first | exact HB.out | apply zH | apply zF | apply zG | refine zI ?_ GE99.out | refine zI ?_ GE355.out) | exact HB.out)) hb); clear BK99; clear BK355; clear HB; have BK99 := n0_; have BK355 := n1_; have HB := n2_; clear n0_ n1_ n2_; (try clear hb); have hcz94_0 : w93.cell? ⟨gb99, 0, none⟩ = some (.int .i64 0) := (zP BK99.out 0).trans rfl; have hcz94_1 : w93.cell? ⟨gb99, 1, none⟩ = some (.int .i64 0) := (zP BK99.out 1).trans rfl; have hcz94_2 : w93.cell? ⟨gb99, 2, none⟩ = some (.string (⟨#[]⟩ : ByteArray)) := (zP BK99.out 2).trans rfl; have hfz94_0 := zO BK99.out 0; have hfz94_1 := zO BK99.out 1; have hfz94_2 := zO BK99.out 2)); refine bodyPost_ret (results_ct rfl _ _ gb99 39 #[.int .i64 0, .int .i64 0, .string (⟨#[]⟩ : ByteArray)] (0, 0) _ rfl (by (with_reducible repeat (first | refine zL ?_ _ | refine zN ?_ | refine zM ?_ _)); refine blk_put (cs := #[.int .i64 0, .int .i64 0, .string (⟨#[]⟩ : ByteArray)]) ?_ 2 _ rfl; (with_reducible repeat (first | refine zL ?_ _ | refine zN ?_ | refine zM ?_ _)); refine blk_put (cs := #[.int .i64 0, .int .i64 0, .string (⟨#[]⟩ : ByteArray)]) ?_ 1 _ rfl; (with_reducible repeat (first | refine zL ?_ _ | refine zN ?_ | refine zM ?_ _)); refine blk_put (cs := #[.int .i64 0, .int .i64 0, .string (⟨#[]⟩ : ByteArray)]) ?_ 0 _ rfl; (with_reducible repeat (first | refine zL ?_ _ | refine zN ?_ | refine zM ?_ _)); exact BK99.out) Tryd.underlying39 rfl (by kernel_rfl)) rfl ?_; exact ⟨by first | rfl | (simp [errW_none, errW_some] <;> rfl) | (simp only [← hji6]; first | rfl | (simp [errW_none, errW_some] <;> rfl)) | (simp [*, errW_none, errW_some] <;> rfl), by repeat (first | (with_reducible first | exact HB.out | apply zH | apply zF | apply zG | refine zI ?_ GE99.out | refine zI ?_ GE355.out) | exact HB.out)⟩
           ·rw [if_neg c80] at H
            exact absurd H (by simp)
          ·rw [if_neg c79] at H
           exact absurd H (by simp)
         ·rw [if_neg c78] at H
          exact absurd H (by simp)
       ·replace c69 := Bool.eq_false_iff.mpr c69
        subst c69; have H1 : (some (0, 0, (⟨#[]⟩ : ByteArray), (-1))) = some (r1, r2, r3, r4) := by rw [if_neg (show ¬ (false = true) by decide)] at H; exact H
        clear H; have H := H1; clear H1; simp only [Option.some.injEq, Prod.mk.injEq] at H; obtain ⟨rfl, rfl, rfl, rfl⟩ := H; have hnb95 := NB355_99.out; have hnc95 := NB99_355.out; have hcz96_0 : wc.cell? ⟨gb355, 0, none⟩ = some (.int .i64 (wrap64 (bt a0 a1))) := (zP BK355.out 0).trans rfl; have hcz96_1 : wc.cell? ⟨gb355, 1, none⟩ = some (.int .i64 x356001_8) := (zP BK355.out 1).trans rfl; have hcz96_2 : wc.cell? ⟨gb355, 2, none⟩ = some (.string x356002_8) := (zP BK355.out 2).trans rfl; have hfz96_0 := zO BK355.out 0; have hfz96_1 := zO BK355.out 1; have hfz96_2 := zO BK355.out 2; go_wp2_with (first | ((with_reducible refine yB (f := 42) rfl ?_); refine goesL_ (some 103) rfl rfl Tryd.func42 (by kernel_rfl) rfl #[.agg #[.int .i64 (wrap64 (bt a0 a1)), .int .i64 x356001_8, .string x356002_8]] rfl (by (try simp only [zAA, zAB, zAC]); first | done | rfl) ?_; (with_reducible refine (spec_GoodValue.calls (wrap64 (bt a0 a1)) x356001_8 x356002_8 false _ A68.out).mono ?_); rintro e w97 ⟨rfl, hb⟩; refine ⟨_, rfl, ?_⟩; have n0_ := zA (yE (g := gb99) (o := .cells #[.int .i64 0, .int .i64 0, .string (⟨#[]⟩ : ByteArray)] 39 (0, 0)) (by (with_reducible repeat (first | refine zL ?_ _ | refine zN ?_ | refine zM ?_ _)); exact BK99.out) hb); have n1_ := zA (yE (g := gb355) (o := .cells #[.int .i64 (wrap64 (bt a0 a1)), .int .i64 x356001_8, .string x356002_8] 39 (0, 0)) (by (with_reducible repeat (first | refine zL ?_ _ | refine zN ?_ | refine zM ?_ _)); exact BK355.out) hb); have n2_ := zA (zAD (by repeat (first | (with_reducible first | exact HB.out | apply zH | apply zF | apply zG | refine zI ?_ GE99.out | refine zI ?_ GE355.out) | exact HB.out)) hb); clear BK99; clear BK355; clear HB; have BK99 := n0_; have BK355 := n1_; have HB := n2_; clear n0_ n1_ n2_; (try clear hb); have hcz98_0 : w97.cell? ⟨gb99, 0, none⟩ = some (.int .i64 0) := (zP BK99.out 0).trans rfl; have hcz98_1 : w97.cell? ⟨gb99, 1, none⟩ = some (.int .i64 0) := (zP BK99.out 1).trans rfl; have hcz98_2 : w97.cell? ⟨gb99, 2, none⟩ = some (.string (⟨#[]⟩ : ByteArray)) := (zP BK99.out 2).trans rfl; have hfz98_0 := zO BK99.out 0; have hfz98_1 := zO BK99.out 1; have hfz98_2 := zO BK99.out 2)); refine bodyPost_ret (results_ct rfl _ _ gb99 39 #[.int .i64 0, .int .i64 0, .string (⟨#[]⟩ : ByteArray)] (0, 0) _ rfl (by (with_reducible repeat (first | refine zL ?_ _ | refine zN ?_ | refine zM ?_ _)); refine blk_put (cs := #[.int .i64 0, .int .i64 0, .string (⟨#[]⟩ : ByteArray)]) ?_ 2 _ rfl; (with_reducible repeat (first | refine zL ?_ _ | refine zN ?_ | refine zM ?_ _)); refine blk_put (cs := #[.int .i64 0, .int .i64 0, .string (⟨#[]⟩ : ByteArray)]) ?_ 1 _ rfl; (with_reducible repeat (first | refine zL ?_ _ | refine zN ?_ | refine zM ?_ _)); refine blk_put (cs := #[.int .i64 0, .int .i64 0, .string (⟨#[]⟩ : ByteArray)]) ?_ 0 _ rfl; (with_reducible repeat (first | refine zL ?_ _ | refine zN ?_ | refine zM ?_ _)); exact BK99.out) Tryd.underlying39 rfl (by kernel_rfl)) rfl ?_; exact ⟨by first | rfl | (simp [errW_none, errW_some] <;> rfl) | (simp only [← hji6]; first | rfl | (simp [errW_none, errW_some] <;> rfl)) | (simp [*, errW_none, errW_some] <;> rfl), by repeat (first | (with_reducible first | exact HB.out | apply zH | apply zF | apply zG | refine zI ?_ GE99.out | refine zI ?_ GE355.out) | exact HB.out)⟩
    ·rw [if_neg c8] at H
     exact absurd H (by simp)
   ·rw [if_neg c7] at H
    exact absurd H (by simp)
  ·rw [if_neg c4] at H
   exact absurd H (by simp)
 ·rw [if_neg c3] at H
  exact absurd H (by simp)
end Go.Proofs.YtmfipefpmjcddaaDoor.PA
end
