/- For the law FnExactCheckAnswer (laid by merge.py). -/
import Derived.Test.YtmfipefpmjcddaaGreatDoorMFnExactCheckAnswere
import Derived.Laws.BitsLemmas
section
namespace Go.Proofs.YtmfipefpmjcddaaGreatDoor.PA
open Go.RowKit Go.Proofs.YtmfipefpmjcddaaGreatDoorW.PrintWords Go.Proofs.YtmfipefpmjcddaaGreatDoorW.PrintLast Go.Proofs.YtmfipefpmjcddaaGreatDoorW.PrintMore
attribute [local go_sem] max2_int min2_int max_two min_two max_three min_three max_four min_four
set_option linter.unusedVariables false
set_option linter.unusedSimpArgs false
set_option maxHeartbeats 60000000
set_option maxRecDepth 100000
def impl_CheckAnswer.j0 : Nat → ByteArray → ByteArray → ByteArray → Bool → Int → ByteArray → ByteArray → List ByteArray → Int → List ByteArray → List ByteArray → List (S85) → Option (ByteArray × Bool × Bool)
 | 0, _, _, _, _, _, _, _, _, _, _, _, _ => none
 | k + 1, x0, x1, x9, x30, x10, x11, x12, x13, x14, x15, x16, x17 => if x30 = true then (some ((⟨#[]⟩ : ByteArray), false, false)) else ((impl_CheckSeal.f k x0 x9 x14 x15 x16).bind fun bt18 => (if bt18.1 = true then ((impl_CheckKey.f k x12 x1 x17).bind fun bt19 => (some (bt19.1, bt19.2.1, bt19.2.2))) else (some ((⟨#[]⟩ : ByteArray), false, false))))
def impl_CheckAnswer.f (k : Nat) (a0 : ByteArray) (a1 : ByteArray) (a2_0 : Int) (a2_1 : ByteArray) (a2_2 : ByteArray) (l2_3 : List ByteArray) (a2_4 : Int) (l2_5 : List ByteArray) (l2_6 : List ByteArray) (l2_7 : List (S85)) : Option (ByteArray × Bool × Bool) := (impl_SealedText.f k a2_0 a2_1 a2_2 l2_3).bind fun bt10 => (if bt10.2 = true then (impl_CheckAnswer.j0 k a0 a1 bt10.1 (a2_4 != a2_0) a2_0 a2_1 a2_2 l2_3 a2_4 l2_5 l2_6 l2_7) else (impl_CheckAnswer.j0 k a0 a1 bt10.1 true a2_0 a2_1 a2_2 l2_3 a2_4 l2_5 l2_6 l2_7))
theorem impl_CheckAnswer.calls (k : Nat) (a0 : ByteArray) (a1 : ByteArray) (a2_0 : Int) (a2_1 : ByteArray) (a2_2 : ByteArray) (A2_3 : Option Addr) (c2_3 : Nat) (l2_3 : List ByteArray) (a2_4 : Int) (A2_5 : Option Addr) (c2_5 : Nat) (l2_5 : List ByteArray) (A2_6 : Option Addr) (c2_6 : Nat) (l2_6 : List ByteArray) (A2_7 : Option Addr) (c2_7 : Nat) (l2_7 : List (S85)) (r1 : ByteArray) (r2 : Bool) (r3 : Bool) (w : World) (hr2_3 : Kd.C Kd.string w A2_3 l2_3.length l2_3) (hc2_3 : l2_3.length ≤ c2_3) (hr2_5 : Kd.C Kd.string w A2_5 l2_5.length l2_5) (hc2_5 : l2_5.length ≤ c2_5) (hr2_6 : Kd.C Kd.string w A2_6 l2_6.length l2_6) (hc2_6 : l2_6.length ≤ c2_6) (hr2_7 : Kd.C k85 w A2_7 l2_7.length l2_7) (hc2_7 : l2_7.length ≤ c2_7) (h : impl_CheckAnswer.f k a0 a1 a2_0 a2_1 a2_2 l2_3 a2_4 l2_5 l2_6 l2_7 = some (r1, r2, r3)) :
  Calls Tryz.prog 8 #[.string a0, .string a1, .agg #[.int .i64 a2_0, .string a2_1, .string a2_2, .slice A2_3 l2_3.length c2_3, .int .i64 a2_4, .slice A2_5 l2_5.length c2_5, .slice A2_6 l2_6.length c2_6, .slice A2_7 l2_7.length c2_7]] w fun e w' => e = .returned (.tuple #[.string r1, .bool r2, .bool r3]) ∧ Below w.heap.size w w' := by
 have hu37 := Tryz.underlying37; have hu33 := Tryz.underlying33; have hu34 := Tryz.underlying34; have HR2_3 := zA hr2_3; have HC2_3 := zA hc2_3; clear hr2_3 hc2_3; have HR2_5 := zA hr2_5; have HC2_5 := zA hc2_5; clear hr2_5 hc2_5; have HR2_6 := zA hr2_6; have HC2_6 := zA hc2_6; clear hr2_6 hc2_6; have HR2_7 := zA hr2_7; have HC2_7 := zA hc2_7; clear hr2_7 hc2_7; have HB := zA (Below.refl w.heap.size w); have H : ((impl_SealedText.f k a2_0 a2_1 a2_2 l2_3).bind fun bt21 => (if bt21.2 = true then (impl_CheckAnswer.j0 k a0 a1 bt21.1 (a2_4 != a2_0) a2_0 a2_1 a2_2 l2_3 a2_4 l2_5 l2_6 l2_7) else (impl_CheckAnswer.j0 k a0 a1 bt21.1 true a2_0 a2_1 a2_2 l2_3 a2_4 l2_5 l2_6 l2_7))) = some (r1, r2, r3) := h; clear h; replace H := zAF H; obtain ⟨⟨t21, t22⟩, A40, H⟩ := H; replace H : (if t22 = true then (impl_CheckAnswer.j0 k a0 a1 t21 (a2_4 != a2_0) a2_0 a2_1 a2_2 l2_3 a2_4 l2_5 l2_6 l2_7) else (impl_CheckAnswer.j0 k a0 a1 t21 true a2_0 a2_1 a2_2 l2_3 a2_4 l2_5 l2_6 l2_7)) = some (r1, r2, r3) := H; have A4 := zA A40; clear A40; have HC5 := zA H; clear H; go_enter Tryz.func8, Tryz.ntmps8; go_upto_region 2 with (first | ((with_reducible refine gate_dst (N := 5) rfl ?_); refine box_event ?hg (N := 5) ?hd (cs := #[.int .i64 a2_0, .string a2_1, .string a2_2, .slice A2_3 l2_3.length c2_3, .int .i64 a2_4, .slice A2_5 l2_5.length c2_5, .slice A2_6 l2_6.length c2_6, .slice A2_7 l2_7.length c2_7]) (t := 37) ?hr ?_; (case hd => rfl); (case hg => rfl); (case hr => first | (go_simp; done) | (go_simp; rfl)); intro gb23 hg w6 hbox hb; have n0_ := zA (zAD (by (with_reducible repeat first | exact HB.out | apply zH | apply zF | apply zG) <;> exact HB.out) hb); have n1_ := zA (hbox); have n2_ := zA ((by rw [hg]; exact (zAE (by (with_reducible repeat first | exact HB.out | apply zH | apply zF | apply zG) <;> exact HB.out)) : w.heap.size ≤ gb23)); have n3_ := zA ((by rw [hg]; exact (zAE (by (with_reducible repeat first | exact HB.out | apply zH | apply zF | apply zG) <;> exact HB.out)) : w.heap.size ≤ gb23)); clear HB; have HB := n0_; have BK23 := n1_; have GW23 := n2_; have GE23 := n3_; clear n0_ n1_ n2_ n3_; clear hb hbox hg; have hcz7_0 := yL BK23.out 0 (.int .i64 a2_0) rfl; have hcz7_1 := yL BK23.out 1 (.string a2_1) rfl; have hcz7_2 := yL BK23.out 2 (.string a2_2) rfl; have hcz7_3 := yL BK23.out 3 (.slice A2_3 l2_3.length c2_3) rfl; have hcz7_4 := yL BK23.out 4 (.int .i64 a2_4) rfl; have hcz7_5 := yL BK23.out 5 (.slice A2_5 l2_5.length c2_5) rfl; have hcz7_6 := yL BK23.out 6 (.slice A2_6 l2_6.length c2_6) rfl; have hcz7_7 := yL BK23.out 7 (.slice A2_7 l2_7.length c2_7) rfl; have hfz7_0 := zO BK23.out 0; have hfz7_1 := zO BK23.out 1; have hfz7_2 := zO BK23.out 2; have hfz7_3 := zO BK23.out 3; have hfz7_4 := zO BK23.out 4; have hfz7_5 := zO BK23.out 5; have hfz7_6 := zO BK23.out 6; have hfz7_7 := zO BK23.out 7) | ((with_reducible refine yB (f := 24) rfl ?_); refine goesL_ (some 18) rfl rfl Tryz.func24 (by kernel_rfl) rfl #[.int .i64 a2_0, .agg #[.string a2_1, .string a2_2, .slice A2_3 l2_3.length c2_3]] rfl (by (try simp only [zAA, zAB, zAC]); first | done | rfl | (simp only [zZ, zY]; rfl)) ?_; (with_reducible refine (impl_SealedText.calls k a2_0 a2_1 a2_2 _ _ l2_3 t21 t22 _ ?side1 ?side2 A4.out).mono ?_); (case side1 => repeat (first | exact (yN HR2_3.out HB.out) | (with_reducible first | refine zT ?_ _ | refine zU ?_ _ | refine zV ?_))); (case side2 => exact HC2_3.out); rintro e w8 ⟨rfl, hb⟩; refine ⟨_, rfl, ?_⟩; have n0_ := zA (yE (g := gb23) (o := .cells #[.int .i64 a2_0, .string a2_1, .string a2_2, .slice A2_3 l2_3.length c2_3, .int .i64 a2_4, .slice A2_5 l2_5.length c2_5, .slice A2_6 l2_6.length c2_6, .slice A2_7 l2_7.length c2_7] 37 (0, 0)) (by (with_reducible repeat (first | refine zL ?_ _ | refine zN ?_ | refine zM ?_ _)); exact BK23.out) hb); have n1_ := zA (zAD (by repeat (first | (with_reducible first | exact HB.out | apply zH | apply zF | apply zG | refine zI ?_ GE23.out) | exact HB.out)) hb); clear BK23; clear HB; have BK23 := n0_; have HB := n1_; clear n0_ n1_; (try clear hb)))
 (try simp only [Act.put, zC, zD, zE]); go_cut [30] (fun v30 wc => ∃ (kq : Nat) (x30_4 : Bool), v30 = .bool x30_4 ∧ Aside0 (impl_CheckAnswer.j0 kq a0 a1 t21 x30_4 a2_0 a2_1 a2_2 l2_3 a2_4 l2_5 l2_6 l2_7 = some (r1, r2, r3)) ∧ Aside0 (kq ≤ k) ∧ Aside0 (wc.heap[gb23]? = some (.cells #[.int .i64 a2_0, .string a2_1, .string a2_2, (.slice A2_3 l2_3.length c2_3), .int .i64 a2_4, (.slice A2_5 l2_5.length c2_5), (.slice A2_6 l2_6.length c2_6), (.slice A2_7 l2_7.length c2_7)] 37 (0, 0))) ∧ Aside0 (Below w.heap.size w wc))
 case first =>
  have H := HC5.out; clear HC5
  by_cases c9 : t22 = true
  ·subst c9
   have H1 : (impl_CheckAnswer.j0 k a0 a1 t21 (a2_4 != a2_0) a2_0 a2_1 a2_2 l2_3 a2_4 l2_5 l2_6 l2_7) = some (r1, r2, r3) := by rw [if_pos rfl] at H; exact H
   clear H; have H := H1; clear H1; have H' := zA H; clear H; have hcz10_0 := yL BK23.out 0 (.int .i64 a2_0) rfl; have hcz10_1 := yL BK23.out 1 (.string a2_1) rfl; have hcz10_2 := yL BK23.out 2 (.string a2_2) rfl; have hcz10_3 := yL BK23.out 3 (.slice A2_3 l2_3.length c2_3) rfl; have hcz10_4 := yL BK23.out 4 (.int .i64 a2_4) rfl; have hcz10_5 := yL BK23.out 5 (.slice A2_5 l2_5.length c2_5) rfl; have hcz10_6 := yL BK23.out 6 (.slice A2_6 l2_6.length c2_6) rfl; have hcz10_7 := yL BK23.out 7 (.slice A2_7 l2_7.length c2_7) rfl; have hfz10_0 := zO BK23.out 0; have hfz10_1 := zO BK23.out 1; have hfz10_2 := zO BK23.out 2; have hfz10_3 := zO BK23.out 3; have hfz10_4 := zO BK23.out 4; have hfz10_5 := zO BK23.out 5; have hfz10_6 := zO BK23.out 6; have hfz10_7 := zO BK23.out 7; go_wp2; go_meet
   case rel => exact ⟨_, ((a2_4 != a2_0)), (by first | rfl | (simp; done) | (simp [*]; done) | (simp [bne]; done)), H', ⟨by first | omega | exact Nat.le_refl _⟩, ⟨by (with_reducible repeat (first | refine zL ?_ _ | refine zN ?_ | refine zM ?_ _)); exact BK23.out⟩, ⟨by repeat (first | (with_reducible first | exact HB.out | apply zH | apply zF | apply zG | refine zI ?_ GE23.out) | exact HB.out)⟩⟩
  ·replace c9 := yO c9
   subst c9; have H1 : (impl_CheckAnswer.j0 k a0 a1 t21 true a2_0 a2_1 a2_2 l2_3 a2_4 l2_5 l2_6 l2_7) = some (r1, r2, r3) := by rw [if_neg (show ¬ (false = true) by decide)] at H; exact H
   clear H; have H := H1; clear H1; have H' := zA H; clear H; go_wp2; go_meet
   case rel => exact ⟨_, (true), (by first | rfl | (simp; done) | (simp [*]; done) | (simp [bne]; done)), H', ⟨by first | omega | exact Nat.le_refl _⟩, ⟨by (with_reducible repeat (first | refine zL ?_ _ | refine zN ?_ | refine zM ?_ _)); exact BK23.out⟩, ⟨by repeat (first | (with_reducible first | exact HB.out | apply zH | apply zF | apply zG | refine zI ?_ GE23.out) | exact HB.out)⟩⟩
 case rest =>
  clear HC5
  try clear c2
  try clear p2
  try clear c8
  try clear c9
  try clear hcz10_0
  try clear hcz10_1
  try clear hcz10_2
  try clear hcz10_3
  try clear hcz10_4
  try clear hcz10_5
  try clear hcz10_6
  try clear hcz10_7
  try clear hcz7_0
  try clear hcz7_1
  try clear hcz7_2
  try clear hcz7_3
  try clear hcz7_4
  try clear hcz7_5
  try clear hcz7_6
  try clear hcz7_7
  try clear hfz10_0
  try clear hfz10_1
  try clear hfz10_2
  try clear hfz10_3
  try clear hfz10_4
  try clear hfz10_5
  try clear hfz10_6
  try clear hfz10_7
  try clear hfz7_0
  try clear hfz7_1
  try clear hfz7_2
  try clear hfz7_3
  try clear hfz7_4
  try clear hfz7_5
  try clear hfz7_6
  try clear hfz7_7
  obtain ⟨kq, x30_4, rfl, HA, HJ4, BK23, HB⟩ := hcut
  cases kq with
  | zero => exact absurd HA.out (by simp [impl_CheckAnswer.j0])
  | succ kj4 =>
   have H := HA.out; clear HA; simp only [impl_CheckAnswer.j0] at H
   by_cases c11 : x30_4 = true
   ·subst c11
    have H1 : (some ((⟨#[]⟩ : ByteArray), false, false)) = some (r1, r2, r3) := by rw [if_pos rfl] at H; exact H
    clear H; have H := H1; clear H1; simp only [Option.some.injEq, Prod.mk.injEq] at H; obtain ⟨rfl, rfl, rfl⟩ := H; go_wp2; go_ret3; exact ⟨by first | rfl | (simp <;> rfl) | (simp [*] <;> rfl), by repeat (first | (with_reducible first | exact HB.out | apply zH | apply zF | apply zG | refine zI ?_ GE23.out) | exact HB.out)⟩
   ·replace c11 := yO c11
    subst c11; have H1 : ((impl_CheckSeal.f kj4 a0 t21 a2_4 l2_5 l2_6).bind fun bt24 => (if bt24.1 = true then ((impl_CheckKey.f kj4 a2_2 a1 l2_7).bind fun bt25 => (some (bt25.1, bt25.2.1, bt25.2.2))) else (some ((⟨#[]⟩ : ByteArray), false, false)))) = some (r1, r2, r3) := by rw [if_neg (show ¬ (false = true) by decide)] at H; exact H
    clear H; have H := H1; clear H1; replace H := zAF H; obtain ⟨⟨t24, t26⟩, A27, H⟩ := H; replace H : (if t24 = true then ((impl_CheckKey.f kj4 a2_2 a1 l2_7).bind fun bt25 => (some (bt25.1, bt25.2.1, bt25.2.2))) else (some ((⟨#[]⟩ : ByteArray), false, false))) = some (r1, r2, r3) := H; have A12 := zA A27; clear A27
    by_cases c13 : t24 = true
    ·subst c13
     have H1 : ((impl_CheckKey.f kj4 a2_2 a1 l2_7).bind fun bt25 => (some (bt25.1, bt25.2.1, bt25.2.2))) = some (r1, r2, r3) := by rw [if_pos rfl] at H; exact H
     clear H; have H := H1; clear H1; replace H := zAF H; obtain ⟨⟨t25, t28, t29⟩, A31, H⟩ := H; replace H : (some (t25, t28, t29)) = some (r1, r2, r3) := H; have A14 := zA A31; clear A31; simp only [Option.some.injEq, Prod.mk.injEq] at H; obtain ⟨rfl, rfl, rfl⟩ := H; have hcz15_0 := yL BK23.out 0 (.int .i64 a2_0) rfl; have hcz15_1 := yL BK23.out 1 (.string a2_1) rfl; have hcz15_2 := yL BK23.out 2 (.string a2_2) rfl; have hcz15_3 := yL BK23.out 3 (.slice A2_3 l2_3.length c2_3) rfl; have hcz15_4 := yL BK23.out 4 (.int .i64 a2_4) rfl; have hcz15_5 := yL BK23.out 5 (.slice A2_5 l2_5.length c2_5) rfl; have hcz15_6 := yL BK23.out 6 (.slice A2_6 l2_6.length c2_6) rfl; have hcz15_7 := yL BK23.out 7 (.slice A2_7 l2_7.length c2_7) rfl; have hfz15_0 := zO BK23.out 0; have hfz15_1 := zO BK23.out 1; have hfz15_2 := zO BK23.out 2; have hfz15_3 := zO BK23.out 3; have hfz15_4 := zO BK23.out 4; have hfz15_5 := zO BK23.out 5; have hfz15_6 := zO BK23.out 6; have hfz15_7 := zO BK23.out 7; go_wp2_with (first | ((with_reducible refine yB (f := 25) rfl ?_); refine goesL_ (some 36) rfl rfl Tryz.func25 (by kernel_rfl) rfl #[.string a0, .string t21, .agg #[.int .i64 a2_4, .slice A2_5 l2_5.length c2_5, .slice A2_6 l2_6.length c2_6]] rfl (by (try simp only [zAA, zAB, zAC]); first | done | rfl | (simp only [zZ, zY]; rfl)) ?_; (with_reducible refine (impl_CheckSeal.calls kj4 a0 t21 a2_4 _ _ l2_5 _ _ l2_6 true t26 _ ?side1 ?side2 ?side3 ?side4 A12.out).mono ?_); (case side1 => repeat (first | exact (yN HR2_5.out HB.out) | (with_reducible first | refine zT ?_ _ | refine zU ?_ _ | refine zV ?_))); (case side2 => exact HC2_5.out); (case side3 => repeat (first | exact (yN HR2_6.out HB.out) | (with_reducible first | refine zT ?_ _ | refine zU ?_ _ | refine zV ?_))); (case side4 => exact HC2_6.out); rintro e w16 ⟨rfl, hb⟩; refine ⟨_, rfl, ?_⟩; have n0_ := zA (yE (g := gb23) (o := .cells #[.int .i64 a2_0, .string a2_1, .string a2_2, .slice A2_3 l2_3.length c2_3, .int .i64 a2_4, .slice A2_5 l2_5.length c2_5, .slice A2_6 l2_6.length c2_6, .slice A2_7 l2_7.length c2_7] 37 (0, 0)) (by (with_reducible repeat (first | refine zL ?_ _ | refine zN ?_ | refine zM ?_ _)); exact BK23.out) hb); have n1_ := zA (zAD (by repeat (first | (with_reducible first | exact HB.out | apply zH | apply zF | apply zG | refine zI ?_ GE23.out) | exact HB.out)) hb); clear BK23; clear HB; have BK23 := n0_; have HB := n1_; clear n0_ n1_; (try clear hb); have hcz17_0 := yL BK23.out 0 (.int .i64 a2_0) rfl; have hcz17_1 := yL BK23.out 1 (.string a2_1) rfl; have hcz17_2 := yL BK23.out 2 (.string a2_2) rfl; have hcz17_3 := yL BK23.out 3 (.slice A2_3 l2_3.length c2_3) rfl; have hcz17_4 := yL BK23.out 4 (.int .i64 a2_4) rfl; have hcz17_5 := yL BK23.out 5 (.slice A2_5 l2_5.length c2_5) rfl; have hcz17_6 := yL BK23.out 6 (.slice A2_6 l2_6.length c2_6) rfl; have hcz17_7 := yL BK23.out 7 (.slice A2_7 l2_7.length c2_7) rfl; have hfz17_0 := zO BK23.out 0; have hfz17_1 := zO BK23.out 1; have hfz17_2 := zO BK23.out 2; have hfz17_3 := zO BK23.out 3; have hfz17_4 := zO BK23.out 4; have hfz17_5 := zO BK23.out 5; have hfz17_6 := zO BK23.out 6; have hfz17_7 := zO BK23.out 7) | ((with_reducible refine yB (f := 26) rfl ?_); refine goesL_ (some 47) rfl rfl Tryz.func26 (by kernel_rfl) rfl #[.string a2_2, .string a1, .slice A2_7 l2_7.length c2_7] rfl (by (try simp only [zAA, zAB, zAC]); first | done | rfl | (simp only [zZ, zY]; rfl)) ?_; (with_reducible refine (impl_CheckKey.calls kj4 a2_2 a1 _ _ l2_7 t25 t28 t29 _ ?side1 ?side2 A14.out).mono ?_); (case side1 => repeat (first | exact (yN HR2_7.out HB.out) | (with_reducible first | refine zT ?_ _ | refine zU ?_ _ | refine zV ?_))); (case side2 => exact HC2_7.out); rintro e w18 ⟨rfl, hb⟩; refine ⟨_, rfl, ?_⟩; have n0_ := zA (yE (g := gb23) (o := .cells #[.int .i64 a2_0, .string a2_1, .string a2_2, .slice A2_3 l2_3.length c2_3, .int .i64 a2_4, .slice A2_5 l2_5.length c2_5, .slice A2_6 l2_6.length c2_6, .slice A2_7 l2_7.length c2_7] 37 (0, 0)) (by (with_reducible repeat (first | refine zL ?_ _ | refine zN ?_ | refine zM ?_ _)); exact BK23.out) hb); have n1_ := zA (zAD (by repeat (first | (with_reducible first | exact HB.out | apply zH | apply zF | apply zG | refine zI ?_ GE23.out) | exact HB.out)) hb); clear BK23; clear HB; have BK23 := n0_; have HB := n1_; clear n0_ n1_; (try clear hb))); go_ret3; exact ⟨by first | rfl | (simp <;> rfl) | (simp [*] <;> rfl), by repeat (first | (with_reducible first | exact HB.out | apply zH | apply zF | apply zG | refine zI ?_ GE23.out) | exact HB.out)⟩
    ·replace c13 := yO c13
     subst c13; have H1 : (some ((⟨#[]⟩ : ByteArray), false, false)) = some (r1, r2, r3) := by rw [if_neg (show ¬ (false = true) by decide)] at H; exact H
     clear H; have H := H1; clear H1; simp only [Option.some.injEq, Prod.mk.injEq] at H; obtain ⟨rfl, rfl, rfl⟩ := H; have hcz19_0 := yL BK23.out 0 (.int .i64 a2_0) rfl; have hcz19_1 := yL BK23.out 1 (.string a2_1) rfl; have hcz19_2 := yL BK23.out 2 (.string a2_2) rfl; have hcz19_3 := yL BK23.out 3 (.slice A2_3 l2_3.length c2_3) rfl; have hcz19_4 := yL BK23.out 4 (.int .i64 a2_4) rfl; have hcz19_5 := yL BK23.out 5 (.slice A2_5 l2_5.length c2_5) rfl; have hcz19_6 := yL BK23.out 6 (.slice A2_6 l2_6.length c2_6) rfl; have hcz19_7 := yL BK23.out 7 (.slice A2_7 l2_7.length c2_7) rfl; have hfz19_0 := zO BK23.out 0; have hfz19_1 := zO BK23.out 1; have hfz19_2 := zO BK23.out 2; have hfz19_3 := zO BK23.out 3; have hfz19_4 := zO BK23.out 4; have hfz19_5 := zO BK23.out 5; have hfz19_6 := zO BK23.out 6; have hfz19_7 := zO BK23.out 7; go_wp2_with (first | ((with_reducible refine yB (f := 25) rfl ?_); refine goesL_ (some 36) rfl rfl Tryz.func25 (by kernel_rfl) rfl #[.string a0, .string t21, .agg #[.int .i64 a2_4, .slice A2_5 l2_5.length c2_5, .slice A2_6 l2_6.length c2_6]] rfl (by (try simp only [zAA, zAB, zAC]); first | done | rfl | (simp only [zZ, zY]; rfl)) ?_; (with_reducible refine (impl_CheckSeal.calls kj4 a0 t21 a2_4 _ _ l2_5 _ _ l2_6 false t26 _ ?side1 ?side2 ?side3 ?side4 A12.out).mono ?_); (case side1 => repeat (first | exact (yN HR2_5.out HB.out) | (with_reducible first | refine zT ?_ _ | refine zU ?_ _ | refine zV ?_))); (case side2 => exact HC2_5.out); (case side3 => repeat (first | exact (yN HR2_6.out HB.out) | (with_reducible first | refine zT ?_ _ | refine zU ?_ _ | refine zV ?_))); (case side4 => exact HC2_6.out); rintro e w20 ⟨rfl, hb⟩; refine ⟨_, rfl, ?_⟩; have n0_ := zA (yE (g := gb23) (o := .cells #[.int .i64 a2_0, .string a2_1, .string a2_2, .slice A2_3 l2_3.length c2_3, .int .i64 a2_4, .slice A2_5 l2_5.length c2_5, .slice A2_6 l2_6.length c2_6, .slice A2_7 l2_7.length c2_7] 37 (0, 0)) (by (with_reducible repeat (first | refine zL ?_ _ | refine zN ?_ | refine zM ?_ _)); exact BK23.out) hb); have n1_ := zA (zAD (by repeat (first | (with_reducible first | exact HB.out | apply zH | apply zF | apply zG | refine zI ?_ GE23.out) | exact HB.out)) hb); clear BK23; clear HB; have BK23 := n0_; have HB := n1_; clear n0_ n1_; (try clear hb))); go_ret3; exact ⟨by first | rfl | (simp <;> rfl) | (simp [*] <;> rfl), by repeat (first | (with_reducible first | exact HB.out | apply zH | apply zF | apply zG | refine zI ?_ GE23.out) | exact HB.out)⟩
def laws_eqStringS.l0 : Nat → List ByteArray → List ByteArray → Int → Option (Bool)
 | 0, _, _, _ => none
 | k + 1, x0, x1, x5 => if x5 < (x0.length : Int) then (if 0 ≤ x5 then (if x5 < (x1.length : Int) then (if (rdOf ByteArray.empty x0 x5).toList = (rdOf ByteArray.empty x1 x5).toList then (laws_eqStringS.l0 k x0 x1 (wrap64 (x5 + 1))) else (some false)) else (none)) else (none)) else (some true)
def laws_eqStringS.f (k : Nat) (l0 : List ByteArray) (l1 : List ByteArray) : Option (Bool) := if (l0.length : Int) = (l1.length : Int) then (laws_eqStringS.l0 k l0 l1 0) else (some false)
theorem laws_eqStringS.calls (k : Nat) (A0 : Option Addr) (c0 : Nat) (l0 : List ByteArray) (A1 : Option Addr) (c1 : Nat) (l1 : List ByteArray) (r : Bool) (w : World) (hr0 : Kd.C Kd.string w A0 l0.length l0) (hc0 : l0.length ≤ c0) (hr1 : Kd.C Kd.string w A1 l1.length l1) (hc1 : l1.length ≤ c1) (h : laws_eqStringS.f k l0 l1 = some r) (hr_ : Aside0 (r = true)) :
  Calls Tryz.prog 67 #[.slice A0 l0.length c0, .slice A1 l1.length c1] w fun e w' => e = .returned (.bool r) ∧ Drawn0 w w' := by
 have HR0 := zA hr0; have HC0 := zA hc0; clear hr0 hc0; have HR1 := zA hr1; have HC1 := zA hc1; clear hr1 hc1; have H : (if (l0.length : Int) = (l1.length : Int) then (laws_eqStringS.l0 k l0 l1 0) else (some false)) = some r := h; clear h
 by_cases c3 : (l0.length : Int) = (l1.length : Int)
 ·rw [if_pos c3] at H
  have c3b0 : ((l0.length : Int) == (l1.length : Int)) = true := beq_iff_eq.mpr c3; have c3b1 : ((l0.length : Int) != (l1.length : Int)) = false := bne_eq_false_iff_eq.mpr c3; have c3b2 : (l0.length == l1.length) = true := by first | simpa using c3 | (simp at c3 ⊢; omega)
  clear c3; have H' := zA H; clear H; go_enter Tryz.func67, Tryz.ntmps67; go_wp2
  repeat (go_quiet (fail); try go_wp2)
  go_loopg [5] k (fun kq v5 w' => ∃ (x5_1 : Int), v5 = .int .i64 x5_1 ∧ Aside0 (laws_eqStringS.l0 kq l0 l1 x5_1 = some r) ∧ Aside0 (kq ≤ k) ∧ Drawn0 w w')
  case atStart => exact ⟨(0), (by first | rfl | (simp; done) | (simp [*]; done) | (simp [bne]; done)), H', ⟨Nat.le_refl _⟩, by repeat (first | exact Drawn0.refl _ | apply Drawn0.step)⟩
  case round =>
   clear H'
   try clear c1
   try clear p2
   try clear c3
   try clear c3b0
   try clear c3b1
   try clear c3b2
   obtain ⟨x5_1, rfl, HA, HK1, ⟨m1, rfl⟩⟩ := hrel
   cases gk with
   | zero => exact absurd HA.out (by simp [laws_eqStringS.l0])
   | succ k1 =>
    have H := HA.out; clear HA; simp only [laws_eqStringS.l0] at H
    by_cases c4 : x5_1 < (l0.length : Int)
    ·rw [if_pos c4] at H
     have c4b0 : decide (x5_1 < (l0.length : Int)) = true := zX c4; clear c4
     by_cases c5 : 0 ≤ x5_1
     ·rw [if_pos c5] at H
      have c5b0 : decide (0 ≤ x5_1) = true := zX c5; clear c5
      by_cases c6 : x5_1 < (l1.length : Int)
      ·rw [if_pos c6] at H
       have c6b0 : decide (x5_1 < (l1.length : Int)) = true := zX c6; clear c6
       by_cases c7 : (rdOf ByteArray.empty l0 x5_1).toList = (rdOf ByteArray.empty l1 x5_1).toList
       ·rw [if_pos c7] at H
        have c7b0 : ((rdOf ByteArray.empty l0 x5_1).toList == (rdOf ByteArray.empty l1 x5_1).toList) = true := beq_iff_eq.mpr c7; have c7b1 : ((rdOf ByteArray.empty l0 x5_1).toList != (rdOf ByteArray.empty l1 x5_1).toList) = false := bne_eq_false_iff_eq.mpr c7; clear c7; have H' := zA H; clear H; have p10 : 0 ≤ (x5_1 : Int) := zW (by first | (with_reducible assumption) | assumption); have q10 : x5_1 < (l0.length : Int) := zW (by first | (with_reducible assumption) | assumption); obtain ⟨ad10, e10, hx10_0⟩ := Kd.at_string HR0.out x5_1 p10 q10
        cases e10
        replace p10 := eq_true p10; replace q10 := eq_true q10; have p11 : 0 ≤ (x5_1 : Int) := zW (by first | (with_reducible assumption) | assumption); have q11 : x5_1 < (l1.length : Int) := zW (by first | (with_reducible assumption) | assumption); obtain ⟨ad11, e11, hx11_0⟩ := Kd.at_string HR1.out x5_1 p11 q11
        cases e11
        replace p11 := eq_true p11; replace q11 := eq_true q11; go_wp2
        repeat (go_quiet (fail); try go_wp2)
        go_roundg k1
        case measure => have := HK1.out; omega
        case rel => exact ⟨(wrap64 (x5_1 + 1)), (by first | rfl | (simp; done) | (simp [*]; done) | (simp [bne]; done)), H', ⟨by have := HK1.out; omega⟩, by repeat (first | exact Drawn0.refl _ | apply Drawn0.step)⟩
       ·rw [if_neg c7] at H
        have c7b0 : ((rdOf ByteArray.empty l0 x5_1).toList == (rdOf ByteArray.empty l1 x5_1).toList) = false := beq_eq_false_iff_ne.mpr c7; have c7b1 : ((rdOf ByteArray.empty l0 x5_1).toList != (rdOf ByteArray.empty l1 x5_1).toList) = true := bne_iff_ne.mpr c7; exact absurd ((yM H).trans hr_.out) (by decide)
      ·rw [if_neg c6] at H
       exact absurd H (by simp)
     ·rw [if_neg c5] at H
      exact absurd H (by simp)
    ·rw [if_neg c4] at H
     have c4b0 : decide (x5_1 < (l0.length : Int)) = false := decide_eq_false c4; clear c4; obtain rfl := yM H; go_wp2
     repeat (go_quiet (fail); try go_wp2)
     go_ret; exact ⟨by first | rfl | (simp; done) | (simp [*]; done) | (simp [bne]; done), by repeat (first | exact Drawn0.refl _ | apply Drawn0.step)⟩
 ·rw [if_neg c3] at H
  have c3b0 : ((l0.length : Int) == (l1.length : Int)) = false := beq_eq_false_iff_ne.mpr c3; have c3b1 : ((l0.length : Int) != (l1.length : Int)) = true := bne_iff_ne.mpr c3; have c3b2 : (l0.length == l1.length) = false := by first | simpa using c3 | (simp at c3 ⊢; omega)
  exact absurd ((yM H).trans hr_.out) (by decide)
def laws_eqBlock.f (k : Nat) (a0_0 : ByteArray) (a0_1 : ByteArray) (l0_2 : List ByteArray) (a1_0 : ByteArray) (a1_1 : ByteArray) (l1_2 : List ByteArray) : Option (Bool) := if a0_0.toList = a1_0.toList then (if a0_1.toList = a1_1.toList then ((laws_eqStringS.f k l0_2 l1_2).bind fun t10 => (if t10 = true then (some true) else (some false))) else (some false)) else (some false)
theorem laws_eqBlock.calls (k : Nat) (a0_0 : ByteArray) (a0_1 : ByteArray) (A0_2 : Option Addr) (c0_2 : Nat) (l0_2 : List ByteArray) (a1_0 : ByteArray) (a1_1 : ByteArray) (A1_2 : Option Addr) (c1_2 : Nat) (l1_2 : List ByteArray) (r : Bool) (w : World) (hr0_2 : Kd.C Kd.string w A0_2 l0_2.length l0_2) (hc0_2 : l0_2.length ≤ c0_2) (hr1_2 : Kd.C Kd.string w A1_2 l1_2.length l1_2) (hc1_2 : l1_2.length ≤ c1_2) (h : laws_eqBlock.f k a0_0 a0_1 l0_2 a1_0 a1_1 l1_2 = some r) (hr_ : Aside0 (r = true)) :
  Calls Tryz.prog 27 #[.agg #[.string a0_0, .string a0_1, .slice A0_2 l0_2.length c0_2], .agg #[.string a1_0, .string a1_1, .slice A1_2 l1_2.length c1_2]] w fun e w' => e = .returned (.bool r) ∧ Below w.heap.size w w' := by
 have hu33 := Tryz.underlying33; have HR0_2 := zA hr0_2; have HC0_2 := zA hc0_2; clear hr0_2 hc0_2; have HR1_2 := zA hr1_2; have HC1_2 := zA hc1_2; clear hr1_2 hc1_2; have HB := zA (Below.refl w.heap.size w); have H : (if a0_0.toList = a1_0.toList then (if a0_1.toList = a1_1.toList then ((laws_eqStringS.f k l0_2 l1_2).bind fun t12 => (if t12 = true then (some true) else (some false))) else (some false)) else (some false)) = some r := h; clear h
 by_cases c3 : a0_0.toList = a1_0.toList
 ·rw [if_pos c3] at H
  have c3b0 : (a0_0.toList == a1_0.toList) = true := beq_iff_eq.mpr c3; have c3b1 : (a0_0.toList != a1_0.toList) = false := bne_eq_false_iff_eq.mpr c3; clear c3
  by_cases c4 : a0_1.toList = a1_1.toList
  ·rw [if_pos c4] at H
   have c4b0 : (a0_1.toList == a1_1.toList) = true := beq_iff_eq.mpr c4; have c4b1 : (a0_1.toList != a1_1.toList) = false := bne_eq_false_iff_eq.mpr c4; clear c4; replace H := zAF H; obtain ⟨t12, A50, H⟩ := H; replace H : (if t12 = true then (some true) else (some false)) = some r := H; have A5 := zA A50; clear A50
   by_cases c6 : t12 = true
   ·subst c6
    have H1 : (some true) = some r := by rw [if_pos rfl] at H; exact H
    clear H; have H := H1; clear H1; obtain rfl := yM H; go_enter Tryz.func27, Tryz.ntmps27; go_wp2_with (first | ((with_reducible refine gate_dst (N := 2) rfl ?_); refine box_event ?hg (N := 2) ?hd (cs := #[.string a0_0, .string a0_1, .slice A0_2 l0_2.length c0_2]) (t := 33) ?hr ?_; (case hd => rfl); (case hg => rfl); (case hr => first | (go_simp; done) | (go_simp; rfl)); intro gb13 hg w7 hbox hb; have n0_ := zA (zAD (by (with_reducible repeat first | exact HB.out | apply zH | apply zF | apply zG) <;> exact HB.out) hb); have n1_ := zA (hbox); have n2_ := zA ((by rw [hg]; exact (zAE (by (with_reducible repeat first | exact HB.out | apply zH | apply zF | apply zG) <;> exact HB.out)) : w.heap.size ≤ gb13)); have n3_ := zA ((by rw [hg]; exact (zAE (by (with_reducible repeat first | exact HB.out | apply zH | apply zF | apply zG) <;> exact HB.out)) : w.heap.size ≤ gb13)); clear HB; have HB := n0_; have BK13 := n1_; have GW13 := n2_; have GE13 := n3_; clear n0_ n1_ n2_ n3_; clear hb hbox hg) | ((with_reducible refine gate_dst (N := 3) rfl ?_); refine box_event ?hg (N := 3) ?hd (cs := #[.string a1_0, .string a1_1, .slice A1_2 l1_2.length c1_2]) (t := 33) ?hr ?_; (case hd => rfl); (case hg => rfl); (case hr => first | (go_simp; done) | (go_simp; rfl)); intro gb14 hg w8 hbox hb; have n0_ := zA (yE (g := gb13) (o := .cells #[.string a0_0, .string a0_1, .slice A0_2 l0_2.length c0_2] 33 (0, 0)) (by (with_reducible repeat (first | refine zL ?_ _ | refine zN ?_ | refine zM ?_ _)); exact BK13.out) hb); have n1_ := zA (zAD (by repeat (first | (with_reducible first | exact HB.out | apply zH | apply zF | apply zG | refine zI ?_ GE13.out) | exact HB.out)) hb); have n2_ := zA (hbox); have n3_ := zA ((by rw [hg]; exact (zAE (by repeat (first | (with_reducible first | exact HB.out | apply zH | apply zF | apply zG | refine zI ?_ GE13.out) | exact HB.out))) : w.heap.size ≤ gb14)); have n4_ := zA ((by rw [hg]; exact (zAE (by repeat (first | (with_reducible first | exact HB.out | apply zH | apply zF | apply zG | refine zI ?_ GE13.out) | exact HB.out))) : w.heap.size ≤ gb14)); have n5_ := zA ((by rw [hg]; exact zK (blk_lt (g := gb13) (o := .cells #[.string a0_0, .string a0_1, .slice A0_2 l0_2.length c0_2] 33 (0, 0)) (by (with_reducible repeat (first | refine zL ?_ _ | refine zN ?_ | refine zM ?_ _)); exact BK13.out)) : gb13 ≠ gb14)); have n6_ := zA ((by rw [hg]; exact Nat.ne_of_gt (blk_lt (g := gb13) (o := .cells #[.string a0_0, .string a0_1, .slice A0_2 l0_2.length c0_2] 33 (0, 0)) (by (with_reducible repeat (first | refine zL ?_ _ | refine zN ?_ | refine zM ?_ _)); exact BK13.out)) : gb14 ≠ gb13)); clear BK13; clear HB; have BK13 := n0_; have HB := n1_; have BK14 := n2_; have GW14 := n3_; have GE14 := n4_; have NB13_14 := n5_; have NB14_13 := n6_; clear n0_ n1_ n2_ n3_ n4_ n5_ n6_; clear hb hbox hg; have hnb9 := NB13_14.out; have hnc9 := NB14_13.out; have hcz10_0 := yL BK13.out 0 (.string a0_0) rfl; have hcz10_1 := yL BK13.out 1 (.string a0_1) rfl; have hcz10_2 := yL BK13.out 2 (.slice A0_2 l0_2.length c0_2) rfl; have hfz10_0 := zO BK13.out 0; have hfz10_1 := zO BK13.out 1; have hfz10_2 := zO BK13.out 2; have hcz11_0 := yL BK14.out 0 (.string a1_0) rfl; have hcz11_1 := yL BK14.out 1 (.string a1_1) rfl; have hcz11_2 := yL BK14.out 2 (.slice A1_2 l1_2.length c1_2) rfl; have hfz11_0 := zO BK14.out 0; have hfz11_1 := zO BK14.out 1; have hfz11_2 := zO BK14.out 2) | ((with_reducible refine yB (f := 67) rfl ?_); refine goesL_ (some 19) rfl rfl Tryz.func67 (by kernel_rfl) rfl #[.slice A0_2 l0_2.length c0_2, .slice A1_2 l1_2.length c1_2] rfl (by (try simp only [zAA, zAB, zAC]); first | done | rfl | (simp only [zZ, zY]; rfl)) ?_; (with_reducible refine (laws_eqStringS.calls k _ _ l0_2 _ _ l1_2 true _ ?side1 ?side2 ?side3 ?side4 A5.out ⟨rfl⟩).mono ?_); (case side1 => repeat (first | exact (yN HR0_2.out HB.out) | (with_reducible first | refine zT ?_ _ | refine zU ?_ _ | refine zV ?_))); (case side2 => exact HC0_2.out); (case side3 => repeat (first | exact (yN HR1_2.out HB.out) | (with_reducible first | refine zT ?_ _ | refine zU ?_ _ | refine zV ?_))); (case side4 => exact HC1_2.out); rintro e w' ⟨rfl, ⟨nd, rfl⟩⟩; refine ⟨_, rfl, ?_⟩)); go_ret; exact ⟨by first | rfl | (simp <;> rfl) | (simp [*] <;> rfl), by repeat (first | (with_reducible first | exact HB.out | apply zH | apply zF | apply zG | refine zI ?_ GE13.out | refine zI ?_ GE14.out) | exact HB.out)⟩
   ·replace c6 := yO c6
    subst c6; have H1 : (some false) = some r := by rw [if_neg (show ¬ (false = true) by decide)] at H; exact H
    clear H; have H := H1; clear H1; exact absurd ((yM H).trans hr_.out) (by decide)
  ·rw [if_neg c4] at H
   have c4b0 : (a0_1.toList == a1_1.toList) = false := beq_eq_false_iff_ne.mpr c4; have c4b1 : (a0_1.toList != a1_1.toList) = true := bne_iff_ne.mpr c4; exact absurd ((yM H).trans hr_.out) (by decide)
 ·rw [if_neg c3] at H
  have c3b0 : (a0_0.toList == a1_0.toList) = false := beq_eq_false_iff_ne.mpr c3; have c3b1 : (a0_0.toList != a1_0.toList) = true := bne_iff_ne.mpr c3; exact absurd ((yM H).trans hr_.out) (by decide)
def laws_eqSeal.f (k : Nat) (a0_0 : Int) (l0_1 : List ByteArray) (l0_2 : List ByteArray) (a1_0 : Int) (l1_1 : List ByteArray) (l1_2 : List ByteArray) : Option (Bool) := if a0_0 = a1_0 then ((laws_eqStringS.f k l0_1 l1_1).bind fun t10 => (if t10 = true then ((laws_eqStringS.f k l0_2 l1_2).bind fun t11 => (if t11 = true then (some true) else (some false))) else (some false))) else (some false)
theorem laws_eqSeal.calls (k : Nat) (a0_0 : Int) (A0_1 : Option Addr) (c0_1 : Nat) (l0_1 : List ByteArray) (A0_2 : Option Addr) (c0_2 : Nat) (l0_2 : List ByteArray) (a1_0 : Int) (A1_1 : Option Addr) (c1_1 : Nat) (l1_1 : List ByteArray) (A1_2 : Option Addr) (c1_2 : Nat) (l1_2 : List ByteArray) (r : Bool) (w : World) (hr0_1 : Kd.C Kd.string w A0_1 l0_1.length l0_1) (hc0_1 : l0_1.length ≤ c0_1) (hr0_2 : Kd.C Kd.string w A0_2 l0_2.length l0_2) (hc0_2 : l0_2.length ≤ c0_2) (hr1_1 : Kd.C Kd.string w A1_1 l1_1.length l1_1) (hc1_1 : l1_1.length ≤ c1_1) (hr1_2 : Kd.C Kd.string w A1_2 l1_2.length l1_2) (hc1_2 : l1_2.length ≤ c1_2) (h : laws_eqSeal.f k a0_0 l0_1 l0_2 a1_0 l1_1 l1_2 = some r) (hr_ : Aside0 (r = true)) :
  Calls Tryz.prog 28 #[.agg #[.int .i64 a0_0, .slice A0_1 l0_1.length c0_1, .slice A0_2 l0_2.length c0_2], .agg #[.int .i64 a1_0, .slice A1_1 l1_1.length c1_1, .slice A1_2 l1_2.length c1_2]] w fun e w' => e = .returned (.bool r) ∧ Below w.heap.size w w' := by
 have hu34 := Tryz.underlying34; have HR0_1 := zA hr0_1; have HC0_1 := zA hc0_1; clear hr0_1 hc0_1; have HR0_2 := zA hr0_2; have HC0_2 := zA hc0_2; clear hr0_2 hc0_2; have HR1_1 := zA hr1_1; have HC1_1 := zA hc1_1; clear hr1_1 hc1_1; have HR1_2 := zA hr1_2; have HC1_2 := zA hc1_2; clear hr1_2 hc1_2; have HB := zA (Below.refl w.heap.size w); have H : (if a0_0 = a1_0 then ((laws_eqStringS.f k l0_1 l1_1).bind fun t13 => (if t13 = true then ((laws_eqStringS.f k l0_2 l1_2).bind fun t14 => (if t14 = true then (some true) else (some false))) else (some false))) else (some false)) = some r := h; clear h
 by_cases c3 : a0_0 = a1_0
 ·rw [if_pos c3] at H
  have c3b0 : (a0_0 == a1_0) = true := beq_iff_eq.mpr c3; have c3b1 : (a0_0 != a1_0) = false := bne_eq_false_iff_eq.mpr c3; clear c3; replace H := zAF H; obtain ⟨t13, A40, H⟩ := H; replace H : (if t13 = true then ((laws_eqStringS.f k l0_2 l1_2).bind fun t14 => (if t14 = true then (some true) else (some false))) else (some false)) = some r := H; have A4 := zA A40; clear A40
  by_cases c5 : t13 = true
  ·subst c5
   have H1 : ((laws_eqStringS.f k l0_2 l1_2).bind fun t14 => (if t14 = true then (some true) else (some false))) = some r := by rw [if_pos rfl] at H; exact H
   clear H; have H := H1; clear H1; replace H := zAF H; obtain ⟨t14, A60, H⟩ := H; replace H : (if t14 = true then (some true) else (some false)) = some r := H; have A6 := zA A60; clear A60
   by_cases c7 : t14 = true
   ·subst c7
    have H1 : (some true) = some r := by rw [if_pos rfl] at H; exact H
    clear H; have H := H1; clear H1; obtain rfl := yM H; go_enter Tryz.func28, Tryz.ntmps28; go_wp2_with (first | ((with_reducible refine gate_dst (N := 2) rfl ?_); refine box_event ?hg (N := 2) ?hd (cs := #[.int .i64 a0_0, .slice A0_1 l0_1.length c0_1, .slice A0_2 l0_2.length c0_2]) (t := 34) ?hr ?_; (case hd => rfl); (case hg => rfl); (case hr => first | (go_simp; done) | (go_simp; rfl)); intro gb15 hg w8 hbox hb; have n0_ := zA (zAD (by (with_reducible repeat first | exact HB.out | apply zH | apply zF | apply zG) <;> exact HB.out) hb); have n1_ := zA (hbox); have n2_ := zA ((by rw [hg]; exact (zAE (by (with_reducible repeat first | exact HB.out | apply zH | apply zF | apply zG) <;> exact HB.out)) : w.heap.size ≤ gb15)); have n3_ := zA ((by rw [hg]; exact (zAE (by (with_reducible repeat first | exact HB.out | apply zH | apply zF | apply zG) <;> exact HB.out)) : w.heap.size ≤ gb15)); clear HB; have HB := n0_; have BK15 := n1_; have GW15 := n2_; have GE15 := n3_; clear n0_ n1_ n2_ n3_; clear hb hbox hg) | ((with_reducible refine gate_dst (N := 3) rfl ?_); refine box_event ?hg (N := 3) ?hd (cs := #[.int .i64 a1_0, .slice A1_1 l1_1.length c1_1, .slice A1_2 l1_2.length c1_2]) (t := 34) ?hr ?_; (case hd => rfl); (case hg => rfl); (case hr => first | (go_simp; done) | (go_simp; rfl)); intro gb16 hg w9 hbox hb; have n0_ := zA (yE (g := gb15) (o := .cells #[.int .i64 a0_0, .slice A0_1 l0_1.length c0_1, .slice A0_2 l0_2.length c0_2] 34 (0, 0)) (by (with_reducible repeat (first | refine zL ?_ _ | refine zN ?_ | refine zM ?_ _)); exact BK15.out) hb); have n1_ := zA (zAD (by repeat (first | (with_reducible first | exact HB.out | apply zH | apply zF | apply zG | refine zI ?_ GE15.out) | exact HB.out)) hb); have n2_ := zA (hbox); have n3_ := zA ((by rw [hg]; exact (zAE (by repeat (first | (with_reducible first | exact HB.out | apply zH | apply zF | apply zG | refine zI ?_ GE15.out) | exact HB.out))) : w.heap.size ≤ gb16)); have n4_ := zA ((by rw [hg]; exact (zAE (by repeat (first | (with_reducible first | exact HB.out | apply zH | apply zF | apply zG | refine zI ?_ GE15.out) | exact HB.out))) : w.heap.size ≤ gb16)); have n5_ := zA ((by rw [hg]; exact zK (blk_lt (g := gb15) (o := .cells #[.int .i64 a0_0, .slice A0_1 l0_1.length c0_1, .slice A0_2 l0_2.length c0_2] 34 (0, 0)) (by (with_reducible repeat (first | refine zL ?_ _ | refine zN ?_ | refine zM ?_ _)); exact BK15.out)) : gb15 ≠ gb16)); have n6_ := zA ((by rw [hg]; exact Nat.ne_of_gt (blk_lt (g := gb15) (o := .cells #[.int .i64 a0_0, .slice A0_1 l0_1.length c0_1, .slice A0_2 l0_2.length c0_2] 34 (0, 0)) (by (with_reducible repeat (first | refine zL ?_ _ | refine zN ?_ | refine zM ?_ _)); exact BK15.out)) : gb16 ≠ gb15)); clear BK15; clear HB; have BK15 := n0_; have HB := n1_; have BK16 := n2_; have GW16 := n3_; have GE16 := n4_; have NB15_16 := n5_; have NB16_15 := n6_; clear n0_ n1_ n2_ n3_ n4_ n5_ n6_; clear hb hbox hg; have hnb10 := NB15_16.out; have hnc10 := NB16_15.out; have hcz11_0 := yL BK15.out 0 (.int .i64 a0_0) rfl; have hcz11_1 := yL BK15.out 1 (.slice A0_1 l0_1.length c0_1) rfl; have hcz11_2 := yL BK15.out 2 (.slice A0_2 l0_2.length c0_2) rfl; have hfz11_0 := zO BK15.out 0; have hfz11_1 := zO BK15.out 1; have hfz11_2 := zO BK15.out 2; have hcz12_0 := yL BK16.out 0 (.int .i64 a1_0) rfl; have hcz12_1 := yL BK16.out 1 (.slice A1_1 l1_1.length c1_1) rfl; have hcz12_2 := yL BK16.out 2 (.slice A1_2 l1_2.length c1_2) rfl; have hfz12_0 := zO BK16.out 0; have hfz12_1 := zO BK16.out 1; have hfz12_2 := zO BK16.out 2) | ((with_reducible refine yB (f := 67) rfl ?_); refine goesL_ (some 14) rfl rfl Tryz.func67 (by kernel_rfl) rfl #[.slice A0_1 l0_1.length c0_1, .slice A1_1 l1_1.length c1_1] rfl (by (try simp only [zAA, zAB, zAC]); first | done | rfl | (simp only [zZ, zY]; rfl)) ?_; (with_reducible refine (laws_eqStringS.calls k _ _ l0_1 _ _ l1_1 true _ ?side1 ?side2 ?side3 ?side4 A4.out ⟨rfl⟩).mono ?_); (case side1 => repeat (first | exact (yN HR0_1.out HB.out) | (with_reducible first | refine zT ?_ _ | refine zU ?_ _ | refine zV ?_))); (case side2 => exact HC0_1.out); (case side3 => repeat (first | exact (yN HR1_1.out HB.out) | (with_reducible first | refine zT ?_ _ | refine zU ?_ _ | refine zV ?_))); (case side4 => exact HC1_1.out); rintro e w' ⟨rfl, ⟨nd, rfl⟩⟩; refine ⟨_, rfl, ?_⟩) | ((with_reducible refine yB (f := 67) rfl ?_); refine goesL_ (some 20) rfl rfl Tryz.func67 (by kernel_rfl) rfl #[.slice A0_2 l0_2.length c0_2, .slice A1_2 l1_2.length c1_2] rfl (by (try simp only [zAA, zAB, zAC]); first | done | rfl | (simp only [zZ, zY]; rfl)) ?_; (with_reducible refine (laws_eqStringS.calls k _ _ l0_2 _ _ l1_2 true _ ?side1 ?side2 ?side3 ?side4 A6.out ⟨rfl⟩).mono ?_); (case side1 => repeat (first | exact (yN HR0_2.out (by repeat (first | (with_reducible first | exact HB.out | apply zH | apply zF | apply zG | refine zI ?_ GE15.out | refine zI ?_ GE16.out) | exact HB.out))) | (with_reducible first | refine zT ?_ _ | refine zU ?_ _ | refine zV ?_))); (case side2 => exact HC0_2.out); (case side3 => repeat (first | exact (yN HR1_2.out (by repeat (first | (with_reducible first | exact HB.out | apply zH | apply zF | apply zG | refine zI ?_ GE15.out | refine zI ?_ GE16.out) | exact HB.out))) | (with_reducible first | refine zT ?_ _ | refine zU ?_ _ | refine zV ?_))); (case side4 => exact HC1_2.out); rintro e w' ⟨rfl, ⟨nd, rfl⟩⟩; refine ⟨_, rfl, ?_⟩))
    go_ret; exact ⟨by first | rfl | (simp <;> rfl) | (simp [*] <;> rfl), by repeat (first | (with_reducible first | exact HB.out | apply zH | apply zF | apply zG | refine zI ?_ GE15.out | refine zI ?_ GE16.out) | exact HB.out)⟩
   ·replace c7 := yO c7
    subst c7; have H1 : (some false) = some r := by rw [if_neg (show ¬ (false = true) by decide)] at H; exact H
    clear H; have H := H1; clear H1; exact absurd ((yM H).trans hr_.out) (by decide)
  ·replace c5 := yO c5
   subst c5; have H1 : (some false) = some r := by rw [if_neg (show ¬ (false = true) by decide)] at H; exact H
   clear H; have H := H1; clear H1; exact absurd ((yM H).trans hr_.out) (by decide)
 ·rw [if_neg c3] at H
  have c3b0 : (a0_0 == a1_0) = false := beq_eq_false_iff_ne.mpr c3; have c3b1 : (a0_0 != a1_0) = true := bne_iff_ne.mpr c3; exact absurd ((yM H).trans hr_.out) (by decide)
def laws_eqShown.f (k : Nat) (l0_0 : List ByteArray) (l0_1 : List ByteArray) (l0_2 : List ByteArray) (a0_3 : Int) (l1_0 : List ByteArray) (l1_1 : List ByteArray) (l1_2 : List ByteArray) (a1_3 : Int) : Option (Bool) := (laws_eqStringS.f k l0_0 l1_0).bind fun t10 => (if t10 = true then ((laws_eqStringS.f k l0_1 l1_1).bind fun t11 => (if t11 = true then ((laws_eqStringS.f k l0_2 l1_2).bind fun t12 => (if t12 = true then (if a0_3 = a1_3 then (some true) else (some false)) else (some false))) else (some false))) else (some false))
theorem laws_eqShown.calls (k : Nat) (A0_0 : Option Addr) (c0_0 : Nat) (l0_0 : List ByteArray) (A0_1 : Option Addr) (c0_1 : Nat) (l0_1 : List ByteArray) (A0_2 : Option Addr) (c0_2 : Nat) (l0_2 : List ByteArray) (a0_3 : Int) (A1_0 : Option Addr) (c1_0 : Nat) (l1_0 : List ByteArray) (A1_1 : Option Addr) (c1_1 : Nat) (l1_1 : List ByteArray) (A1_2 : Option Addr) (c1_2 : Nat) (l1_2 : List ByteArray) (a1_3 : Int) (r : Bool) (w : World) (hr0_0 : Kd.C Kd.string w A0_0 l0_0.length l0_0) (hc0_0 : l0_0.length ≤ c0_0) (hr0_1 : Kd.C Kd.string w A0_1 l0_1.length l0_1) (hc0_1 : l0_1.length ≤ c0_1) (hr0_2 : Kd.C Kd.string w A0_2 l0_2.length l0_2) (hc0_2 : l0_2.length ≤ c0_2) (hr1_0 : Kd.C Kd.string w A1_0 l1_0.length l1_0) (hc1_0 : l1_0.length ≤ c1_0) (hr1_1 : Kd.C Kd.string w A1_1 l1_1.length l1_1) (hc1_1 : l1_1.length ≤ c1_1) (hr1_2 : Kd.C Kd.string w A1_2 l1_2.length l1_2) (hc1_2 : l1_2.length ≤ c1_2) (h : laws_eqShown.f k l0_0 l0_1 l0_2 a0_3 l1_0 l1_1 l1_2 a1_3 = some r) (hr_ : Aside0 (r = true)) :
  Calls Tryz.prog 68 #[.agg #[.slice A0_0 l0_0.length c0_0, .slice A0_1 l0_1.length c0_1, .slice A0_2 l0_2.length c0_2, .int .i64 a0_3], .agg #[.slice A1_0 l1_0.length c1_0, .slice A1_1 l1_1.length c1_1, .slice A1_2 l1_2.length c1_2, .int .i64 a1_3]] w fun e w' => e = .returned (.bool r) ∧ Below w.heap.size w w' := by
 have hu85 := Tryz.underlying85; have HR0_0 := zA hr0_0; have HC0_0 := zA hc0_0; clear hr0_0 hc0_0; have HR0_1 := zA hr0_1; have HC0_1 := zA hc0_1; clear hr0_1 hc0_1; have HR0_2 := zA hr0_2; have HC0_2 := zA hc0_2; clear hr0_2 hc0_2; have HR1_0 := zA hr1_0; have HC1_0 := zA hc1_0; clear hr1_0 hc1_0; have HR1_1 := zA hr1_1; have HC1_1 := zA hc1_1; clear hr1_1 hc1_1; have HR1_2 := zA hr1_2; have HC1_2 := zA hc1_2; clear hr1_2 hc1_2; have HB := zA (Below.refl w.heap.size w); have H : ((laws_eqStringS.f k l0_0 l1_0).bind fun t15 => (if t15 = true then ((laws_eqStringS.f k l0_1 l1_1).bind fun t16 => (if t16 = true then ((laws_eqStringS.f k l0_2 l1_2).bind fun t17 => (if t17 = true then (if a0_3 = a1_3 then (some true) else (some false)) else (some false))) else (some false))) else (some false))) = some r := h; clear h; replace H := zAF H; obtain ⟨t15, A30, H⟩ := H; replace H : (if t15 = true then ((laws_eqStringS.f k l0_1 l1_1).bind fun t16 => (if t16 = true then ((laws_eqStringS.f k l0_2 l1_2).bind fun t17 => (if t17 = true then (if a0_3 = a1_3 then (some true) else (some false)) else (some false))) else (some false))) else (some false)) = some r := H; have A3 := zA A30; clear A30
 by_cases c4 : t15 = true
 ·subst c4
  have H1 : ((laws_eqStringS.f k l0_1 l1_1).bind fun t16 => (if t16 = true then ((laws_eqStringS.f k l0_2 l1_2).bind fun t17 => (if t17 = true then (if a0_3 = a1_3 then (some true) else (some false)) else (some false))) else (some false))) = some r := by rw [if_pos rfl] at H; exact H
  clear H; have H := H1; clear H1; replace H := zAF H; obtain ⟨t16, A50, H⟩ := H; replace H : (if t16 = true then ((laws_eqStringS.f k l0_2 l1_2).bind fun t17 => (if t17 = true then (if a0_3 = a1_3 then (some true) else (some false)) else (some false))) else (some false)) = some r := H; have A5 := zA A50; clear A50
  by_cases c6 : t16 = true
  ·subst c6
   have H1 : ((laws_eqStringS.f k l0_2 l1_2).bind fun t17 => (if t17 = true then (if a0_3 = a1_3 then (some true) else (some false)) else (some false))) = some r := by rw [if_pos rfl] at H; exact H
   clear H; have H := H1; clear H1; replace H := zAF H; obtain ⟨t17, A70, H⟩ := H; replace H : (if t17 = true then (if a0_3 = a1_3 then (some true) else (some false)) else (some false)) = some r := H; have A7 := zA A70; clear A70
   by_cases c8 : t17 = true
   ·subst c8
    have H1 : (if a0_3 = a1_3 then (some true) else (some false)) = some r := by rw [if_pos rfl] at H; exact H
    clear H; have H := H1; clear H1
    by_cases c9 : a0_3 = a1_3
    ·rw [if_pos c9] at H
     have c9b0 : (a0_3 == a1_3) = true := beq_iff_eq.mpr c9; have c9b1 : (a0_3 != a1_3) = false := bne_eq_false_iff_eq.mpr c9; clear c9; obtain rfl := yM H; go_enter Tryz.func68, Tryz.ntmps68; go_wp2_with (first | ((with_reducible refine gate_dst (N := 2) rfl ?_); refine box_event ?hg (N := 2) ?hd (cs := #[.slice A0_0 l0_0.length c0_0, .slice A0_1 l0_1.length c0_1, .slice A0_2 l0_2.length c0_2, .int .i64 a0_3]) (t := 85) ?hr ?_; (case hd => rfl); (case hg => rfl); (case hr => first | (go_simp; done) | (go_simp; rfl)); intro gb18 hg w10 hbox hb; have n0_ := zA (zAD (by (with_reducible repeat first | exact HB.out | apply zH | apply zF | apply zG) <;> exact HB.out) hb); have n1_ := zA (hbox); have n2_ := zA ((by rw [hg]; exact (zAE (by (with_reducible repeat first | exact HB.out | apply zH | apply zF | apply zG) <;> exact HB.out)) : w.heap.size ≤ gb18)); have n3_ := zA ((by rw [hg]; exact (zAE (by (with_reducible repeat first | exact HB.out | apply zH | apply zF | apply zG) <;> exact HB.out)) : w.heap.size ≤ gb18)); clear HB; have HB := n0_; have BK18 := n1_; have GW18 := n2_; have GE18 := n3_; clear n0_ n1_ n2_ n3_; clear hb hbox hg) | ((with_reducible refine gate_dst (N := 3) rfl ?_); refine box_event ?hg (N := 3) ?hd (cs := #[.slice A1_0 l1_0.length c1_0, .slice A1_1 l1_1.length c1_1, .slice A1_2 l1_2.length c1_2, .int .i64 a1_3]) (t := 85) ?hr ?_; (case hd => rfl); (case hg => rfl); (case hr => first | (go_simp; done) | (go_simp; rfl)); intro gb19 hg w11 hbox hb; have n0_ := zA (yE (g := gb18) (o := .cells #[.slice A0_0 l0_0.length c0_0, .slice A0_1 l0_1.length c0_1, .slice A0_2 l0_2.length c0_2, .int .i64 a0_3] 85 (0, 0)) (by (with_reducible repeat (first | refine zL ?_ _ | refine zN ?_ | refine zM ?_ _)); exact BK18.out) hb); have n1_ := zA (zAD (by repeat (first | (with_reducible first | exact HB.out | apply zH | apply zF | apply zG | refine zI ?_ GE18.out) | exact HB.out)) hb); have n2_ := zA (hbox); have n3_ := zA ((by rw [hg]; exact (zAE (by repeat (first | (with_reducible first | exact HB.out | apply zH | apply zF | apply zG | refine zI ?_ GE18.out) | exact HB.out))) : w.heap.size ≤ gb19)); have n4_ := zA ((by rw [hg]; exact (zAE (by repeat (first | (with_reducible first | exact HB.out | apply zH | apply zF | apply zG | refine zI ?_ GE18.out) | exact HB.out))) : w.heap.size ≤ gb19)); have n5_ := zA ((by rw [hg]; exact zK (blk_lt (g := gb18) (o := .cells #[.slice A0_0 l0_0.length c0_0, .slice A0_1 l0_1.length c0_1, .slice A0_2 l0_2.length c0_2, .int .i64 a0_3] 85 (0, 0)) (by (with_reducible repeat (first | refine zL ?_ _ | refine zN ?_ | refine zM ?_ _)); exact BK18.out)) : gb18 ≠ gb19)); have n6_ := zA ((by rw [hg]; exact Nat.ne_of_gt (blk_lt (g := gb18) (o := .cells #[.slice A0_0 l0_0.length c0_0, .slice A0_1 l0_1.length c0_1, .slice A0_2 l0_2.length c0_2, .int .i64 a0_3] 85 (0, 0)) (by (with_reducible repeat (first | refine zL ?_ _ | refine zN ?_ | refine zM ?_ _)); exact BK18.out)) : gb19 ≠ gb18)); clear BK18; clear HB; have BK18 := n0_; have HB := n1_; have BK19 := n2_; have GW19 := n3_; have GE19 := n4_; have NB18_19 := n5_; have NB19_18 := n6_; clear n0_ n1_ n2_ n3_ n4_ n5_ n6_; clear hb hbox hg; have hnb12 := NB18_19.out; have hnc12 := NB19_18.out; have hcz13_0 := yL BK18.out 0 (.slice A0_0 l0_0.length c0_0) rfl; have hcz13_1 := yL BK18.out 1 (.slice A0_1 l0_1.length c0_1) rfl; have hcz13_2 := yL BK18.out 2 (.slice A0_2 l0_2.length c0_2) rfl; have hcz13_3 := yL BK18.out 3 (.int .i64 a0_3) rfl; have hfz13_0 := zO BK18.out 0; have hfz13_1 := zO BK18.out 1; have hfz13_2 := zO BK18.out 2; have hfz13_3 := zO BK18.out 3; have hcz14_0 := yL BK19.out 0 (.slice A1_0 l1_0.length c1_0) rfl; have hcz14_1 := yL BK19.out 1 (.slice A1_1 l1_1.length c1_1) rfl; have hcz14_2 := yL BK19.out 2 (.slice A1_2 l1_2.length c1_2) rfl; have hcz14_3 := yL BK19.out 3 (.int .i64 a1_3) rfl; have hfz14_0 := zO BK19.out 0; have hfz14_1 := zO BK19.out 1; have hfz14_2 := zO BK19.out 2; have hfz14_3 := zO BK19.out 3) | ((with_reducible refine yB (f := 67) rfl ?_); refine goesL_ (some 9) rfl rfl Tryz.func67 (by kernel_rfl) rfl #[.slice A0_0 l0_0.length c0_0, .slice A1_0 l1_0.length c1_0] rfl (by (try simp only [zAA, zAB, zAC]); first | done | rfl | (simp only [zZ, zY]; rfl)) ?_; (with_reducible refine (laws_eqStringS.calls k _ _ l0_0 _ _ l1_0 true _ ?side1 ?side2 ?side3 ?side4 A3.out ⟨rfl⟩).mono ?_); (case side1 => repeat (first | exact (yN HR0_0.out HB.out) | (with_reducible first | refine zT ?_ _ | refine zU ?_ _ | refine zV ?_))); (case side2 => exact HC0_0.out); (case side3 => repeat (first | exact (yN HR1_0.out HB.out) | (with_reducible first | refine zT ?_ _ | refine zU ?_ _ | refine zV ?_))); (case side4 => exact HC1_0.out); rintro e w' ⟨rfl, ⟨nd, rfl⟩⟩; refine ⟨_, rfl, ?_⟩) | ((with_reducible refine yB (f := 67) rfl ?_); refine goesL_ (some 15) rfl rfl Tryz.func67 (by kernel_rfl) rfl #[.slice A0_1 l0_1.length c0_1, .slice A1_1 l1_1.length c1_1] rfl (by (try simp only [zAA, zAB, zAC]); first | done | rfl | (simp only [zZ, zY]; rfl)) ?_; (with_reducible refine (laws_eqStringS.calls k _ _ l0_1 _ _ l1_1 true _ ?side1 ?side2 ?side3 ?side4 A5.out ⟨rfl⟩).mono ?_); (case side1 => repeat (first | exact (yN HR0_1.out (by repeat (first | (with_reducible first | exact HB.out | apply zH | apply zF | apply zG | refine zI ?_ GE18.out | refine zI ?_ GE19.out) | exact HB.out))) | (with_reducible first | refine zT ?_ _ | refine zU ?_ _ | refine zV ?_))); (case side2 => exact HC0_1.out); (case side3 => repeat (first | exact (yN HR1_1.out (by repeat (first | (with_reducible first | exact HB.out | apply zH | apply zF | apply zG | refine zI ?_ GE18.out | refine zI ?_ GE19.out) | exact HB.out))) | (with_reducible first | refine zT ?_ _ | refine zU ?_ _ | refine zV ?_))); (case side4 => exact HC1_1.out); rintro e w' ⟨rfl, ⟨nd, rfl⟩⟩; refine ⟨_, rfl, ?_⟩) | ((with_reducible refine yB (f := 67) rfl ?_); refine goesL_ (some 21) rfl rfl Tryz.func67 (by kernel_rfl) rfl #[.slice A0_2 l0_2.length c0_2, .slice A1_2 l1_2.length c1_2] rfl (by (try simp only [zAA, zAB, zAC]); first | done | rfl | (simp only [zZ, zY]; rfl)) ?_; (with_reducible refine (laws_eqStringS.calls k _ _ l0_2 _ _ l1_2 true _ ?side1 ?side2 ?side3 ?side4 A7.out ⟨rfl⟩).mono ?_); (case side1 => repeat (first | exact (yN HR0_2.out (by repeat (first | (with_reducible first | exact HB.out | apply zH | apply zF | apply zG | refine zI ?_ GE18.out | refine zI ?_ GE19.out) | exact HB.out))) | (with_reducible first | refine zT ?_ _ | refine zU ?_ _ | refine zV ?_))); (case side2 => exact HC0_2.out); (case side3 => repeat (first | exact (yN HR1_2.out (by repeat (first | (with_reducible first | exact HB.out | apply zH | apply zF | apply zG | refine zI ?_ GE18.out | refine zI ?_ GE19.out) | exact HB.out))) | (with_reducible first | refine zT ?_ _ | refine zU ?_ _ | refine zV ?_))); (case side4 => exact HC1_2.out); rintro e w' ⟨rfl, ⟨nd, rfl⟩⟩; refine ⟨_, rfl, ?_⟩))
     go_ret; exact ⟨by first | rfl | (simp <;> rfl) | (simp [*] <;> rfl), by repeat (first | (with_reducible first | exact HB.out | apply zH | apply zF | apply zG | refine zI ?_ GE18.out | refine zI ?_ GE19.out) | exact HB.out)⟩
    ·rw [if_neg c9] at H
     have c9b0 : (a0_3 == a1_3) = false := beq_eq_false_iff_ne.mpr c9; have c9b1 : (a0_3 != a1_3) = true := bne_iff_ne.mpr c9; exact absurd ((yM H).trans hr_.out) (by decide)
   ·replace c8 := yO c8
    subst c8; have H1 : (some false) = some r := by rw [if_neg (show ¬ (false = true) by decide)] at H; exact H
    clear H; have H := H1; clear H1; exact absurd ((yM H).trans hr_.out) (by decide)
  ·replace c6 := yO c6
   subst c6; have H1 : (some false) = some r := by rw [if_neg (show ¬ (false = true) by decide)] at H; exact H
   clear H; have H := H1; clear H1; exact absurd ((yM H).trans hr_.out) (by decide)
 ·replace c4 := yO c4
  subst c4; have H1 : (some false) = some r := by rw [if_neg (show ¬ (false = true) by decide)] at H; exact H
  clear H; have H := H1; clear H1; exact absurd ((yM H).trans hr_.out) (by decide)
def laws_eqShownS.l0 : Nat → List (S85) → List (S85) → Int → Option (Bool)
 | 0, _, _, _ => none
 | k + 1, x0, x1, x5 => if x5 < (x0.length : Int) then (if 0 ≤ x5 then (if x5 < (x1.length : Int) then ((laws_eqShown.f k ((rd_T85 x0 x5).f0) ((rd_T85 x0 x5).f1) ((rd_T85 x0 x5).f2) ((rd_T85 x0 x5).f3) ((rd_T85 x1 x5).f0) ((rd_T85 x1 x5).f1) ((rd_T85 x1 x5).f2) ((rd_T85 x1 x5).f3)).bind fun t10 => (if t10 = true then (laws_eqShownS.l0 k x0 x1 (wrap64 (x5 + 1))) else (some false))) else (none)) else (none)) else (some true)
def laws_eqShownS.f (k : Nat) (l0 : List (S85)) (l1 : List (S85)) : Option (Bool) := if (l0.length : Int) = (l1.length : Int) then (laws_eqShownS.l0 k l0 l1 0) else (some false)
def laws_eqShownS.T6 : Bool × List (List Nat × List Nat) := (true, [([], []), ([], []), ([0, 1], [0, 1]), ([2], [2]), ([], []), ([], []), ([4, 5], [4, 5]), ([6], [6]), ([3, 7], [3, 7]), ([8], [8])])
def laws_eqShownS.B6 : List Nat := [0, 0, 3, 7, 0, 0, 48, 112, 255, 511]
theorem laws_eqShownS.tab6 : rtab .any (opsOf Tryz.f29 6) = laws_eqShownS.T6 := by kernel_rfl
theorem laws_eqShownS.bits6 : waitsOk laws_eqShownS.T6.2 laws_eqShownS.B6 = true := by kernel_rfl
theorem laws_eqShownS.calls (k : Nat) (A0 : Option Addr) (c0 : Nat) (l0 : List (S85)) (A1 : Option Addr) (c1 : Nat) (l1 : List (S85)) (r : Bool) (w : World) (hr0 : Kd.C k85 w A0 l0.length l0) (hc0 : l0.length ≤ c0) (hr1 : Kd.C k85 w A1 l1.length l1) (hc1 : l1.length ≤ c1) (h : laws_eqShownS.f k l0 l1 = some r) (hr_ : Aside0 (r = true)) :
  Calls Tryz.prog 29 #[.slice A0 l0.length c0, .slice A1 l1.length c1] w fun e w' => e = .returned (.bool r) ∧ Below w.heap.size w w' := by
 have hu85 := Tryz.underlying85; have HR0 := zA hr0; have HC0 := zA hc0; clear hr0 hc0; have HR1 := zA hr1; have HC1 := zA hc1; clear hr1 hc1; have HB := zA (Below.refl w.heap.size w); have H : (if (l0.length : Int) = (l1.length : Int) then (laws_eqShownS.l0 k l0 l1 0) else (some false)) = some r := h; clear h
 by_cases c3 : (l0.length : Int) = (l1.length : Int)
 ·rw [if_pos c3] at H
  have c3b0 : ((l0.length : Int) == (l1.length : Int)) = true := beq_iff_eq.mpr c3; have c3b1 : ((l0.length : Int) != (l1.length : Int)) = false := bne_eq_false_iff_eq.mpr c3; have c3b2 : (l0.length == l1.length) = true := by first | simpa using c3 | (simp at c3 ⊢; omega)
  clear c3; have H' := zA H; clear H; go_enter Tryz.func29, Tryz.ntmps29; go_wp2; go_loopg [5] k (fun kq v5 w' => ∃ (x5_1 : Int), v5 = .int .i64 x5_1 ∧ Aside0 (laws_eqShownS.l0 kq l0 l1 x5_1 = some r) ∧ Aside0 (kq ≤ k) ∧ Aside0 (Below w.heap.size w w'))
  case atStart => exact ⟨(0), (by first | rfl | (simp; done) | (simp [*]; done) | (simp [bne]; done)), H', ⟨Nat.le_refl _⟩, ⟨by (with_reducible repeat first | exact HB.out | apply zH | apply zF | apply zG) <;> exact HB.out⟩⟩
  case round =>
   clear H'
   try clear c1
   try clear c2
   try clear p2
   try clear c3
   try clear c3b0
   try clear c3b1
   try clear c3b2
   obtain ⟨x5_1, rfl, HA, HK1, HB⟩ := hrel
   cases gk with
   | zero => exact absurd HA.out (by simp [laws_eqShownS.l0])
   | succ k1 =>
    have H := HA.out; clear HA; simp only [laws_eqShownS.l0] at H
    by_cases c4 : x5_1 < (l0.length : Int)
    ·rw [if_pos c4] at H
     have c4b0 : decide (x5_1 < (l0.length : Int)) = true := zX c4; clear c4
     by_cases c5 : 0 ≤ x5_1
     ·rw [if_pos c5] at H
      have c5b0 : decide (0 ≤ x5_1) = true := zX c5; clear c5
      by_cases c6 : x5_1 < (l1.length : Int)
      ·rw [if_pos c6] at H
       have c6b0 : decide (x5_1 < (l1.length : Int)) = true := zX c6; clear c6; replace H := zAF H; obtain ⟨t13, A70, H⟩ := H; replace H : (if t13 = true then (laws_eqShownS.l0 k1 l0 l1 (wrap64 (x5_1 + 1))) else (some false)) = some r := H; have A7 := zA A70; clear A70
       by_cases c8 : t13 = true
       ·subst c8
        have H1 : (laws_eqShownS.l0 k1 l0 l1 (wrap64 (x5_1 + 1))) = some r := by rw [if_pos rfl] at H; exact H
        clear H; have H := H1; clear H1; have H' := zA H; clear H
        try go_wp2
        have n0_ := zA (zG HB.out); clear HB; have HB := n0_; clear n0_; have p14 : 0 ≤ (x5_1 : Int) := zW (by first | (with_reducible assumption) | assumption); have q14 : x5_1 < (l0.length : Int) := zW (by first | (with_reducible assumption) | assumption); obtain ⟨ad14, A14_0, c14_0, A14_1, c14_1, A14_2, c14_2, e14, hx14_0, hx14_1, hx14_2, hx14_3, hl14_0, hi14_0, hl14_1, hi14_1, hl14_2, hi14_2⟩ := at_T85 HR0.out x5_1 p14 q14; have hw14_3 := hx14_3; have hw14_2 := hx14_2; have hw14_1 := hx14_1; have hw14_0 := hx14_0
        cases e14
        replace hx14_0 := (HB.out.cell (zB w _ hx14_0)).trans hx14_0; replace hx14_1 := (HB.out.cell (zB w _ hx14_1)).trans hx14_1; replace hx14_2 := (HB.out.cell (zB w _ hx14_2)).trans hx14_2; replace hx14_3 := (HB.out.cell (zB w _ hx14_3)).trans hx14_3; have HR14_0 := zA hi14_0; have HC14_0 := zA hl14_0; clear hi14_0 hl14_0; have HR14_1 := zA hi14_1; have HC14_1 := zA hl14_1; clear hi14_1 hl14_1; have HR14_2 := zA hi14_2; have HC14_2 := zA hl14_2; clear hi14_2 hl14_2; replace p14 := eq_true p14; replace q14 := eq_true q14; have p15 : 0 ≤ (x5_1 : Int) := zW (by first | (with_reducible assumption) | assumption); have q15 : x5_1 < (l1.length : Int) := zW (by first | (with_reducible assumption) | assumption); obtain ⟨ad15, A15_0, c15_0, A15_1, c15_1, A15_2, c15_2, e15, hx15_0, hx15_1, hx15_2, hx15_3, hl15_0, hi15_0, hl15_1, hi15_1, hl15_2, hi15_2⟩ := at_T85 HR1.out x5_1 p15 q15; have hw15_3 := hx15_3; have hw15_2 := hx15_2; have hw15_1 := hx15_1; have hw15_0 := hx15_0
        cases e15
        replace hx15_0 := (HB.out.cell (zB w _ hx15_0)).trans hx15_0; replace hx15_1 := (HB.out.cell (zB w _ hx15_1)).trans hx15_1; replace hx15_2 := (HB.out.cell (zB w _ hx15_2)).trans hx15_2; replace hx15_3 := (HB.out.cell (zB w _ hx15_3)).trans hx15_3; have HR15_0 := zA hi15_0; have HC15_0 := zA hl15_0; clear hi15_0 hl15_0; have HR15_1 := zA hi15_1; have HC15_1 := zA hl15_1; clear hi15_1 hl15_1; have HR15_2 := zA hi15_2; have HC15_2 := zA hl15_2; clear hi15_2 hl15_2; replace p15 := eq_true p15; replace q15 := eq_true q15; refine start_ (n := 10) (S := fun w' => w'.cell? (ad14.add ((x5_1).toNat * 4)) = some (.slice A14_0 ((rd_T85 l0 x5_1).f0).length c14_0) ∧ w'.cell? ⟨(ad14.add ((x5_1).toNat * 4)).block, (ad14.add ((x5_1).toNat * 4)).off + 1, none⟩ = some (.slice A14_1 ((rd_T85 l0 x5_1).f1).length c14_1) ∧ w'.cell? ⟨(ad14.add ((x5_1).toNat * 4)).block, (ad14.add ((x5_1).toNat * 4)).off + 2, none⟩ = some (.slice A14_2 ((rd_T85 l0 x5_1).f2).length c14_2) ∧ w'.cell? ⟨(ad14.add ((x5_1).toNat * 4)).block, (ad14.add ((x5_1).toNat * 4)).off + 3, none⟩ = some (.int .i64 ((rd_T85 l0 x5_1).f3)) ∧ w'.cell? (ad15.add ((x5_1).toNat * 4)) = some (.slice A15_0 ((rd_T85 l1 x5_1).f0).length c15_0) ∧ w'.cell? ⟨(ad15.add ((x5_1).toNat * 4)).block, (ad15.add ((x5_1).toNat * 4)).off + 1, none⟩ = some (.slice A15_1 ((rd_T85 l1 x5_1).f1).length c15_1) ∧ w'.cell? ⟨(ad15.add ((x5_1).toNat * 4)).block, (ad15.add ((x5_1).toNat * 4)).off + 2, none⟩ = some (.slice A15_2 ((rd_T85 l1 x5_1).f2).length c15_2) ∧ w'.cell? ⟨(ad15.add ((x5_1).toNat * 4)).block, (ad15.add ((x5_1).toNat * 4)).off + 3, none⟩ = some (.int .i64 ((rd_T85 l1 x5_1).f3))) (ds := []) #[false, false, false, false, false, false, false, false, false, false] (by kernel_rfl) rfl rfl ⟨((HB.out.cell (zB w _ hw14_0)).trans hw14_0), ((HB.out.cell (zB w _ hw14_1)).trans hw14_1), ((HB.out.cell (zB w _ hw14_2)).trans hw14_2), ((HB.out.cell (zB w _ hw14_3)).trans hw14_3), ((HB.out.cell (zB w _ hw15_0)).trans hw15_0), ((HB.out.cell (zB w _ hw15_1)).trans hw15_1), ((HB.out.cell (zB w _ hw15_2)).trans hw15_2), ((HB.out.cell (zB w _ hw15_3)).trans hw15_3)⟩ (fun hHeld => ?_); refine with_tabW laws_eqShownS.tab6 laws_eqShownS.bits6 (fun HT_ HW_ => ?_); generalize wr.drew = w9 at HB HR14_0 HR14_1 HR14_2 HR15_0 HR15_1 HR15_2 hx14_0 hx14_1 hx14_2 hx14_3 hx15_0 hx15_1 hx15_2 hx15_3 hHeld ⊢; refine pure_ (i := 0) (N := some 17) (v := ?_) (a' := ?_) #[true, false, false, false, false, false, false, false, false, false] rfl rfl (any_of HT_.out (by kernel_rfl)) (fun _ _ _ h => h) (Or.inl ⟨by rfl, ?_⟩) ?_ ?_; rotate_left
        ·intro w'
         go_simp
         with_reducible rfl
        rotate_left
        ·simp only [Act.put, zC, zD, zE, i64_w]
         rfl
        refine pure_ (i := 1) (N := some 18) (v := ?_) (a' := ?_) #[true, true, false, false, false, false, false, false, false, false] rfl rfl (any_of HT_.out (by kernel_rfl)) (fun _ _ _ h => h) (Or.inl ⟨by rfl, ?_⟩) ?_ ?_; rotate_left
        ·intro w'
         go_simp
         with_reducible rfl
        rotate_left
        ·simp only [Act.put, zC, zD, zE, i64_w]
         rfl
        refine pure_ (i := 2) (N := some 19) (v := ?_) (a' := ?_) #[true, true, true, false, false, false, false, false, false, false] rfl rfl (any_of HT_.out (by kernel_rfl)) (fun _ _ _ h => h) (Or.inl ⟨by rfl, ?_⟩) ?_ ?_; rotate_left
        ·intro w'
         go_simp
         with_reducible rfl
        rotate_left
        ·simp only [Act.put, zC, zD, zE, i64_w]
         rfl
        refine pure_ (i := 4) (N := some 21) (v := ?_) (a' := ?_) #[true, true, true, false, true, false, false, false, false, false] rfl rfl (any_of HT_.out (by kernel_rfl)) (fun _ _ _ h => h) (Or.inl ⟨by rfl, ?_⟩) ?_ ?_; rotate_left
        ·intro w'
         go_simp
         with_reducible rfl
        rotate_left
        ·simp only [Act.put, zC, zD, zE, i64_w]
         rfl
        refine pure_ (i := 5) (N := some 22) (v := ?_) (a' := ?_) #[true, true, true, false, true, true, false, false, false, false] rfl rfl (any_of HT_.out (by kernel_rfl)) (fun _ _ _ h => h) (Or.inl ⟨by rfl, ?_⟩) ?_ ?_; rotate_left
        ·intro w'
         go_simp
         with_reducible rfl
        rotate_left
        ·simp only [Act.put, zC, zD, zE, i64_w]
         rfl
        refine pure_ (i := 6) (N := some 23) (v := ?_) (a' := ?_) #[true, true, true, false, true, true, true, false, false, false] rfl rfl (any_of HT_.out (by kernel_rfl)) (fun _ _ _ h => h) (Or.inl ⟨by rfl, ?_⟩) ?_ ?_; rotate_left
        ·intro w'
         go_simp
         with_reducible rfl
        rotate_left
        ·simp only [Act.put, zC, zD, zE, i64_w]
         rfl
        refine take_ (i := 3) (N := some 20) (v := ?_) (a' := ?_) #[true, true, true, true, true, true, true, false, false, false] rfl rfl (take_ofW HT_.out HW_.out (by kernel_rfl)) (fun _ _ _ h => h) (Or.inl ⟨by rfl, ?_⟩) hHeld ?_ ?_; rotate_left
        ·rintro w' ⟨s0, s1, s2, s3, s4, s5, s6, s7⟩
         go_simp
         with_reducible rfl
        rotate_left
        ·simp only [Act.put, zC, zD, zE, i64_w]
         rfl
        refine take_ (i := 7) (N := some 24) (v := ?_) (a' := ?_) #[true, true, true, true, true, true, true, true, false, false] rfl rfl (take_ofW HT_.out HW_.out (by kernel_rfl)) (fun _ _ _ h => h) (Or.inl ⟨by rfl, ?_⟩) hHeld ?_ ?_; rotate_left
        ·rintro w' ⟨s0, s1, s2, s3, s4, s5, s6, s7⟩
         go_simp
         with_reducible rfl
        rotate_left
        ·simp only [Act.put, zC, zD, zE, i64_w]
         rfl
        refine one_ (i := 8) (N := some 25) #[true, true, true, true, true, true, true, true, true, false] rfl rfl (one_of HT_.out (by kernel_rfl)) (by decide) (fun K hK => ?_); refine goes_ Tryz.func68 (by kernel_rfl) rfl #[.agg #[.slice A14_0 ((rd_T85 l0 x5_1).f0).length c14_0, .slice A14_1 ((rd_T85 l0 x5_1).f1).length c14_1, .slice A14_2 ((rd_T85 l0 x5_1).f2).length c14_2, .int .i64 ((rd_T85 l0 x5_1).f3)], .agg #[.slice A15_0 ((rd_T85 l1 x5_1).f0).length c15_0, .slice A15_1 ((rd_T85 l1 x5_1).f1).length c15_1, .slice A15_2 ((rd_T85 l1 x5_1).f2).length c15_2, .int .i64 ((rd_T85 l1 x5_1).f3)]] (by rfl) rfl rfl (by (try simp only [zAA, zAB, zAC]); first | done | rfl | (simp only [zZ, zY]; rfl)) ?_
        with_reducible refine (laws_eqShown.calls k1 _ _ ((rd_T85 l0 x5_1).f0) _ _ ((rd_T85 l0 x5_1).f1) _ _ ((rd_T85 l0 x5_1).f2) ((rd_T85 l0 x5_1).f3) _ _ ((rd_T85 l1 x5_1).f0) _ _ ((rd_T85 l1 x5_1).f1) _ _ ((rd_T85 l1 x5_1).f2) ((rd_T85 l1 x5_1).f3) true _ ?side1 ?side2 ?side3 ?side4 ?side5 ?side6 ?side7 ?side8 ?side9 ?side10 ?side11 ?side12 A7.out ⟨rfl⟩).mono ?_
        (case side1 => repeat (first | exact (yN HR14_0.out HB.out) | (with_reducible first | refine zT ?_ _ | refine zU ?_ _ | refine zV ?_))); (case side2 => exact HC14_0.out); (case side3 => repeat (first | exact (yN HR14_1.out HB.out) | (with_reducible first | refine zT ?_ _ | refine zU ?_ _ | refine zV ?_))); (case side4 => exact HC14_1.out); (case side5 => repeat (first | exact (yN HR14_2.out HB.out) | (with_reducible first | refine zT ?_ _ | refine zU ?_ _ | refine zV ?_))); (case side6 => exact HC14_2.out); (case side7 => repeat (first | exact (yN HR15_0.out HB.out) | (with_reducible first | refine zT ?_ _ | refine zU ?_ _ | refine zV ?_))); (case side8 => exact HC15_0.out); (case side9 => repeat (first | exact (yN HR15_1.out HB.out) | (with_reducible first | refine zT ?_ _ | refine zU ?_ _ | refine zV ?_))); (case side10 => exact HC15_1.out); (case side11 => repeat (first | exact (yN HR15_2.out HB.out) | (with_reducible first | refine zT ?_ _ | refine zU ?_ _ | refine zV ?_))); (case side12 => exact HC15_2.out); rintro e w10 ⟨rfl, hb⟩; refine ⟨_, rfl, ?_⟩; have n0_ := zA (zAD (by (with_reducible repeat first | exact HB.out | apply zH | apply zF | apply zG) <;> exact HB.out) hb); clear HB; have HB := n0_; clear n0_; (try clear hb); refine hK.out _ _ ⟨((HB.out.cell (zB w _ hw14_0)).trans hw14_0), ((HB.out.cell (zB w _ hw14_1)).trans hw14_1), ((HB.out.cell (zB w _ hw14_2)).trans hw14_2), ((HB.out.cell (zB w _ hw14_3)).trans hw14_3), ((HB.out.cell (zB w _ hw15_0)).trans hw15_0), ((HB.out.cell (zB w _ hw15_1)).trans hw15_1), ((HB.out.cell (zB w _ hw15_2)).trans hw15_2), ((HB.out.cell (zB w _ hw15_3)).trans hw15_3)⟩ (fun hHeld => ?_); clear hK K; refine norm_ (a' := ?_) ?_ ?_; rotate_left
        ·show Act.put _ (some 25) _ = _
         simp only [Act.put, zC, zD, zE, i64_w]; rfl
        refine pure_ (i := 9) (N := some 26) (v := ?_) (a' := ?_) #[true, true, true, true, true, true, true, true, true, true] rfl rfl (any_of HT_.out (by kernel_rfl)) (fun _ _ _ h => h) (Or.inl ⟨by rfl, ?_⟩) ?_ ?_; rotate_left
        ·intro w'
         go_simp
         with_reducible rfl
        rotate_left
        ·simp only [Act.put, zC, zD, zE, i64_w]
         rfl
        refine done_ (done_of HT_.out (by kernel_rfl)) ?_
        try go_wp2
        go_roundg k1
        case measure => have := HK1.out; omega
        case rel => exact ⟨(wrap64 (x5_1 + 1)), (by first | rfl | (simp; done) | (simp [*]; done) | (simp [bne]; done)), H', ⟨by have := HK1.out; omega⟩, ⟨by (with_reducible repeat first | exact HB.out | apply zH | apply zF | apply zG) <;> exact HB.out⟩⟩
       ·replace c8 := yO c8
        subst c8; have H1 : (some false) = some r := by rw [if_neg (show ¬ (false = true) by decide)] at H; exact H
        clear H; have H := H1; clear H1; exact absurd ((yM H).trans hr_.out) (by decide)
      ·rw [if_neg c6] at H
       exact absurd H (by simp)
     ·rw [if_neg c5] at H
      exact absurd H (by simp)
    ·rw [if_neg c4] at H
     have c4b0 : decide (x5_1 < (l0.length : Int)) = false := decide_eq_false c4; clear c4; obtain rfl := yM H; go_wp2; go_ret; exact ⟨by first | rfl | (simp <;> rfl) | (simp [*] <;> rfl), by (with_reducible repeat first | exact HB.out | apply zH | apply zF | apply zG) <;> exact HB.out⟩
 ·rw [if_neg c3] at H
  have c3b0 : ((l0.length : Int) == (l1.length : Int)) = false := beq_eq_false_iff_ne.mpr c3; have c3b1 : ((l0.length : Int) != (l1.length : Int)) = true := bne_iff_ne.mpr c3; have c3b2 : (l0.length == l1.length) = false := by first | simpa using c3 | (simp at c3 ⊢; omega)
  exact absurd ((yM H).trans hr_.out) (by decide)
def laws_eqAnswer.f (k : Nat) (a0_0 : Int) (a0_1 : ByteArray) (a0_2 : ByteArray) (l0_3 : List ByteArray) (a0_4 : Int) (l0_5 : List ByteArray) (l0_6 : List ByteArray) (l0_7 : List (S85)) (a1_0 : Int) (a1_1 : ByteArray) (a1_2 : ByteArray) (l1_3 : List ByteArray) (a1_4 : Int) (l1_5 : List ByteArray) (l1_6 : List ByteArray) (l1_7 : List (S85)) : Option (Bool) := if a0_0 = a1_0 then ((laws_eqBlock.f k a0_1 a0_2 l0_3 a1_1 a1_2 l1_3).bind fun t10 => (if t10 = true then ((laws_eqSeal.f k a0_4 l0_5 l0_6 a1_4 l1_5 l1_6).bind fun t11 => (if t11 = true then ((laws_eqShownS.f k l0_7 l1_7).bind fun t12 => (if t12 = true then (some true) else (some false))) else (some false))) else (some false))) else (some false)
theorem laws_eqAnswer.calls (k : Nat) (a0_0 : Int) (a0_1 : ByteArray) (a0_2 : ByteArray) (A0_3 : Option Addr) (c0_3 : Nat) (l0_3 : List ByteArray) (a0_4 : Int) (A0_5 : Option Addr) (c0_5 : Nat) (l0_5 : List ByteArray) (A0_6 : Option Addr) (c0_6 : Nat) (l0_6 : List ByteArray) (A0_7 : Option Addr) (c0_7 : Nat) (l0_7 : List (S85)) (a1_0 : Int) (a1_1 : ByteArray) (a1_2 : ByteArray) (A1_3 : Option Addr) (c1_3 : Nat) (l1_3 : List ByteArray) (a1_4 : Int) (A1_5 : Option Addr) (c1_5 : Nat) (l1_5 : List ByteArray) (A1_6 : Option Addr) (c1_6 : Nat) (l1_6 : List ByteArray) (A1_7 : Option Addr) (c1_7 : Nat) (l1_7 : List (S85)) (r : Bool) (w : World) (hr0_3 : Kd.C Kd.string w A0_3 l0_3.length l0_3) (hc0_3 : l0_3.length ≤ c0_3) (hr0_5 : Kd.C Kd.string w A0_5 l0_5.length l0_5) (hc0_5 : l0_5.length ≤ c0_5) (hr0_6 : Kd.C Kd.string w A0_6 l0_6.length l0_6) (hc0_6 : l0_6.length ≤ c0_6) (hr0_7 : Kd.C k85 w A0_7 l0_7.length l0_7) (hc0_7 : l0_7.length ≤ c0_7) (hr1_3 : Kd.C Kd.string w A1_3 l1_3.length l1_3) (hc1_3 : l1_3.length ≤ c1_3) (hr1_5 : Kd.C Kd.string w A1_5 l1_5.length l1_5) (hc1_5 : l1_5.length ≤ c1_5) (hr1_6 : Kd.C Kd.string w A1_6 l1_6.length l1_6) (hc1_6 : l1_6.length ≤ c1_6) (hr1_7 : Kd.C k85 w A1_7 l1_7.length l1_7) (hc1_7 : l1_7.length ≤ c1_7) (h : laws_eqAnswer.f k a0_0 a0_1 a0_2 l0_3 a0_4 l0_5 l0_6 l0_7 a1_0 a1_1 a1_2 l1_3 a1_4 l1_5 l1_6 l1_7 = some r) (hr_ : Aside0 (r = true)) :
  Calls Tryz.prog 9 #[.agg #[.int .i64 a0_0, .string a0_1, .string a0_2, .slice A0_3 l0_3.length c0_3, .int .i64 a0_4, .slice A0_5 l0_5.length c0_5, .slice A0_6 l0_6.length c0_6, .slice A0_7 l0_7.length c0_7], .agg #[.int .i64 a1_0, .string a1_1, .string a1_2, .slice A1_3 l1_3.length c1_3, .int .i64 a1_4, .slice A1_5 l1_5.length c1_5, .slice A1_6 l1_6.length c1_6, .slice A1_7 l1_7.length c1_7]] w fun e w' => e = .returned (.bool r) ∧ Below w.heap.size w w' := by
 have hu37 := Tryz.underlying37; have hu33 := Tryz.underlying33; have hu34 := Tryz.underlying34; have HR0_3 := zA hr0_3; have HC0_3 := zA hc0_3; clear hr0_3 hc0_3; have HR0_5 := zA hr0_5; have HC0_5 := zA hc0_5; clear hr0_5 hc0_5; have HR0_6 := zA hr0_6; have HC0_6 := zA hc0_6; clear hr0_6 hc0_6; have HR0_7 := zA hr0_7; have HC0_7 := zA hc0_7; clear hr0_7 hc0_7; have HR1_3 := zA hr1_3; have HC1_3 := zA hc1_3; clear hr1_3 hc1_3; have HR1_5 := zA hr1_5; have HC1_5 := zA hc1_5; clear hr1_5 hc1_5; have HR1_6 := zA hr1_6; have HC1_6 := zA hc1_6; clear hr1_6 hc1_6; have HR1_7 := zA hr1_7; have HC1_7 := zA hc1_7; clear hr1_7 hc1_7; have HB := zA (Below.refl w.heap.size w); have H : (if a0_0 = a1_0 then ((laws_eqBlock.f k a0_1 a0_2 l0_3 a1_1 a1_2 l1_3).bind fun t22 => (if t22 = true then ((laws_eqSeal.f k a0_4 l0_5 l0_6 a1_4 l1_5 l1_6).bind fun t23 => (if t23 = true then ((laws_eqShownS.f k l0_7 l1_7).bind fun t24 => (if t24 = true then (some true) else (some false))) else (some false))) else (some false))) else (some false)) = some r := h; clear h
 by_cases c3 : a0_0 = a1_0
 ·rw [if_pos c3] at H
  have c3b0 : (a0_0 == a1_0) = true := beq_iff_eq.mpr c3; have c3b1 : (a0_0 != a1_0) = false := bne_eq_false_iff_eq.mpr c3; clear c3; replace H := zAF H; obtain ⟨t22, A40, H⟩ := H; replace H : (if t22 = true then ((laws_eqSeal.f k a0_4 l0_5 l0_6 a1_4 l1_5 l1_6).bind fun t23 => (if t23 = true then ((laws_eqShownS.f k l0_7 l1_7).bind fun t24 => (if t24 = true then (some true) else (some false))) else (some false))) else (some false)) = some r := H; have A4 := zA A40; clear A40
  by_cases c5 : t22 = true
  ·subst c5
   have H1 : ((laws_eqSeal.f k a0_4 l0_5 l0_6 a1_4 l1_5 l1_6).bind fun t23 => (if t23 = true then ((laws_eqShownS.f k l0_7 l1_7).bind fun t24 => (if t24 = true then (some true) else (some false))) else (some false))) = some r := by rw [if_pos rfl] at H; exact H
   clear H; have H := H1; clear H1; replace H := zAF H; obtain ⟨t23, A60, H⟩ := H; replace H : (if t23 = true then ((laws_eqShownS.f k l0_7 l1_7).bind fun t24 => (if t24 = true then (some true) else (some false))) else (some false)) = some r := H; have A6 := zA A60; clear A60
   by_cases c7 : t23 = true
   ·subst c7
    have H1 : ((laws_eqShownS.f k l0_7 l1_7).bind fun t24 => (if t24 = true then (some true) else (some false))) = some r := by rw [if_pos rfl] at H; exact H
    clear H; have H := H1; clear H1; replace H := zAF H; obtain ⟨t24, A80, H⟩ := H; replace H : (if t24 = true then (some true) else (some false)) = some r := H; have A8 := zA A80; clear A80
    by_cases c9 : t24 = true
    ·subst c9
     have H1 : (some true) = some r := by rw [if_pos rfl] at H; exact H
     clear H; have H := H1; clear H1; obtain rfl := yM H; go_enter Tryz.func9, Tryz.ntmps9; go_wp2_with (first | ((with_reducible refine gate_dst (N := 2) rfl ?_); refine box_event ?hg (N := 2) ?hd (cs := #[.int .i64 a0_0, .string a0_1, .string a0_2, .slice A0_3 l0_3.length c0_3, .int .i64 a0_4, .slice A0_5 l0_5.length c0_5, .slice A0_6 l0_6.length c0_6, .slice A0_7 l0_7.length c0_7]) (t := 37) ?hr ?_; (case hd => rfl); (case hg => rfl); (case hr => first | (go_simp; done) | (go_simp; rfl)); intro gb25 hg w10 hbox hb; have n0_ := zA (zAD (by (with_reducible repeat first | exact HB.out | apply zH | apply zF | apply zG) <;> exact HB.out) hb); have n1_ := zA (hbox); have n2_ := zA ((by rw [hg]; exact (zAE (by (with_reducible repeat first | exact HB.out | apply zH | apply zF | apply zG) <;> exact HB.out)) : w.heap.size ≤ gb25)); have n3_ := zA ((by rw [hg]; exact (zAE (by (with_reducible repeat first | exact HB.out | apply zH | apply zF | apply zG) <;> exact HB.out)) : w.heap.size ≤ gb25)); clear HB; have HB := n0_; have BK25 := n1_; have GW25 := n2_; have GE25 := n3_; clear n0_ n1_ n2_ n3_; clear hb hbox hg) | ((with_reducible refine gate_dst (N := 3) rfl ?_); refine box_event ?hg (N := 3) ?hd (cs := #[.int .i64 a1_0, .string a1_1, .string a1_2, .slice A1_3 l1_3.length c1_3, .int .i64 a1_4, .slice A1_5 l1_5.length c1_5, .slice A1_6 l1_6.length c1_6, .slice A1_7 l1_7.length c1_7]) (t := 37) ?hr ?_; (case hd => rfl); (case hg => rfl); (case hr => first | (go_simp; done) | (go_simp; rfl)); intro gb26 hg w11 hbox hb; have n0_ := zA (yE (g := gb25) (o := .cells #[.int .i64 a0_0, .string a0_1, .string a0_2, .slice A0_3 l0_3.length c0_3, .int .i64 a0_4, .slice A0_5 l0_5.length c0_5, .slice A0_6 l0_6.length c0_6, .slice A0_7 l0_7.length c0_7] 37 (0, 0)) (by (with_reducible repeat (first | refine zL ?_ _ | refine zN ?_ | refine zM ?_ _)); exact BK25.out) hb); have n1_ := zA (zAD (by repeat (first | (with_reducible first | exact HB.out | apply zH | apply zF | apply zG | refine zI ?_ GE25.out) | exact HB.out)) hb); have n2_ := zA (hbox); have n3_ := zA ((by rw [hg]; exact (zAE (by repeat (first | (with_reducible first | exact HB.out | apply zH | apply zF | apply zG | refine zI ?_ GE25.out) | exact HB.out))) : w.heap.size ≤ gb26)); have n4_ := zA ((by rw [hg]; exact (zAE (by repeat (first | (with_reducible first | exact HB.out | apply zH | apply zF | apply zG | refine zI ?_ GE25.out) | exact HB.out))) : w.heap.size ≤ gb26)); have n5_ := zA ((by rw [hg]; exact zK (blk_lt (g := gb25) (o := .cells #[.int .i64 a0_0, .string a0_1, .string a0_2, .slice A0_3 l0_3.length c0_3, .int .i64 a0_4, .slice A0_5 l0_5.length c0_5, .slice A0_6 l0_6.length c0_6, .slice A0_7 l0_7.length c0_7] 37 (0, 0)) (by (with_reducible repeat (first | refine zL ?_ _ | refine zN ?_ | refine zM ?_ _)); exact BK25.out)) : gb25 ≠ gb26)); have n6_ := zA ((by rw [hg]; exact Nat.ne_of_gt (blk_lt (g := gb25) (o := .cells #[.int .i64 a0_0, .string a0_1, .string a0_2, .slice A0_3 l0_3.length c0_3, .int .i64 a0_4, .slice A0_5 l0_5.length c0_5, .slice A0_6 l0_6.length c0_6, .slice A0_7 l0_7.length c0_7] 37 (0, 0)) (by (with_reducible repeat (first | refine zL ?_ _ | refine zN ?_ | refine zM ?_ _)); exact BK25.out)) : gb26 ≠ gb25)); clear BK25; clear HB; have BK25 := n0_; have HB := n1_; have BK26 := n2_; have GW26 := n3_; have GE26 := n4_; have NB25_26 := n5_; have NB26_25 := n6_; clear n0_ n1_ n2_ n3_ n4_ n5_ n6_; clear hb hbox hg; have hnb12 := NB25_26.out; have hnc12 := NB26_25.out; have hcz13_0 := yL BK25.out 0 (.int .i64 a0_0) rfl; have hcz13_1 := yL BK25.out 1 (.string a0_1) rfl; have hcz13_2 := yL BK25.out 2 (.string a0_2) rfl; have hcz13_3 := yL BK25.out 3 (.slice A0_3 l0_3.length c0_3) rfl; have hcz13_4 := yL BK25.out 4 (.int .i64 a0_4) rfl; have hcz13_5 := yL BK25.out 5 (.slice A0_5 l0_5.length c0_5) rfl; have hcz13_6 := yL BK25.out 6 (.slice A0_6 l0_6.length c0_6) rfl; have hcz13_7 := yL BK25.out 7 (.slice A0_7 l0_7.length c0_7) rfl; have hfz13_0 := zO BK25.out 0; have hfz13_1 := zO BK25.out 1; have hfz13_2 := zO BK25.out 2; have hfz13_3 := zO BK25.out 3; have hfz13_4 := zO BK25.out 4; have hfz13_5 := zO BK25.out 5; have hfz13_6 := zO BK25.out 6; have hfz13_7 := zO BK25.out 7; have hcz14_0 := yL BK26.out 0 (.int .i64 a1_0) rfl; have hcz14_1 := yL BK26.out 1 (.string a1_1) rfl; have hcz14_2 := yL BK26.out 2 (.string a1_2) rfl; have hcz14_3 := yL BK26.out 3 (.slice A1_3 l1_3.length c1_3) rfl; have hcz14_4 := yL BK26.out 4 (.int .i64 a1_4) rfl; have hcz14_5 := yL BK26.out 5 (.slice A1_5 l1_5.length c1_5) rfl; have hcz14_6 := yL BK26.out 6 (.slice A1_6 l1_6.length c1_6) rfl; have hcz14_7 := yL BK26.out 7 (.slice A1_7 l1_7.length c1_7) rfl; have hfz14_0 := zO BK26.out 0; have hfz14_1 := zO BK26.out 1; have hfz14_2 := zO BK26.out 2; have hfz14_3 := zO BK26.out 3; have hfz14_4 := zO BK26.out 4; have hfz14_5 := zO BK26.out 5; have hfz14_6 := zO BK26.out 6; have hfz14_7 := zO BK26.out 7) | ((with_reducible refine yB (f := 27) rfl ?_); refine goesL_ (some 14) rfl rfl Tryz.func27 (by kernel_rfl) rfl #[.agg #[.string a0_1, .string a0_2, .slice A0_3 l0_3.length c0_3], .agg #[.string a1_1, .string a1_2, .slice A1_3 l1_3.length c1_3]] rfl (by (try simp only [zAA, zAB, zAC]); first | done | rfl | (simp only [zZ, zY]; rfl)) ?_; (with_reducible refine (laws_eqBlock.calls k a0_1 a0_2 _ _ l0_3 a1_1 a1_2 _ _ l1_3 true _ ?side1 ?side2 ?side3 ?side4 A4.out ⟨rfl⟩).mono ?_); (case side1 => repeat (first | exact (yN HR0_3.out HB.out) | (with_reducible first | refine zT ?_ _ | refine zU ?_ _ | refine zV ?_))); (case side2 => exact HC0_3.out); (case side3 => repeat (first | exact (yN HR1_3.out HB.out) | (with_reducible first | refine zT ?_ _ | refine zU ?_ _ | refine zV ?_))); (case side4 => exact HC1_3.out); rintro e w15 ⟨rfl, hb⟩; refine ⟨_, rfl, ?_⟩; have n0_ := zA (yE (g := gb25) (o := .cells #[.int .i64 a0_0, .string a0_1, .string a0_2, .slice A0_3 l0_3.length c0_3, .int .i64 a0_4, .slice A0_5 l0_5.length c0_5, .slice A0_6 l0_6.length c0_6, .slice A0_7 l0_7.length c0_7] 37 (0, 0)) (by (with_reducible repeat (first | refine zL ?_ _ | refine zN ?_ | refine zM ?_ _)); exact BK25.out) hb); have n1_ := zA (yE (g := gb26) (o := .cells #[.int .i64 a1_0, .string a1_1, .string a1_2, .slice A1_3 l1_3.length c1_3, .int .i64 a1_4, .slice A1_5 l1_5.length c1_5, .slice A1_6 l1_6.length c1_6, .slice A1_7 l1_7.length c1_7] 37 (0, 0)) (by (with_reducible repeat (first | refine zL ?_ _ | refine zN ?_ | refine zM ?_ _)); exact BK26.out) hb); have n2_ := zA (zAD (by repeat (first | (with_reducible first | exact HB.out | apply zH | apply zF | apply zG | refine zI ?_ GE25.out | refine zI ?_ GE26.out) | exact HB.out)) hb); clear BK25; clear BK26; clear HB; have BK25 := n0_; have BK26 := n1_; have HB := n2_; clear n0_ n1_ n2_; (try clear hb); have hcz16_0 := yL BK25.out 0 (.int .i64 a0_0) rfl; have hcz16_1 := yL BK25.out 1 (.string a0_1) rfl; have hcz16_2 := yL BK25.out 2 (.string a0_2) rfl; have hcz16_3 := yL BK25.out 3 (.slice A0_3 l0_3.length c0_3) rfl; have hcz16_4 := yL BK25.out 4 (.int .i64 a0_4) rfl; have hcz16_5 := yL BK25.out 5 (.slice A0_5 l0_5.length c0_5) rfl; have hcz16_6 := yL BK25.out 6 (.slice A0_6 l0_6.length c0_6) rfl; have hcz16_7 := yL BK25.out 7 (.slice A0_7 l0_7.length c0_7) rfl; have hfz16_0 := zO BK25.out 0; have hfz16_1 := zO BK25.out 1; have hfz16_2 := zO BK25.out 2; have hfz16_3 := zO BK25.out 3; have hfz16_4 := zO BK25.out 4; have hfz16_5 := zO BK25.out 5; have hfz16_6 := zO BK25.out 6; have hfz16_7 := zO BK25.out 7; have hcz17_0 := yL BK26.out 0 (.int .i64 a1_0) rfl; have hcz17_1 := yL BK26.out 1 (.string a1_1) rfl; have hcz17_2 := yL BK26.out 2 (.string a1_2) rfl; have hcz17_3 := yL BK26.out 3 (.slice A1_3 l1_3.length c1_3) rfl; have hcz17_4 := yL BK26.out 4 (.int .i64 a1_4) rfl; have hcz17_5 := yL BK26.out 5 (.slice A1_5 l1_5.length c1_5) rfl; have hcz17_6 := yL BK26.out 6 (.slice A1_6 l1_6.length c1_6) rfl; have hcz17_7 := yL BK26.out 7 (.slice A1_7 l1_7.length c1_7) rfl; have hfz17_0 := zO BK26.out 0; have hfz17_1 := zO BK26.out 1; have hfz17_2 := zO BK26.out 2; have hfz17_3 := zO BK26.out 3; have hfz17_4 := zO BK26.out 4; have hfz17_5 := zO BK26.out 5; have hfz17_6 := zO BK26.out 6; have hfz17_7 := zO BK26.out 7) | ((with_reducible refine yB (f := 28) rfl ?_); refine goesL_ (some 20) rfl rfl Tryz.func28 (by kernel_rfl) rfl #[.agg #[.int .i64 a0_4, .slice A0_5 l0_5.length c0_5, .slice A0_6 l0_6.length c0_6], .agg #[.int .i64 a1_4, .slice A1_5 l1_5.length c1_5, .slice A1_6 l1_6.length c1_6]] rfl (by (try simp only [zAA, zAB, zAC]); first | done | rfl | (simp only [zZ, zY]; rfl)) ?_; (with_reducible refine (laws_eqSeal.calls k a0_4 _ _ l0_5 _ _ l0_6 a1_4 _ _ l1_5 _ _ l1_6 true _ ?side1 ?side2 ?side3 ?side4 ?side5 ?side6 ?side7 ?side8 A6.out ⟨rfl⟩).mono ?_); (case side1 => repeat (first | exact (yN HR0_5.out HB.out) | (with_reducible first | refine zT ?_ _ | refine zU ?_ _ | refine zV ?_))); (case side2 => exact HC0_5.out); (case side3 => repeat (first | exact (yN HR0_6.out HB.out) | (with_reducible first | refine zT ?_ _ | refine zU ?_ _ | refine zV ?_))); (case side4 => exact HC0_6.out); (case side5 => repeat (first | exact (yN HR1_5.out HB.out) | (with_reducible first | refine zT ?_ _ | refine zU ?_ _ | refine zV ?_))); (case side6 => exact HC1_5.out); (case side7 => repeat (first | exact (yN HR1_6.out HB.out) | (with_reducible first | refine zT ?_ _ | refine zU ?_ _ | refine zV ?_))); (case side8 => exact HC1_6.out); rintro e w18 ⟨rfl, hb⟩; refine ⟨_, rfl, ?_⟩; have n0_ := zA (yE (g := gb25) (o := .cells #[.int .i64 a0_0, .string a0_1, .string a0_2, .slice A0_3 l0_3.length c0_3, .int .i64 a0_4, .slice A0_5 l0_5.length c0_5, .slice A0_6 l0_6.length c0_6, .slice A0_7 l0_7.length c0_7] 37 (0, 0)) (by (with_reducible repeat (first | refine zL ?_ _ | refine zN ?_ | refine zM ?_ _)); exact BK25.out) hb); have n1_ := zA (yE (g := gb26) (o := .cells #[.int .i64 a1_0, .string a1_1, .string a1_2, .slice A1_3 l1_3.length c1_3, .int .i64 a1_4, .slice A1_5 l1_5.length c1_5, .slice A1_6 l1_6.length c1_6, .slice A1_7 l1_7.length c1_7] 37 (0, 0)) (by (with_reducible repeat (first | refine zL ?_ _ | refine zN ?_ | refine zM ?_ _)); exact BK26.out) hb); have n2_ := zA (zAD (by repeat (first | (with_reducible first | exact HB.out | apply zH | apply zF | apply zG | refine zI ?_ GE25.out | refine zI ?_ GE26.out) | exact HB.out)) hb); clear BK25; clear BK26; clear HB; have BK25 := n0_; have BK26 := n1_; have HB := n2_; clear n0_ n1_ n2_; (try clear hb); have hcz19_0 := yL BK25.out 0 (.int .i64 a0_0) rfl; have hcz19_1 := yL BK25.out 1 (.string a0_1) rfl; have hcz19_2 := yL BK25.out 2 (.string a0_2) rfl; have hcz19_3 := yL BK25.out 3 (.slice A0_3 l0_3.length c0_3) rfl; have hcz19_4 := yL BK25.out 4 (.int .i64 a0_4) rfl; have hcz19_5 := yL BK25.out 5 (.slice A0_5 l0_5.length c0_5) rfl; have hcz19_6 := yL BK25.out 6 (.slice A0_6 l0_6.length c0_6) rfl; have hcz19_7 := yL BK25.out 7 (.slice A0_7 l0_7.length c0_7) rfl; have hfz19_0 := zO BK25.out 0; have hfz19_1 := zO BK25.out 1; have hfz19_2 := zO BK25.out 2; have hfz19_3 := zO BK25.out 3; have hfz19_4 := zO BK25.out 4; have hfz19_5 := zO BK25.out 5; have hfz19_6 := zO BK25.out 6; have hfz19_7 := zO BK25.out 7; have hcz20_0 := yL BK26.out 0 (.int .i64 a1_0) rfl; have hcz20_1 := yL BK26.out 1 (.string a1_1) rfl; have hcz20_2 := yL BK26.out 2 (.string a1_2) rfl; have hcz20_3 := yL BK26.out 3 (.slice A1_3 l1_3.length c1_3) rfl; have hcz20_4 := yL BK26.out 4 (.int .i64 a1_4) rfl; have hcz20_5 := yL BK26.out 5 (.slice A1_5 l1_5.length c1_5) rfl; have hcz20_6 := yL BK26.out 6 (.slice A1_6 l1_6.length c1_6) rfl; have hcz20_7 := yL BK26.out 7 (.slice A1_7 l1_7.length c1_7) rfl; have hfz20_0 := zO BK26.out 0; have hfz20_1 := zO BK26.out 1; have hfz20_2 := zO BK26.out 2; have hfz20_3 := zO BK26.out 3; have hfz20_4 := zO BK26.out 4; have hfz20_5 := zO BK26.out 5; have hfz20_6 := zO BK26.out 6; have hfz20_7 := zO BK26.out 7) | ((with_reducible refine yB (f := 29) rfl ?_); refine goesL_ (some 26) rfl rfl Tryz.func29 (by kernel_rfl) rfl #[.slice A0_7 l0_7.length c0_7, .slice A1_7 l1_7.length c1_7] rfl (by (try simp only [zAA, zAB, zAC]); first | done | rfl | (simp only [zZ, zY]; rfl)) ?_; (with_reducible refine (laws_eqShownS.calls k _ _ l0_7 _ _ l1_7 true _ ?side1 ?side2 ?side3 ?side4 A8.out ⟨rfl⟩).mono ?_); (case side1 => repeat (first | exact (yN HR0_7.out HB.out) | (with_reducible first | refine zT ?_ _ | refine zU ?_ _ | refine zV ?_))); (case side2 => exact HC0_7.out); (case side3 => repeat (first | exact (yN HR1_7.out HB.out) | (with_reducible first | refine zT ?_ _ | refine zU ?_ _ | refine zV ?_))); (case side4 => exact HC1_7.out); rintro e w21 ⟨rfl, hb⟩; refine ⟨_, rfl, ?_⟩; have n0_ := zA (yE (g := gb25) (o := .cells #[.int .i64 a0_0, .string a0_1, .string a0_2, .slice A0_3 l0_3.length c0_3, .int .i64 a0_4, .slice A0_5 l0_5.length c0_5, .slice A0_6 l0_6.length c0_6, .slice A0_7 l0_7.length c0_7] 37 (0, 0)) (by (with_reducible repeat (first | refine zL ?_ _ | refine zN ?_ | refine zM ?_ _)); exact BK25.out) hb); have n1_ := zA (yE (g := gb26) (o := .cells #[.int .i64 a1_0, .string a1_1, .string a1_2, .slice A1_3 l1_3.length c1_3, .int .i64 a1_4, .slice A1_5 l1_5.length c1_5, .slice A1_6 l1_6.length c1_6, .slice A1_7 l1_7.length c1_7] 37 (0, 0)) (by (with_reducible repeat (first | refine zL ?_ _ | refine zN ?_ | refine zM ?_ _)); exact BK26.out) hb); have n2_ := zA (zAD (by repeat (first | (with_reducible first | exact HB.out | apply zH | apply zF | apply zG | refine zI ?_ GE25.out | refine zI ?_ GE26.out) | exact HB.out)) hb); clear BK25; clear BK26; clear HB; have BK25 := n0_; have BK26 := n1_; have HB := n2_; clear n0_ n1_ n2_; (try clear hb)))
     go_ret; exact ⟨by first | rfl | (simp <;> rfl) | (simp [*] <;> rfl), by repeat (first | (with_reducible first | exact HB.out | apply zH | apply zF | apply zG | refine zI ?_ GE25.out | refine zI ?_ GE26.out) | exact HB.out)⟩
    ·replace c9 := yO c9
     subst c9; have H1 : (some false) = some r := by rw [if_neg (show ¬ (false = true) by decide)] at H; exact H
     clear H; have H := H1; clear H1; exact absurd ((yM H).trans hr_.out) (by decide)
   ·replace c7 := yO c7
    subst c7; have H1 : (some false) = some r := by rw [if_neg (show ¬ (false = true) by decide)] at H; exact H
    clear H; have H := H1; clear H1; exact absurd ((yM H).trans hr_.out) (by decide)
  ·replace c5 := yO c5
   subst c5; have H1 : (some false) = some r := by rw [if_neg (show ¬ (false = true) by decide)] at H; exact H
   clear H; have H := H1; clear H1; exact absurd ((yM H).trans hr_.out) (by decide)
 ·rw [if_neg c3] at H
  have c3b0 : (a0_0 == a1_0) = false := beq_eq_false_iff_ne.mpr c3; have c3b1 : (a0_0 != a1_0) = true := bne_iff_ne.mpr c3; exact absurd ((yM H).trans hr_.out) (by decide)
def laws_FnExactCheckAnswer.j0 : Nat → Bool → Int → ByteArray → ByteArray → List ByteArray → Int → List ByteArray → List ByteArray → List (S78) → Int → ByteArray → ByteArray → List ByteArray → Int → List ByteArray → List ByteArray → List (S85) → Option (Bool)
 | 0, _, _, _, _, _, _, _, _, _, _, _, _, _, _, _, _, _ => none
 | k + 1, x57, x10, x11, x12, x13, x14, x15, x16, x17, x18, x19, x20, x21, x22, x23, x24, x25 => if x57 = true then (some false) else ((laws_toAnswer.f k x10 x11 x12 x13 x14 x15 x16 x17).bind fun bt26 => ((laws_eqAnswer.f k x18 x19 x20 x21 x22 x23 x24 x25 bt26.1 bt26.2.1 bt26.2.2.1 bt26.2.2.2.1 bt26.2.2.2.2.1 bt26.2.2.2.2.2.1 bt26.2.2.2.2.2.2.1 bt26.2.2.2.2.2.2.2).bind fun t27 => (if t27 = true then (some true) else (some false))))
def laws_FnExactCheckAnswer.f (k : Nat) (a0 : ByteArray) (a1 : ByteArray) (a2_0 : Int) (a2_1 : ByteArray) (a2_2 : ByteArray) (l2_3 : List ByteArray) (a2_4 : Int) (l2_5 : List ByteArray) (l2_6 : List ByteArray) (l2_7 : List (S78)) : Option (Bool) := if (a0.size : Int) > 1048576 then (some true) else (if (a1.size : Int) > 1048576 then (some true) else ((laws_szAnswer.f k a2_0 a2_1 a2_2 l2_3 a2_4 l2_5 l2_6 l2_7 1048576).bind fun t10 => (if t10 < 0 then (some true) else ((laws_toAnswer.f k a2_0 a2_1 a2_2 l2_3 a2_4 l2_5 l2_6 l2_7).bind fun bt11 => ((spec_CheckAnswer.f k a0 a1 bt11.1 bt11.2.1 bt11.2.2.1 bt11.2.2.2.1 bt11.2.2.2.2.1 bt11.2.2.2.2.2.1 bt11.2.2.2.2.2.2.1 bt11.2.2.2.2.2.2.2).bind fun bt12 => ((laws_toAnswer.f k a2_0 a2_1 a2_2 l2_3 a2_4 l2_5 l2_6 l2_7).bind fun bt13 => ((impl_CheckAnswer.f k a0 a1 bt13.1 bt13.2.1 bt13.2.2.1 bt13.2.2.2.1 bt13.2.2.2.2.1 bt13.2.2.2.2.2.1 bt13.2.2.2.2.2.2.1 bt13.2.2.2.2.2.2.2).bind fun bt14 => (if bt14.1.toList = bt12.1.toList then (if (bt14.2.1 != bt12.2.1) = true then (laws_FnExactCheckAnswer.j0 k true a2_0 a2_1 a2_2 l2_3 a2_4 l2_5 l2_6 l2_7 bt13.1 bt13.2.1 bt13.2.2.1 bt13.2.2.2.1 bt13.2.2.2.2.1 bt13.2.2.2.2.2.1 bt13.2.2.2.2.2.2.1 bt13.2.2.2.2.2.2.2) else (laws_FnExactCheckAnswer.j0 k (bt14.2.2 != bt12.2.2) a2_0 a2_1 a2_2 l2_3 a2_4 l2_5 l2_6 l2_7 bt13.1 bt13.2.1 bt13.2.2.1 bt13.2.2.2.1 bt13.2.2.2.2.1 bt13.2.2.2.2.2.1 bt13.2.2.2.2.2.2.1 bt13.2.2.2.2.2.2.2)) else (laws_FnExactCheckAnswer.j0 k true a2_0 a2_1 a2_2 l2_3 a2_4 l2_5 l2_6 l2_7 bt13.1 bt13.2.1 bt13.2.2.1 bt13.2.2.2.1 bt13.2.2.2.2.1 bt13.2.2.2.2.2.1 bt13.2.2.2.2.2.2.1 bt13.2.2.2.2.2.2.2)))))))))
theorem laws_FnExactCheckAnswer.calls (k : Nat) (a0 : ByteArray) (a1 : ByteArray) (a2_0 : Int) (a2_1 : ByteArray) (a2_2 : ByteArray) (A2_3 : Option Addr) (c2_3 : Nat) (l2_3 : List ByteArray) (a2_4 : Int) (A2_5 : Option Addr) (c2_5 : Nat) (l2_5 : List ByteArray) (A2_6 : Option Addr) (c2_6 : Nat) (l2_6 : List ByteArray) (A2_7 : Option Addr) (c2_7 : Nat) (l2_7 : List (S78)) (r : Bool) (w : World) (hr2_3 : Kd.C Kd.string w A2_3 l2_3.length l2_3) (hc2_3 : l2_3.length ≤ c2_3) (hr2_5 : Kd.C Kd.string w A2_5 l2_5.length l2_5) (hc2_5 : l2_5.length ≤ c2_5) (hr2_6 : Kd.C Kd.string w A2_6 l2_6.length l2_6) (hc2_6 : l2_6.length ≤ c2_6) (hr2_7 : Kd.C k78 w A2_7 l2_7.length l2_7) (hc2_7 : l2_7.length ≤ c2_7) (h : laws_FnExactCheckAnswer.f k a0 a1 a2_0 a2_1 a2_2 l2_3 a2_4 l2_5 l2_6 l2_7 = some r) (hr_ : Aside0 (r = true)) :
  Calls Tryz.prog 3 #[.string a0, .string a1, .agg #[.int .i64 a2_0, .string a2_1, .string a2_2, .slice A2_3 l2_3.length c2_3, .int .i64 a2_4, .slice A2_5 l2_5.length c2_5, .slice A2_6 l2_6.length c2_6, .slice A2_7 l2_7.length c2_7]] w fun e w' => e = .returned (.bool r) ∧ Below w.heap.size w w' := by
 have hu29 := Tryz.underlying29; have hu37 := Tryz.underlying37; have HR2_3 := zA hr2_3; have HC2_3 := zA hc2_3; clear hr2_3 hc2_3; have HR2_5 := zA hr2_5; have HC2_5 := zA hc2_5; clear hr2_5 hc2_5; have HR2_6 := zA hr2_6; have HC2_6 := zA hc2_6; clear hr2_6 hc2_6; have HR2_7 := zA hr2_7; have HC2_7 := zA hc2_7; clear hr2_7 hc2_7; have HB := zA (Below.refl w.heap.size w); have H : (if (a0.size : Int) > 1048576 then (some true) else (if (a1.size : Int) > 1048576 then (some true) else ((laws_szAnswer.f k a2_0 a2_1 a2_2 l2_3 a2_4 l2_5 l2_6 l2_7 1048576).bind fun t51 => (if t51 < 0 then (some true) else ((laws_toAnswer.f k a2_0 a2_1 a2_2 l2_3 a2_4 l2_5 l2_6 l2_7).bind fun bt52 => ((spec_CheckAnswer.f k a0 a1 bt52.1 bt52.2.1 bt52.2.2.1 bt52.2.2.2.1 bt52.2.2.2.2.1 bt52.2.2.2.2.2.1 bt52.2.2.2.2.2.2.1 bt52.2.2.2.2.2.2.2).bind fun bt53 => ((laws_toAnswer.f k a2_0 a2_1 a2_2 l2_3 a2_4 l2_5 l2_6 l2_7).bind fun bt54 => ((impl_CheckAnswer.f k a0 a1 bt54.1 bt54.2.1 bt54.2.2.1 bt54.2.2.2.1 bt54.2.2.2.2.1 bt54.2.2.2.2.2.1 bt54.2.2.2.2.2.2.1 bt54.2.2.2.2.2.2.2).bind fun bt55 => (if bt55.1.toList = bt53.1.toList then (if (bt55.2.1 != bt53.2.1) = true then (laws_FnExactCheckAnswer.j0 k true a2_0 a2_1 a2_2 l2_3 a2_4 l2_5 l2_6 l2_7 bt54.1 bt54.2.1 bt54.2.2.1 bt54.2.2.2.1 bt54.2.2.2.2.1 bt54.2.2.2.2.2.1 bt54.2.2.2.2.2.2.1 bt54.2.2.2.2.2.2.2) else (laws_FnExactCheckAnswer.j0 k (bt55.2.2 != bt53.2.2) a2_0 a2_1 a2_2 l2_3 a2_4 l2_5 l2_6 l2_7 bt54.1 bt54.2.1 bt54.2.2.1 bt54.2.2.2.1 bt54.2.2.2.2.1 bt54.2.2.2.2.2.1 bt54.2.2.2.2.2.2.1 bt54.2.2.2.2.2.2.2)) else (laws_FnExactCheckAnswer.j0 k true a2_0 a2_1 a2_2 l2_3 a2_4 l2_5 l2_6 l2_7 bt54.1 bt54.2.1 bt54.2.2.1 bt54.2.2.2.1 bt54.2.2.2.2.1 bt54.2.2.2.2.2.1 bt54.2.2.2.2.2.2.1 bt54.2.2.2.2.2.2.2)))))))))) = some r := h; clear h
 by_cases c4 : (a0.size : Int) > 1048576
 ·rw [if_pos c4] at H
  have c4b0 : decide (1048576 < (a0.size : Int)) = true := zX c4; have c4b1 : decide (1048576 < a0.size) = true := zX (by omega); clear c4; obtain rfl := yM H; go_enter Tryz.func3, Tryz.ntmps3; go_wp2_with (first | ((with_reducible refine gate_dst (N := 5) rfl ?_); refine box_event ?hg (N := 5) ?hd (cs := #[.int .i64 a2_0, .string a2_1, .string a2_2, .slice A2_3 l2_3.length c2_3, .int .i64 a2_4, .slice A2_5 l2_5.length c2_5, .slice A2_6 l2_6.length c2_6, .slice A2_7 l2_7.length c2_7]) (t := 29) ?hr ?_; (case hd => rfl); (case hg => rfl); (case hr => first | (go_simp; done) | (go_simp; rfl)); intro gb56 hg w5 hbox hb; have n0_ := zA (zAD (by (with_reducible repeat first | exact HB.out | apply zH | apply zF | apply zG) <;> exact HB.out) hb); have n1_ := zA (hbox); have n2_ := zA ((by rw [hg]; exact (zAE (by (with_reducible repeat first | exact HB.out | apply zH | apply zF | apply zG) <;> exact HB.out)) : w.heap.size ≤ gb56)); have n3_ := zA ((by rw [hg]; exact (zAE (by (with_reducible repeat first | exact HB.out | apply zH | apply zF | apply zG) <;> exact HB.out)) : w.heap.size ≤ gb56)); clear HB; have HB := n0_; have BK56 := n1_; have GW56 := n2_; have GE56 := n3_; clear n0_ n1_ n2_ n3_; clear hb hbox hg)); go_ret; exact ⟨by first | rfl | (simp <;> rfl) | (simp [*] <;> rfl), by repeat (first | (with_reducible first | exact HB.out | apply zH | apply zF | apply zG | refine zI ?_ GE56.out) | exact HB.out)⟩
 ·rw [if_neg c4] at H
  have c4b0 : decide (1048576 < (a0.size : Int)) = false := decide_eq_false c4; have c4b1 : decide (1048576 < a0.size) = false := decide_eq_false (by omega); clear c4
  by_cases c6 : (a1.size : Int) > 1048576
  ·rw [if_pos c6] at H
   have c6b0 : decide (1048576 < (a1.size : Int)) = true := zX c6; have c6b1 : decide (1048576 < a1.size) = true := zX (by omega); clear c6; obtain rfl := yM H; go_enter Tryz.func3, Tryz.ntmps3; go_wp2_with (first | ((with_reducible refine gate_dst (N := 5) rfl ?_); refine box_event ?hg (N := 5) ?hd (cs := #[.int .i64 a2_0, .string a2_1, .string a2_2, .slice A2_3 l2_3.length c2_3, .int .i64 a2_4, .slice A2_5 l2_5.length c2_5, .slice A2_6 l2_6.length c2_6, .slice A2_7 l2_7.length c2_7]) (t := 29) ?hr ?_; (case hd => rfl); (case hg => rfl); (case hr => first | (go_simp; done) | (go_simp; rfl)); intro gb56 hg w7 hbox hb; have n0_ := zA (zAD (by (with_reducible repeat first | exact HB.out | apply zH | apply zF | apply zG) <;> exact HB.out) hb); have n1_ := zA (hbox); have n2_ := zA ((by rw [hg]; exact (zAE (by (with_reducible repeat first | exact HB.out | apply zH | apply zF | apply zG) <;> exact HB.out)) : w.heap.size ≤ gb56)); have n3_ := zA ((by rw [hg]; exact (zAE (by (with_reducible repeat first | exact HB.out | apply zH | apply zF | apply zG) <;> exact HB.out)) : w.heap.size ≤ gb56)); clear HB; have HB := n0_; have BK56 := n1_; have GW56 := n2_; have GE56 := n3_; clear n0_ n1_ n2_ n3_; clear hb hbox hg)); go_ret; exact ⟨by first | rfl | (simp <;> rfl) | (simp [*] <;> rfl), by repeat (first | (with_reducible first | exact HB.out | apply zH | apply zF | apply zG | refine zI ?_ GE56.out) | exact HB.out)⟩
  ·rw [if_neg c6] at H
   have c6b0 : decide (1048576 < (a1.size : Int)) = false := decide_eq_false c6; have c6b1 : decide (1048576 < a1.size) = false := decide_eq_false (by omega); clear c6; replace H := zAF H; obtain ⟨t51, A80, H⟩ := H; replace H : (if t51 < 0 then (some true) else ((laws_toAnswer.f k a2_0 a2_1 a2_2 l2_3 a2_4 l2_5 l2_6 l2_7).bind fun bt52 => ((spec_CheckAnswer.f k a0 a1 bt52.1 bt52.2.1 bt52.2.2.1 bt52.2.2.2.1 bt52.2.2.2.2.1 bt52.2.2.2.2.2.1 bt52.2.2.2.2.2.2.1 bt52.2.2.2.2.2.2.2).bind fun bt53 => ((laws_toAnswer.f k a2_0 a2_1 a2_2 l2_3 a2_4 l2_5 l2_6 l2_7).bind fun bt54 => ((impl_CheckAnswer.f k a0 a1 bt54.1 bt54.2.1 bt54.2.2.1 bt54.2.2.2.1 bt54.2.2.2.2.1 bt54.2.2.2.2.2.1 bt54.2.2.2.2.2.2.1 bt54.2.2.2.2.2.2.2).bind fun bt55 => (if bt55.1.toList = bt53.1.toList then (if (bt55.2.1 != bt53.2.1) = true then (laws_FnExactCheckAnswer.j0 k true a2_0 a2_1 a2_2 l2_3 a2_4 l2_5 l2_6 l2_7 bt54.1 bt54.2.1 bt54.2.2.1 bt54.2.2.2.1 bt54.2.2.2.2.1 bt54.2.2.2.2.2.1 bt54.2.2.2.2.2.2.1 bt54.2.2.2.2.2.2.2) else (laws_FnExactCheckAnswer.j0 k (bt55.2.2 != bt53.2.2) a2_0 a2_1 a2_2 l2_3 a2_4 l2_5 l2_6 l2_7 bt54.1 bt54.2.1 bt54.2.2.1 bt54.2.2.2.1 bt54.2.2.2.2.1 bt54.2.2.2.2.2.1 bt54.2.2.2.2.2.2.1 bt54.2.2.2.2.2.2.2)) else (laws_FnExactCheckAnswer.j0 k true a2_0 a2_1 a2_2 l2_3 a2_4 l2_5 l2_6 l2_7 bt54.1 bt54.2.1 bt54.2.2.1 bt54.2.2.2.1 bt54.2.2.2.2.1 bt54.2.2.2.2.2.1 bt54.2.2.2.2.2.2.1 bt54.2.2.2.2.2.2.2))))))) = some r := H; have A8 := zA A80; clear A80
   by_cases c9 : t51 < 0
   ·rw [if_pos c9] at H
    have c9b0 : decide (t51 < 0) = true := zX c9; clear c9; obtain rfl := yM H; go_enter Tryz.func3, Tryz.ntmps3; go_wp2_with (first | ((with_reducible refine gate_dst (N := 5) rfl ?_); refine box_event ?hg (N := 5) ?hd (cs := #[.int .i64 a2_0, .string a2_1, .string a2_2, .slice A2_3 l2_3.length c2_3, .int .i64 a2_4, .slice A2_5 l2_5.length c2_5, .slice A2_6 l2_6.length c2_6, .slice A2_7 l2_7.length c2_7]) (t := 29) ?hr ?_; (case hd => rfl); (case hg => rfl); (case hr => first | (go_simp; done) | (go_simp; rfl)); intro gb56 hg w10 hbox hb; have n0_ := zA (zAD (by (with_reducible repeat first | exact HB.out | apply zH | apply zF | apply zG) <;> exact HB.out) hb); have n1_ := zA (hbox); have n2_ := zA ((by rw [hg]; exact (zAE (by (with_reducible repeat first | exact HB.out | apply zH | apply zF | apply zG) <;> exact HB.out)) : w.heap.size ≤ gb56)); have n3_ := zA ((by rw [hg]; exact (zAE (by (with_reducible repeat first | exact HB.out | apply zH | apply zF | apply zG) <;> exact HB.out)) : w.heap.size ≤ gb56)); clear HB; have HB := n0_; have BK56 := n1_; have GW56 := n2_; have GE56 := n3_; clear n0_ n1_ n2_ n3_; clear hb hbox hg; have hcz11_0 := yL BK56.out 0 (.int .i64 a2_0) rfl; have hcz11_1 := yL BK56.out 1 (.string a2_1) rfl; have hcz11_2 := yL BK56.out 2 (.string a2_2) rfl; have hcz11_3 := yL BK56.out 3 (.slice A2_3 l2_3.length c2_3) rfl; have hcz11_4 := yL BK56.out 4 (.int .i64 a2_4) rfl; have hcz11_5 := yL BK56.out 5 (.slice A2_5 l2_5.length c2_5) rfl; have hcz11_6 := yL BK56.out 6 (.slice A2_6 l2_6.length c2_6) rfl; have hcz11_7 := yL BK56.out 7 (.slice A2_7 l2_7.length c2_7) rfl; have hfz11_0 := zO BK56.out 0; have hfz11_1 := zO BK56.out 1; have hfz11_2 := zO BK56.out 2; have hfz11_3 := zO BK56.out 3; have hfz11_4 := zO BK56.out 4; have hfz11_5 := zO BK56.out 5; have hfz11_6 := zO BK56.out 6; have hfz11_7 := zO BK56.out 7) | ((with_reducible refine yB (f := 5) rfl ?_); refine goesL_ (some 23) rfl rfl Tryz.func5 (by kernel_rfl) rfl #[.agg #[.int .i64 a2_0, .string a2_1, .string a2_2, .slice A2_3 l2_3.length c2_3, .int .i64 a2_4, .slice A2_5 l2_5.length c2_5, .slice A2_6 l2_6.length c2_6, .slice A2_7 l2_7.length c2_7], .int .i64 1048576] rfl (by (try simp only [zAA, zAB, zAC]); first | done | rfl | (simp only [zZ, zY]; rfl)) ?_; (with_reducible refine (laws_szAnswer.calls k a2_0 a2_1 a2_2 _ _ l2_3 a2_4 _ _ l2_5 _ _ l2_6 _ _ l2_7 1048576 t51 _ ?side1 ?side2 ?side3 ?side4 ?side5 ?side6 ?side7 ?side8 A8.out).mono ?_); (case side1 => repeat (first | exact (yN HR2_3.out HB.out) | (with_reducible first | refine zT ?_ _ | refine zU ?_ _ | refine zV ?_))); (case side2 => exact HC2_3.out); (case side3 => repeat (first | exact (yN HR2_5.out HB.out) | (with_reducible first | refine zT ?_ _ | refine zU ?_ _ | refine zV ?_))); (case side4 => exact HC2_5.out); (case side5 => repeat (first | exact (yN HR2_6.out HB.out) | (with_reducible first | refine zT ?_ _ | refine zU ?_ _ | refine zV ?_))); (case side6 => exact HC2_6.out); (case side7 => repeat (first | exact (yN HR2_7.out HB.out) | (with_reducible first | refine zT ?_ _ | refine zU ?_ _ | refine zV ?_))); (case side8 => exact HC2_7.out); rintro e w12 ⟨rfl, hb⟩; refine ⟨_, rfl, ?_⟩; have n0_ := zA (yE (g := gb56) (o := .cells #[.int .i64 a2_0, .string a2_1, .string a2_2, .slice A2_3 l2_3.length c2_3, .int .i64 a2_4, .slice A2_5 l2_5.length c2_5, .slice A2_6 l2_6.length c2_6, .slice A2_7 l2_7.length c2_7] 29 (0, 0)) (by (with_reducible repeat (first | refine zL ?_ _ | refine zN ?_ | refine zM ?_ _)); exact BK56.out) hb); have n1_ := zA (zAD (by repeat (first | (with_reducible first | exact HB.out | apply zH | apply zF | apply zG | refine zI ?_ GE56.out) | exact HB.out)) hb); clear BK56; clear HB; have BK56 := n0_; have HB := n1_; clear n0_ n1_; (try clear hb))); go_ret; exact ⟨by first | rfl | (simp <;> rfl) | (simp [*] <;> rfl), by repeat (first | (with_reducible first | exact HB.out | apply zH | apply zF | apply zG | refine zI ?_ GE56.out) | exact HB.out)⟩
   ·rw [if_neg c9] at H
    have c9b0 : decide (t51 < 0) = false := decide_eq_false c9; clear c9; replace H := zAF H; obtain ⟨⟨t52, t58, t59, t60, t61, t62, t63, t65⟩, A66, H⟩ := H; replace H : ((spec_CheckAnswer.f k a0 a1 t52 t58 t59 t60 t61 t62 t63 t65).bind fun bt53 => ((laws_toAnswer.f k a2_0 a2_1 a2_2 l2_3 a2_4 l2_5 l2_6 l2_7).bind fun bt54 => ((impl_CheckAnswer.f k a0 a1 bt54.1 bt54.2.1 bt54.2.2.1 bt54.2.2.2.1 bt54.2.2.2.2.1 bt54.2.2.2.2.2.1 bt54.2.2.2.2.2.2.1 bt54.2.2.2.2.2.2.2).bind fun bt55 => (if bt55.1.toList = bt53.1.toList then (if (bt55.2.1 != bt53.2.1) = true then (laws_FnExactCheckAnswer.j0 k true a2_0 a2_1 a2_2 l2_3 a2_4 l2_5 l2_6 l2_7 bt54.1 bt54.2.1 bt54.2.2.1 bt54.2.2.2.1 bt54.2.2.2.2.1 bt54.2.2.2.2.2.1 bt54.2.2.2.2.2.2.1 bt54.2.2.2.2.2.2.2) else (laws_FnExactCheckAnswer.j0 k (bt55.2.2 != bt53.2.2) a2_0 a2_1 a2_2 l2_3 a2_4 l2_5 l2_6 l2_7 bt54.1 bt54.2.1 bt54.2.2.1 bt54.2.2.2.1 bt54.2.2.2.2.1 bt54.2.2.2.2.2.1 bt54.2.2.2.2.2.2.1 bt54.2.2.2.2.2.2.2)) else (laws_FnExactCheckAnswer.j0 k true a2_0 a2_1 a2_2 l2_3 a2_4 l2_5 l2_6 l2_7 bt54.1 bt54.2.1 bt54.2.2.1 bt54.2.2.2.1 bt54.2.2.2.2.1 bt54.2.2.2.2.2.1 bt54.2.2.2.2.2.2.1 bt54.2.2.2.2.2.2.2))))) = some r := H; have A13 := zA A66; clear A66; replace H := zAF H; obtain ⟨⟨t53, t67, t68⟩, A69, H⟩ := H; replace H : ((laws_toAnswer.f k a2_0 a2_1 a2_2 l2_3 a2_4 l2_5 l2_6 l2_7).bind fun bt54 => ((impl_CheckAnswer.f k a0 a1 bt54.1 bt54.2.1 bt54.2.2.1 bt54.2.2.2.1 bt54.2.2.2.2.1 bt54.2.2.2.2.2.1 bt54.2.2.2.2.2.2.1 bt54.2.2.2.2.2.2.2).bind fun bt55 => (if bt55.1.toList = t53.toList then (if (bt55.2.1 != t67) = true then (laws_FnExactCheckAnswer.j0 k true a2_0 a2_1 a2_2 l2_3 a2_4 l2_5 l2_6 l2_7 bt54.1 bt54.2.1 bt54.2.2.1 bt54.2.2.2.1 bt54.2.2.2.2.1 bt54.2.2.2.2.2.1 bt54.2.2.2.2.2.2.1 bt54.2.2.2.2.2.2.2) else (laws_FnExactCheckAnswer.j0 k (bt55.2.2 != t68) a2_0 a2_1 a2_2 l2_3 a2_4 l2_5 l2_6 l2_7 bt54.1 bt54.2.1 bt54.2.2.1 bt54.2.2.2.1 bt54.2.2.2.2.1 bt54.2.2.2.2.2.1 bt54.2.2.2.2.2.2.1 bt54.2.2.2.2.2.2.2)) else (laws_FnExactCheckAnswer.j0 k true a2_0 a2_1 a2_2 l2_3 a2_4 l2_5 l2_6 l2_7 bt54.1 bt54.2.1 bt54.2.2.1 bt54.2.2.2.1 bt54.2.2.2.2.1 bt54.2.2.2.2.2.1 bt54.2.2.2.2.2.2.1 bt54.2.2.2.2.2.2.2)))) = some r := H; have A14 := zA A69; clear A69; replace H := zAF H; obtain ⟨⟨t54, t70, t71, t72, t73, t74, t75, t76⟩, A77, H⟩ := H; replace H : ((impl_CheckAnswer.f k a0 a1 t54 t70 t71 t72 t73 t74 t75 t76).bind fun bt55 => (if bt55.1.toList = t53.toList then (if (bt55.2.1 != t67) = true then (laws_FnExactCheckAnswer.j0 k true a2_0 a2_1 a2_2 l2_3 a2_4 l2_5 l2_6 l2_7 t54 t70 t71 t72 t73 t74 t75 t76) else (laws_FnExactCheckAnswer.j0 k (bt55.2.2 != t68) a2_0 a2_1 a2_2 l2_3 a2_4 l2_5 l2_6 l2_7 t54 t70 t71 t72 t73 t74 t75 t76)) else (laws_FnExactCheckAnswer.j0 k true a2_0 a2_1 a2_2 l2_3 a2_4 l2_5 l2_6 l2_7 t54 t70 t71 t72 t73 t74 t75 t76))) = some r := H; have A15 := zA A77; clear A77; replace H := zAF H; obtain ⟨⟨t55, t79, t81⟩, A82, H⟩ := H; replace H : (if t55.toList = t53.toList then (if (t79 != t67) = true then (laws_FnExactCheckAnswer.j0 k true a2_0 a2_1 a2_2 l2_3 a2_4 l2_5 l2_6 l2_7 t54 t70 t71 t72 t73 t74 t75 t76) else (laws_FnExactCheckAnswer.j0 k (t81 != t68) a2_0 a2_1 a2_2 l2_3 a2_4 l2_5 l2_6 l2_7 t54 t70 t71 t72 t73 t74 t75 t76)) else (laws_FnExactCheckAnswer.j0 k true a2_0 a2_1 a2_2 l2_3 a2_4 l2_5 l2_6 l2_7 t54 t70 t71 t72 t73 t74 t75 t76)) = some r := H; have A16 := zA A82; clear A82; have HC17 := zA H; clear H; go_enter Tryz.func3, Tryz.ntmps3; go_upto_region 12 with (first | ((with_reducible refine gate_dst (N := 5) rfl ?_); refine box_event ?hg (N := 5) ?hd (cs := #[.int .i64 a2_0, .string a2_1, .string a2_2, .slice A2_3 l2_3.length c2_3, .int .i64 a2_4, .slice A2_5 l2_5.length c2_5, .slice A2_6 l2_6.length c2_6, .slice A2_7 l2_7.length c2_7]) (t := 29) ?hr ?_; (case hd => rfl); (case hg => rfl); (case hr => first | (go_simp; done) | (go_simp; rfl)); intro gb56 hg w18 hbox hb; have n0_ := zA (zAD (by (with_reducible repeat first | exact HB.out | apply zH | apply zF | apply zG) <;> exact HB.out) hb); have n1_ := zA (hbox); have n2_ := zA ((by rw [hg]; exact (zAE (by (with_reducible repeat first | exact HB.out | apply zH | apply zF | apply zG) <;> exact HB.out)) : w.heap.size ≤ gb56)); have n3_ := zA ((by rw [hg]; exact (zAE (by (with_reducible repeat first | exact HB.out | apply zH | apply zF | apply zG) <;> exact HB.out)) : w.heap.size ≤ gb56)); clear HB; have HB := n0_; have BK56 := n1_; have GW56 := n2_; have GE56 := n3_; clear n0_ n1_ n2_ n3_; clear hb hbox hg; have hcz19_0 := yL BK56.out 0 (.int .i64 a2_0) rfl; have hcz19_1 := yL BK56.out 1 (.string a2_1) rfl; have hcz19_2 := yL BK56.out 2 (.string a2_2) rfl; have hcz19_3 := yL BK56.out 3 (.slice A2_3 l2_3.length c2_3) rfl; have hcz19_4 := yL BK56.out 4 (.int .i64 a2_4) rfl; have hcz19_5 := yL BK56.out 5 (.slice A2_5 l2_5.length c2_5) rfl; have hcz19_6 := yL BK56.out 6 (.slice A2_6 l2_6.length c2_6) rfl; have hcz19_7 := yL BK56.out 7 (.slice A2_7 l2_7.length c2_7) rfl; have hfz19_0 := zO BK56.out 0; have hfz19_1 := zO BK56.out 1; have hfz19_2 := zO BK56.out 2; have hfz19_3 := zO BK56.out 3; have hfz19_4 := zO BK56.out 4; have hfz19_5 := zO BK56.out 5; have hfz19_6 := zO BK56.out 6; have hfz19_7 := zO BK56.out 7) | ((with_reducible refine yB (f := 5) rfl ?_); refine goesL_ (some 23) rfl rfl Tryz.func5 (by kernel_rfl) rfl #[.agg #[.int .i64 a2_0, .string a2_1, .string a2_2, .slice A2_3 l2_3.length c2_3, .int .i64 a2_4, .slice A2_5 l2_5.length c2_5, .slice A2_6 l2_6.length c2_6, .slice A2_7 l2_7.length c2_7], .int .i64 1048576] rfl (by (try simp only [zAA, zAB, zAC]); first | done | rfl | (simp only [zZ, zY]; rfl)) ?_; (with_reducible refine (laws_szAnswer.calls k a2_0 a2_1 a2_2 _ _ l2_3 a2_4 _ _ l2_5 _ _ l2_6 _ _ l2_7 1048576 t51 _ ?side1 ?side2 ?side3 ?side4 ?side5 ?side6 ?side7 ?side8 A8.out).mono ?_); (case side1 => repeat (first | exact (yN HR2_3.out HB.out) | (with_reducible first | refine zT ?_ _ | refine zU ?_ _ | refine zV ?_))); (case side2 => exact HC2_3.out); (case side3 => repeat (first | exact (yN HR2_5.out HB.out) | (with_reducible first | refine zT ?_ _ | refine zU ?_ _ | refine zV ?_))); (case side4 => exact HC2_5.out); (case side5 => repeat (first | exact (yN HR2_6.out HB.out) | (with_reducible first | refine zT ?_ _ | refine zU ?_ _ | refine zV ?_))); (case side6 => exact HC2_6.out); (case side7 => repeat (first | exact (yN HR2_7.out HB.out) | (with_reducible first | refine zT ?_ _ | refine zU ?_ _ | refine zV ?_))); (case side8 => exact HC2_7.out); rintro e w20 ⟨rfl, hb⟩; refine ⟨_, rfl, ?_⟩; have n0_ := zA (yE (g := gb56) (o := .cells #[.int .i64 a2_0, .string a2_1, .string a2_2, .slice A2_3 l2_3.length c2_3, .int .i64 a2_4, .slice A2_5 l2_5.length c2_5, .slice A2_6 l2_6.length c2_6, .slice A2_7 l2_7.length c2_7] 29 (0, 0)) (by (with_reducible repeat (first | refine zL ?_ _ | refine zN ?_ | refine zM ?_ _)); exact BK56.out) hb); have n1_ := zA (zAD (by repeat (first | (with_reducible first | exact HB.out | apply zH | apply zF | apply zG | refine zI ?_ GE56.out) | exact HB.out)) hb); clear BK56; clear HB; have BK56 := n0_; have HB := n1_; clear n0_ n1_; (try clear hb); have hcz21_0 := yL BK56.out 0 (.int .i64 a2_0) rfl; have hcz21_1 := yL BK56.out 1 (.string a2_1) rfl; have hcz21_2 := yL BK56.out 2 (.string a2_2) rfl; have hcz21_3 := yL BK56.out 3 (.slice A2_3 l2_3.length c2_3) rfl; have hcz21_4 := yL BK56.out 4 (.int .i64 a2_4) rfl; have hcz21_5 := yL BK56.out 5 (.slice A2_5 l2_5.length c2_5) rfl; have hcz21_6 := yL BK56.out 6 (.slice A2_6 l2_6.length c2_6) rfl; have hcz21_7 := yL BK56.out 7 (.slice A2_7 l2_7.length c2_7) rfl; have hfz21_0 := zO BK56.out 0; have hfz21_1 := zO BK56.out 1; have hfz21_2 := zO BK56.out 2; have hfz21_3 := zO BK56.out 3; have hfz21_4 := zO BK56.out 4; have hfz21_5 := zO BK56.out 5; have hfz21_6 := zO BK56.out 6; have hfz21_7 := zO BK56.out 7) | ((with_reducible refine yB (f := 7) rfl ?_); refine goesL_ (some 30) rfl rfl Tryz.func7 (by kernel_rfl) rfl #[.agg #[.int .i64 a2_0, .string a2_1, .string a2_2, .slice A2_3 l2_3.length c2_3, .int .i64 a2_4, .slice A2_5 l2_5.length c2_5, .slice A2_6 l2_6.length c2_6, .slice A2_7 l2_7.length c2_7]] rfl (by (try simp only [zAA, zAB, zAC]); first | done | rfl | (simp only [zZ, zY]; rfl)) ?_; (with_reducible refine (laws_toAnswer.calls k a2_0 a2_1 a2_2 _ _ l2_3 a2_4 _ _ l2_5 _ _ l2_6 _ _ l2_7 t52 t58 t59 t60 t61 t62 t63 t65 _ ?side1 ?side2 ?side3 ?side4 ?side5 ?side6 ?side7 ?side8 A13.out).mono ?_); (case side1 => repeat (first | exact (yN HR2_3.out HB.out) | (with_reducible first | refine zT ?_ _ | refine zU ?_ _ | refine zV ?_))); (case side2 => exact HC2_3.out); (case side3 => repeat (first | exact (yN HR2_5.out HB.out) | (with_reducible first | refine zT ?_ _ | refine zU ?_ _ | refine zV ?_))); (case side4 => exact HC2_5.out); (case side5 => repeat (first | exact (yN HR2_6.out HB.out) | (with_reducible first | refine zT ?_ _ | refine zU ?_ _ | refine zV ?_))); (case side6 => exact HC2_6.out); (case side7 => repeat (first | exact (yN HR2_7.out HB.out) | (with_reducible first | refine zT ?_ _ | refine zU ?_ _ | refine zV ?_))); (case side8 => exact HC2_7.out); rintro e w22 ⟨v83, v84, v86, v87, rfl, ho0, ho1, ho2, ho3, hb⟩; refine ⟨_, rfl, ?_⟩; have n0_ := zA (Kd.R_lower ho0 (zAE (by repeat (first | (with_reducible first | exact HB.out | apply zH | apply zF | apply zG | refine zI ?_ GE56.out) | exact HB.out)))); have n1_ := zA (Kd.R_lower ho1 (zAE (by repeat (first | (with_reducible first | exact HB.out | apply zH | apply zF | apply zG | refine zI ?_ GE56.out) | exact HB.out)))); have n2_ := zA (Kd.R_lower ho2 (zAE (by repeat (first | (with_reducible first | exact HB.out | apply zH | apply zF | apply zG | refine zI ?_ GE56.out) | exact HB.out)))); have n3_ := zA (Kd.S_lower ho3 (zAE (by repeat (first | (with_reducible first | exact HB.out | apply zH | apply zF | apply zG | refine zI ?_ GE56.out) | exact HB.out)))); have n4_ := zA (yE (g := gb56) (o := .cells #[.int .i64 a2_0, .string a2_1, .string a2_2, .slice A2_3 l2_3.length c2_3, .int .i64 a2_4, .slice A2_5 l2_5.length c2_5, .slice A2_6 l2_6.length c2_6, .slice A2_7 l2_7.length c2_7] 29 (0, 0)) (by (with_reducible repeat (first | refine zL ?_ _ | refine zN ?_ | refine zM ?_ _)); exact BK56.out) hb); have n5_ := zA (zAD (by repeat (first | (with_reducible first | exact HB.out | apply zH | apply zF | apply zG | refine zI ?_ GE56.out) | exact HB.out)) hb); clear BK56; clear HB; have HO88 := n0_; have HO89 := n1_; have HO90 := n2_; have HO91 := n3_; have BK56 := n4_; have HB := n5_; clear n0_ n1_ n2_ n3_ n4_ n5_; (try clear hb); (try clear ho0); (try clear ho1); (try clear ho2); (try clear ho3); obtain ⟨Ao23, co23, eo23⟩ := Kd.R_slice HO88.out; subst eo23; obtain ⟨Ao24, co24, eo24⟩ := Kd.R_slice HO89.out; subst eo24; obtain ⟨Ao25, co25, eo25⟩ := Kd.R_slice HO90.out; subst eo25; obtain ⟨Ao26, co26, eo26⟩ := Kd.S_slice HO91.out; subst eo26) | ((with_reducible refine yB (f := 6) rfl ?_); refine goesL_ (some 31) rfl rfl Tryz.func6 (by kernel_rfl) rfl #[.string a0, .string a1, .agg #[.int .i64 t52, .string t58, .string t59, .slice Ao23 t60.length co23, .int .i64 t61, .slice Ao24 t62.length co24, .slice Ao25 t63.length co25, .slice Ao26 t65.length co26]] rfl (by (try simp only [zAA, zAB, zAC]); first | done | rfl | (simp only [zZ, zY]; rfl)) ?_; (with_reducible refine (spec_CheckAnswer.calls k a0 a1 t52 t58 t59 _ _ t60 t61 _ _ t62 _ _ t63 _ _ t65 t53 t67 t68 _ ?side1 ?side2 ?side3 ?side4 ?side5 ?side6 ?side7 ?side8 A14.out).mono ?_); (case side1 => repeat (first | exact (yD HO88.out).2.2 | (with_reducible first | refine zT ?_ _ | refine zU ?_ _ | refine zV ?_))); (case side2 => exact (yD HO88.out).2.1); (case side3 => repeat (first | exact (yD HO89.out).2.2 | (with_reducible first | refine zT ?_ _ | refine zU ?_ _ | refine zV ?_))); (case side4 => exact (yD HO89.out).2.1); (case side5 => repeat (first | exact (yD HO90.out).2.2 | (with_reducible first | refine zT ?_ _ | refine zU ?_ _ | refine zV ?_))); (case side6 => exact (yD HO90.out).2.1); (case side7 => repeat (first | exact (Kd.S_reads' HO91.out).2.2 | (with_reducible first | refine zT ?_ _ | refine zU ?_ _ | refine zV ?_))); (case side8 => exact (Kd.S_reads' HO91.out).2.1); rintro e w27 ⟨rfl, hb⟩; refine ⟨_, rfl, ?_⟩; have n0_ := zA (Kd.R_below (by (with_reducible repeat first | apply zQ | apply zR | apply zS); exact HO88.out) hb); have n1_ := zA (Kd.R_below (by (with_reducible repeat first | apply zQ | apply zR | apply zS); exact HO89.out) hb); have n2_ := zA (Kd.R_below (by (with_reducible repeat first | apply zQ | apply zR | apply zS); exact HO90.out) hb); have n3_ := zA (Kd.S_below (by (with_reducible repeat (first | apply Kd.S_alloc | apply Kd.S_drewN | apply Kd.S_drew)); exact HO91.out) hb); have n4_ := zA (yE (g := gb56) (o := .cells #[.int .i64 a2_0, .string a2_1, .string a2_2, .slice A2_3 l2_3.length c2_3, .int .i64 a2_4, .slice A2_5 l2_5.length c2_5, .slice A2_6 l2_6.length c2_6, .slice A2_7 l2_7.length c2_7] 29 (0, 0)) (by (with_reducible repeat (first | refine zL ?_ _ | refine zN ?_ | refine zM ?_ _)); exact BK56.out) hb); have n5_ := zA (zAD (by repeat (first | (with_reducible first | exact HB.out | apply zH | apply zF | apply zG | refine zI ?_ GE56.out) | exact HB.out)) hb); clear HO88; clear HO89; clear HO90; clear HO91; clear BK56; clear HB; have HO88 := n0_; have HO89 := n1_; have HO90 := n2_; have HO91 := n3_; have BK56 := n4_; have HB := n5_; clear n0_ n1_ n2_ n3_ n4_ n5_; (try clear hb); have hcz28_0 := yL BK56.out 0 (.int .i64 a2_0) rfl; have hcz28_1 := yL BK56.out 1 (.string a2_1) rfl; have hcz28_2 := yL BK56.out 2 (.string a2_2) rfl; have hcz28_3 := yL BK56.out 3 (.slice A2_3 l2_3.length c2_3) rfl; have hcz28_4 := yL BK56.out 4 (.int .i64 a2_4) rfl; have hcz28_5 := yL BK56.out 5 (.slice A2_5 l2_5.length c2_5) rfl; have hcz28_6 := yL BK56.out 6 (.slice A2_6 l2_6.length c2_6) rfl; have hcz28_7 := yL BK56.out 7 (.slice A2_7 l2_7.length c2_7) rfl; have hfz28_0 := zO BK56.out 0; have hfz28_1 := zO BK56.out 1; have hfz28_2 := zO BK56.out 2; have hfz28_3 := zO BK56.out 3; have hfz28_4 := zO BK56.out 4; have hfz28_5 := zO BK56.out 5; have hfz28_6 := zO BK56.out 6; have hfz28_7 := zO BK56.out 7) | ((with_reducible refine yB (f := 7) rfl ?_); refine goesL_ (some 36) rfl rfl Tryz.func7 (by kernel_rfl) rfl #[.agg #[.int .i64 a2_0, .string a2_1, .string a2_2, .slice A2_3 l2_3.length c2_3, .int .i64 a2_4, .slice A2_5 l2_5.length c2_5, .slice A2_6 l2_6.length c2_6, .slice A2_7 l2_7.length c2_7]] rfl (by (try simp only [zAA, zAB, zAC]); first | done | rfl | (simp only [zZ, zY]; rfl)) ?_; (with_reducible refine (laws_toAnswer.calls k a2_0 a2_1 a2_2 _ _ l2_3 a2_4 _ _ l2_5 _ _ l2_6 _ _ l2_7 t54 t70 t71 t72 t73 t74 t75 t76 _ ?side1 ?side2 ?side3 ?side4 ?side5 ?side6 ?side7 ?side8 A15.out).mono ?_); (case side1 => repeat (first | exact (yN HR2_3.out HB.out) | (with_reducible first | refine zT ?_ _ | refine zU ?_ _ | refine zV ?_))); (case side2 => exact HC2_3.out); (case side3 => repeat (first | exact (yN HR2_5.out HB.out) | (with_reducible first | refine zT ?_ _ | refine zU ?_ _ | refine zV ?_))); (case side4 => exact HC2_5.out); (case side5 => repeat (first | exact (yN HR2_6.out HB.out) | (with_reducible first | refine zT ?_ _ | refine zU ?_ _ | refine zV ?_))); (case side6 => exact HC2_6.out); (case side7 => repeat (first | exact (yN HR2_7.out HB.out) | (with_reducible first | refine zT ?_ _ | refine zU ?_ _ | refine zV ?_))); (case side8 => exact HC2_7.out); rintro e w29 ⟨v92, v93, v94, v95, rfl, ho0, ho1, ho2, ho3, hb⟩; refine ⟨_, rfl, ?_⟩; have n0_ := zA (yC (Kd.R_told (Kd.R_told (Kd.R_told (Kd.R_old (by (with_reducible repeat first | apply zQ | apply zR | apply zS); exact HO88.out) hb) (Kd.R_base ho0)) (Kd.R_base ho1)) (Kd.R_base ho2)) (fun _ h_ => h_.1)); have n1_ := zA (yC (Kd.R_told (Kd.R_told (Kd.R_told (Kd.R_old (by (with_reducible repeat first | apply zQ | apply zR | apply zS); exact HO89.out) hb) (Kd.R_base ho0)) (Kd.R_base ho1)) (Kd.R_base ho2)) (fun _ h_ => h_.1)); have n2_ := zA (yC (Kd.R_told (Kd.R_told (Kd.R_told (Kd.R_old (by (with_reducible repeat first | apply zQ | apply zR | apply zS); exact HO90.out) hb) (Kd.R_base ho0)) (Kd.R_base ho1)) (Kd.R_base ho2)) (fun _ h_ => h_.1)); have n3_ := zA (Kd.S_mono (Kd.S_told (Kd.S_told (Kd.S_told (Kd.S_told (Kd.S_old (by (with_reducible repeat (first | apply Kd.S_alloc | apply Kd.S_drewN | apply Kd.S_drew)); exact HO91.out) hb) (Kd.R_base ho0)) (Kd.R_base ho1)) (Kd.R_base ho2)) (Kd.S_base ho3)) (fun _ h_ => h_.1)); have n4_ := zA (Kd.R_lower (yK (yK (yK ho0 (Kd.R_lt (by (with_reducible repeat first | apply zQ | apply zR | apply zS); exact HO88.out))) (Kd.R_lt (by (with_reducible repeat first | apply zQ | apply zR | apply zS); exact HO89.out))) (Kd.R_lt (by (with_reducible repeat first | apply zQ | apply zR | apply zS); exact HO90.out))) (zAE (by repeat (first | (with_reducible first | exact HB.out | apply zH | apply zF | apply zG | refine zI ?_ GE56.out) | exact HB.out)))); have n5_ := zA (Kd.R_lower (yK (yK (yK ho1 (Kd.R_lt (by (with_reducible repeat first | apply zQ | apply zR | apply zS); exact HO88.out))) (Kd.R_lt (by (with_reducible repeat first | apply zQ | apply zR | apply zS); exact HO89.out))) (Kd.R_lt (by (with_reducible repeat first | apply zQ | apply zR | apply zS); exact HO90.out))) (zAE (by repeat (first | (with_reducible first | exact HB.out | apply zH | apply zF | apply zG | refine zI ?_ GE56.out) | exact HB.out)))); have n6_ := zA (Kd.R_lower (yK (yK (yK ho2 (Kd.R_lt (by (with_reducible repeat first | apply zQ | apply zR | apply zS); exact HO88.out))) (Kd.R_lt (by (with_reducible repeat first | apply zQ | apply zR | apply zS); exact HO89.out))) (Kd.R_lt (by (with_reducible repeat first | apply zQ | apply zR | apply zS); exact HO90.out))) (zAE (by repeat (first | (with_reducible first | exact HB.out | apply zH | apply zF | apply zG | refine zI ?_ GE56.out) | exact HB.out)))); have n7_ := zA (Kd.S_lower (Kd.S_new' (Kd.S_new' (Kd.S_new' (Kd.S_new' ho3 (Kd.R_lt (by (with_reducible repeat first | apply zQ | apply zR | apply zS); exact HO88.out))) (Kd.R_lt (by (with_reducible repeat first | apply zQ | apply zR | apply zS); exact HO89.out))) (Kd.R_lt (by (with_reducible repeat first | apply zQ | apply zR | apply zS); exact HO90.out))) (Kd.S_lt (by (with_reducible repeat (first | apply Kd.S_alloc | apply Kd.S_drewN | apply Kd.S_drew)); exact HO91.out))) (zAE (by repeat (first | (with_reducible first | exact HB.out | apply zH | apply zF | apply zG | refine zI ?_ GE56.out) | exact HB.out)))); have n8_ := zA (yE (g := gb56) (o := .cells #[.int .i64 a2_0, .string a2_1, .string a2_2, .slice A2_3 l2_3.length c2_3, .int .i64 a2_4, .slice A2_5 l2_5.length c2_5, .slice A2_6 l2_6.length c2_6, .slice A2_7 l2_7.length c2_7] 29 (0, 0)) (by (with_reducible repeat (first | refine zL ?_ _ | refine zN ?_ | refine zM ?_ _)); exact BK56.out) hb); have n9_ := zA (zAD (by repeat (first | (with_reducible first | exact HB.out | apply zH | apply zF | apply zG | refine zI ?_ GE56.out) | exact HB.out)) hb); clear HO88; clear HO89; clear HO90; clear HO91; clear BK56; clear HB; have HO88 := n0_; have HO89 := n1_; have HO90 := n2_; have HO91 := n3_; have HO96 := n4_; have HO97 := n5_; have HO98 := n6_; have HO99 := n7_; have BK56 := n8_; have HB := n9_; clear n0_ n1_ n2_ n3_ n4_ n5_ n6_ n7_ n8_ n9_; (try clear hb); (try clear ho0); (try clear ho1); (try clear ho2); (try clear ho3)) | ((with_reducible refine gate_dst (N := 11) rfl ?_); refine box_event ?hg (N := 11) ?hd (cs := #[.int .i64 0, .string (⟨#[]⟩ : ByteArray), .string (⟨#[]⟩ : ByteArray), .slice none 0 0, .int .i64 0, .slice none 0 0, .slice none 0 0, .slice none 0 0]) (t := 37) ?hr ?_; (case hd => rfl); (case hg => rfl); (case hr => first | (go_simp; done) | (go_simp; rfl)); intro gb521 hg w30 hbox hb; have n0_ := zA (Kd.R_below (by (with_reducible repeat first | apply zQ | apply zR | apply zS); exact HO88.out) hb); have n1_ := zA (Kd.R_below (by (with_reducible repeat first | apply zQ | apply zR | apply zS); exact HO89.out) hb); have n2_ := zA (Kd.R_below (by (with_reducible repeat first | apply zQ | apply zR | apply zS); exact HO90.out) hb); have n3_ := zA (Kd.S_below (by (with_reducible repeat (first | apply Kd.S_alloc | apply Kd.S_drewN | apply Kd.S_drew)); exact HO91.out) hb); have n4_ := zA (Kd.R_below (by (with_reducible repeat first | apply zQ | apply zR | apply zS); exact HO96.out) hb); have n5_ := zA (Kd.R_below (by (with_reducible repeat first | apply zQ | apply zR | apply zS); exact HO97.out) hb); have n6_ := zA (Kd.R_below (by (with_reducible repeat first | apply zQ | apply zR | apply zS); exact HO98.out) hb); have n7_ := zA (Kd.S_below (by (with_reducible repeat (first | apply Kd.S_alloc | apply Kd.S_drewN | apply Kd.S_drew)); exact HO99.out) hb); have n8_ := zA (yE (g := gb56) (o := .cells #[.int .i64 a2_0, .string a2_1, .string a2_2, .slice A2_3 l2_3.length c2_3, .int .i64 a2_4, .slice A2_5 l2_5.length c2_5, .slice A2_6 l2_6.length c2_6, .slice A2_7 l2_7.length c2_7] 29 (0, 0)) (by (with_reducible repeat (first | refine zL ?_ _ | refine zN ?_ | refine zM ?_ _)); exact BK56.out) hb); have n9_ := zA (zAD (by repeat (first | (with_reducible first | exact HB.out | apply zH | apply zF | apply zG | refine zI ?_ GE56.out) | exact HB.out)) hb); have n10_ := zA (hbox); have n11_ := zA ((by rw [hg]; exact (zAE (by repeat (first | (with_reducible first | exact HB.out | apply zH | apply zF | apply zG | refine zI ?_ GE56.out) | exact HB.out))) : w.heap.size ≤ gb521)); have n12_ := zA ((by rw [hg]; exact (zAE (by repeat (first | (with_reducible first | exact HB.out | apply zH | apply zF | apply zG | refine zI ?_ GE56.out) | exact HB.out))) : w.heap.size ≤ gb521)); have n13_ := zA ((by rw [hg]; exact zK (blk_lt (g := gb56) (o := .cells #[.int .i64 a2_0, .string a2_1, .string a2_2, .slice A2_3 l2_3.length c2_3, .int .i64 a2_4, .slice A2_5 l2_5.length c2_5, .slice A2_6 l2_6.length c2_6, .slice A2_7 l2_7.length c2_7] 29 (0, 0)) (by (with_reducible repeat (first | refine zL ?_ _ | refine zN ?_ | refine zM ?_ _)); exact BK56.out)) : gb56 ≠ gb521)); have n14_ := zA ((by rw [hg]; exact Nat.ne_of_gt (blk_lt (g := gb56) (o := .cells #[.int .i64 a2_0, .string a2_1, .string a2_2, .slice A2_3 l2_3.length c2_3, .int .i64 a2_4, .slice A2_5 l2_5.length c2_5, .slice A2_6 l2_6.length c2_6, .slice A2_7 l2_7.length c2_7] 29 (0, 0)) (by (with_reducible repeat (first | refine zL ?_ _ | refine zN ?_ | refine zM ?_ _)); exact BK56.out)) : gb521 ≠ gb56)); clear HO88; clear HO89; clear HO90; clear HO91; clear HO96; clear HO97; clear HO98; clear HO99; clear BK56; clear HB; have HO88 := n0_; have HO89 := n1_; have HO90 := n2_; have HO91 := n3_; have HO96 := n4_; have HO97 := n5_; have HO98 := n6_; have HO99 := n7_; have BK56 := n8_; have HB := n9_; have BK521 := n10_; have GW521 := n11_; have GE521 := n12_; have NB56_521 := n13_; have NB521_56 := n14_; clear n0_ n1_ n2_ n3_ n4_ n5_ n6_ n7_ n8_ n9_ n10_ n11_ n12_ n13_ n14_; clear hb hbox hg; have hnb31 := NB521_56.out; have hnc31 := NB56_521.out; have hcz32_0 := yL BK521.out 0 (.int .i64 0) rfl; have hcz32_1 := yL BK521.out 1 (.string (⟨#[]⟩ : ByteArray)) rfl; have hcz32_2 := yL BK521.out 2 (.string (⟨#[]⟩ : ByteArray)) rfl; have hcz32_3 := yL BK521.out 3 (.slice none 0 0) rfl; have hcz32_4 := yL BK521.out 4 (.int .i64 0) rfl; have hcz32_5 := yL BK521.out 5 (.slice none 0 0) rfl; have hcz32_6 := yL BK521.out 6 (.slice none 0 0) rfl; have hcz32_7 := yL BK521.out 7 (.slice none 0 0) rfl; have hfz32_0 := zO BK521.out 0; have hfz32_1 := zO BK521.out 1; have hfz32_2 := zO BK521.out 2; have hfz32_3 := zO BK521.out 3; have hfz32_4 := zO BK521.out 4; have hfz32_5 := zO BK521.out 5; have hfz32_6 := zO BK521.out 6; have hfz32_7 := zO BK521.out 7; obtain ⟨Ao33, co33, eo33⟩ := Kd.R_slice HO96.out; subst eo33; obtain ⟨Ao34, co34, eo34⟩ := Kd.R_slice HO97.out; subst eo34; obtain ⟨Ao35, co35, eo35⟩ := Kd.R_slice HO98.out; subst eo35; obtain ⟨Ao36, co36, eo36⟩ := Kd.S_slice HO99.out; subst eo36) | ((with_reducible refine yB (f := 8) rfl ?_); refine goesL_ (some 41) rfl rfl Tryz.func8 (by kernel_rfl) rfl #[.string a0, .string a1, .agg #[.int .i64 t54, .string t70, .string t71, .slice Ao33 t72.length co33, .int .i64 t73, .slice Ao34 t74.length co34, .slice Ao35 t75.length co35, .slice Ao36 t76.length co36]] rfl (by (try simp only [zAA, zAB, zAC]); first | done | rfl | (simp only [zZ, zY]; rfl)) ?_; (with_reducible refine (impl_CheckAnswer.calls k a0 a1 t54 t70 t71 _ _ t72 t73 _ _ t74 _ _ t75 _ _ t76 t55 t79 t81 _ ?side1 ?side2 ?side3 ?side4 ?side5 ?side6 ?side7 ?side8 A16.out).mono ?_); (case side1 => refine (yD (e := 9) (base := w.heap.size) (ok := fun k_ => ((((some k_ ≠ (.slice Ao34 t74.length co34 : Value).ownBlock ∧ some k_ ≠ (.slice Ao35 t75.length co35 : Value).ownBlock) ∧ some k_ ≠ (.slice Ao23 t60.length co23 : Value).ownBlock) ∧ some k_ ≠ (.slice Ao24 t62.length co24 : Value).ownBlock) ∧ some k_ ≠ (.slice Ao25 t63.length co25 : Value).ownBlock)) (n := t72.length) (c := co33) ?_).2.2; exact (by (with_reducible repeat first | apply zQ | apply zR | apply zS); exact (yC (Kd.R_far (p := ⟨gb521, 7, none⟩) (Kd.R_far (p := ⟨gb521, 6, none⟩) (Kd.R_far (p := ⟨gb521, 5, none⟩) (Kd.R_far (p := ⟨gb521, 4, none⟩) (Kd.R_far (p := ⟨gb521, 3, none⟩) (Kd.R_far (p := ⟨gb521, 2, none⟩) (Kd.R_far (p := ⟨gb521, 1, none⟩) (Kd.R_far (p := ⟨gb521, 0, none⟩) (Kd.R_types HO96.out BK521.out (by decide)) (fun _ hk => hk.2) (.int .i64 t54)) (fun _ hk => hk.2) (.string t70)) (fun _ hk => hk.2) (.string t71)) (fun _ hk => hk.2) (.slice Ao33 t72.length co33)) (fun _ hk => hk.2) (.int .i64 t73)) (fun _ hk => hk.2) (.slice Ao34 t74.length co34)) (fun _ hk => hk.2) (.slice Ao35 t75.length co35)) (fun _ hk => hk.2) (.slice Ao36 t76.length co36)) (fun _ h_ => h_.1)))); (case side2 => exact (yD HO96.out).2.1); (case side3 => refine (yD (e := 9) (base := w.heap.size) (ok := fun k_ => ((((some k_ ≠ (.slice Ao33 t72.length co33 : Value).ownBlock ∧ some k_ ≠ (.slice Ao35 t75.length co35 : Value).ownBlock) ∧ some k_ ≠ (.slice Ao23 t60.length co23 : Value).ownBlock) ∧ some k_ ≠ (.slice Ao24 t62.length co24 : Value).ownBlock) ∧ some k_ ≠ (.slice Ao25 t63.length co25 : Value).ownBlock)) (n := t74.length) (c := co34) ?_).2.2; exact (by (with_reducible repeat first | apply zQ | apply zR | apply zS); exact (yC (Kd.R_far (p := ⟨gb521, 7, none⟩) (Kd.R_far (p := ⟨gb521, 6, none⟩) (Kd.R_far (p := ⟨gb521, 5, none⟩) (Kd.R_far (p := ⟨gb521, 4, none⟩) (Kd.R_far (p := ⟨gb521, 3, none⟩) (Kd.R_far (p := ⟨gb521, 2, none⟩) (Kd.R_far (p := ⟨gb521, 1, none⟩) (Kd.R_far (p := ⟨gb521, 0, none⟩) (Kd.R_types HO97.out BK521.out (by decide)) (fun _ hk => hk.2) (.int .i64 t54)) (fun _ hk => hk.2) (.string t70)) (fun _ hk => hk.2) (.string t71)) (fun _ hk => hk.2) (.slice Ao33 t72.length co33)) (fun _ hk => hk.2) (.int .i64 t73)) (fun _ hk => hk.2) (.slice Ao34 t74.length co34)) (fun _ hk => hk.2) (.slice Ao35 t75.length co35)) (fun _ hk => hk.2) (.slice Ao36 t76.length co36)) (fun _ h_ => h_.1)))); (case side4 => exact (yD HO97.out).2.1); (case side5 => refine (yD (e := 9) (base := w.heap.size) (ok := fun k_ => ((((some k_ ≠ (.slice Ao33 t72.length co33 : Value).ownBlock ∧ some k_ ≠ (.slice Ao34 t74.length co34 : Value).ownBlock) ∧ some k_ ≠ (.slice Ao23 t60.length co23 : Value).ownBlock) ∧ some k_ ≠ (.slice Ao24 t62.length co24 : Value).ownBlock) ∧ some k_ ≠ (.slice Ao25 t63.length co25 : Value).ownBlock)) (n := t75.length) (c := co35) ?_).2.2; exact (by (with_reducible repeat first | apply zQ | apply zR | apply zS); exact (yC (Kd.R_far (p := ⟨gb521, 7, none⟩) (Kd.R_far (p := ⟨gb521, 6, none⟩) (Kd.R_far (p := ⟨gb521, 5, none⟩) (Kd.R_far (p := ⟨gb521, 4, none⟩) (Kd.R_far (p := ⟨gb521, 3, none⟩) (Kd.R_far (p := ⟨gb521, 2, none⟩) (Kd.R_far (p := ⟨gb521, 1, none⟩) (Kd.R_far (p := ⟨gb521, 0, none⟩) (Kd.R_types HO98.out BK521.out (by decide)) (fun _ hk => hk.2) (.int .i64 t54)) (fun _ hk => hk.2) (.string t70)) (fun _ hk => hk.2) (.string t71)) (fun _ hk => hk.2) (.slice Ao33 t72.length co33)) (fun _ hk => hk.2) (.int .i64 t73)) (fun _ hk => hk.2) (.slice Ao34 t74.length co34)) (fun _ hk => hk.2) (.slice Ao35 t75.length co35)) (fun _ hk => hk.2) (.slice Ao36 t76.length co36)) (fun _ h_ => h_.1)))); (case side6 => exact (yD HO98.out).2.1); (case side7 => refine (Kd.S_reads' (e := 85) (base := w.heap.size) (ok := fun k_ => (((((some k_ ≠ (.slice Ao33 t72.length co33 : Value).ownBlock ∧ (some k_ ≠ (.slice Ao34 t74.length co34 : Value).ownBlock ∧ some k_ ≠ (.slice Ao35 t75.length co35 : Value).ownBlock)) ∧ some k_ ≠ (.slice Ao23 t60.length co23 : Value).ownBlock) ∧ some k_ ≠ (.slice Ao24 t62.length co24 : Value).ownBlock) ∧ some k_ ≠ (.slice Ao25 t63.length co25 : Value).ownBlock) ∧ some k_ ≠ (.slice Ao26 t65.length co26 : Value).ownBlock)) (n := t76.length) (c := co36) ?_).2.2; exact (by (with_reducible repeat (first | apply Kd.S_alloc | apply Kd.S_drewN | apply Kd.S_drew)); exact (Kd.S_mono (Kd.S_far (p := ⟨gb521, 7, none⟩) (Kd.S_far (p := ⟨gb521, 6, none⟩) (Kd.S_far (p := ⟨gb521, 5, none⟩) (Kd.S_far (p := ⟨gb521, 4, none⟩) (Kd.S_far (p := ⟨gb521, 3, none⟩) (Kd.S_far (p := ⟨gb521, 2, none⟩) (Kd.S_far (p := ⟨gb521, 1, none⟩) (Kd.S_far (p := ⟨gb521, 0, none⟩) (Kd.S_types HO99.out BK521.out (by decide)) (fun _ hk => hk.2) (.int .i64 t54)) (fun _ hk => hk.2) (.string t70)) (fun _ hk => hk.2) (.string t71)) (fun _ hk => hk.2) (.slice Ao33 t72.length co33)) (fun _ hk => hk.2) (.int .i64 t73)) (fun _ hk => hk.2) (.slice Ao34 t74.length co34)) (fun _ hk => hk.2) (.slice Ao35 t75.length co35)) (fun _ hk => hk.2) (.slice Ao36 t76.length co36)) (fun _ h_ => h_.1)))); (case side8 => exact (Kd.S_reads' HO99.out).2.1); rintro e w37 ⟨rfl, hb⟩; refine ⟨_, rfl, ?_⟩; have n0_ := zA (Kd.R_below (by (with_reducible repeat first | apply zQ | apply zR | apply zS); exact (yC (Kd.R_far (p := ⟨gb521, 7, none⟩) (Kd.R_far (p := ⟨gb521, 6, none⟩) (Kd.R_far (p := ⟨gb521, 5, none⟩) (Kd.R_far (p := ⟨gb521, 4, none⟩) (Kd.R_far (p := ⟨gb521, 3, none⟩) (Kd.R_far (p := ⟨gb521, 2, none⟩) (Kd.R_far (p := ⟨gb521, 1, none⟩) (Kd.R_far (p := ⟨gb521, 0, none⟩) (Kd.R_types HO88.out BK521.out (by decide)) (fun _ hk => hk.2) (.int .i64 t54)) (fun _ hk => hk.2) (.string t70)) (fun _ hk => hk.2) (.string t71)) (fun _ hk => hk.2) (.slice Ao33 t72.length co33)) (fun _ hk => hk.2) (.int .i64 t73)) (fun _ hk => hk.2) (.slice Ao34 t74.length co34)) (fun _ hk => hk.2) (.slice Ao35 t75.length co35)) (fun _ hk => hk.2) (.slice Ao36 t76.length co36)) (fun _ h_ => h_.1))) hb); have n1_ := zA (Kd.R_below (by (with_reducible repeat first | apply zQ | apply zR | apply zS); exact (yC (Kd.R_far (p := ⟨gb521, 7, none⟩) (Kd.R_far (p := ⟨gb521, 6, none⟩) (Kd.R_far (p := ⟨gb521, 5, none⟩) (Kd.R_far (p := ⟨gb521, 4, none⟩) (Kd.R_far (p := ⟨gb521, 3, none⟩) (Kd.R_far (p := ⟨gb521, 2, none⟩) (Kd.R_far (p := ⟨gb521, 1, none⟩) (Kd.R_far (p := ⟨gb521, 0, none⟩) (Kd.R_types HO89.out BK521.out (by decide)) (fun _ hk => hk.2) (.int .i64 t54)) (fun _ hk => hk.2) (.string t70)) (fun _ hk => hk.2) (.string t71)) (fun _ hk => hk.2) (.slice Ao33 t72.length co33)) (fun _ hk => hk.2) (.int .i64 t73)) (fun _ hk => hk.2) (.slice Ao34 t74.length co34)) (fun _ hk => hk.2) (.slice Ao35 t75.length co35)) (fun _ hk => hk.2) (.slice Ao36 t76.length co36)) (fun _ h_ => h_.1))) hb); have n2_ := zA (Kd.R_below (by (with_reducible repeat first | apply zQ | apply zR | apply zS); exact (yC (Kd.R_far (p := ⟨gb521, 7, none⟩) (Kd.R_far (p := ⟨gb521, 6, none⟩) (Kd.R_far (p := ⟨gb521, 5, none⟩) (Kd.R_far (p := ⟨gb521, 4, none⟩) (Kd.R_far (p := ⟨gb521, 3, none⟩) (Kd.R_far (p := ⟨gb521, 2, none⟩) (Kd.R_far (p := ⟨gb521, 1, none⟩) (Kd.R_far (p := ⟨gb521, 0, none⟩) (Kd.R_types HO90.out BK521.out (by decide)) (fun _ hk => hk.2) (.int .i64 t54)) (fun _ hk => hk.2) (.string t70)) (fun _ hk => hk.2) (.string t71)) (fun _ hk => hk.2) (.slice Ao33 t72.length co33)) (fun _ hk => hk.2) (.int .i64 t73)) (fun _ hk => hk.2) (.slice Ao34 t74.length co34)) (fun _ hk => hk.2) (.slice Ao35 t75.length co35)) (fun _ hk => hk.2) (.slice Ao36 t76.length co36)) (fun _ h_ => h_.1))) hb); have n3_ := zA (Kd.S_below (by (with_reducible repeat (first | apply Kd.S_alloc | apply Kd.S_drewN | apply Kd.S_drew)); exact (Kd.S_mono (Kd.S_far (p := ⟨gb521, 7, none⟩) (Kd.S_far (p := ⟨gb521, 6, none⟩) (Kd.S_far (p := ⟨gb521, 5, none⟩) (Kd.S_far (p := ⟨gb521, 4, none⟩) (Kd.S_far (p := ⟨gb521, 3, none⟩) (Kd.S_far (p := ⟨gb521, 2, none⟩) (Kd.S_far (p := ⟨gb521, 1, none⟩) (Kd.S_far (p := ⟨gb521, 0, none⟩) (Kd.S_types HO91.out BK521.out (by decide)) (fun _ hk => hk.2) (.int .i64 t54)) (fun _ hk => hk.2) (.string t70)) (fun _ hk => hk.2) (.string t71)) (fun _ hk => hk.2) (.slice Ao33 t72.length co33)) (fun _ hk => hk.2) (.int .i64 t73)) (fun _ hk => hk.2) (.slice Ao34 t74.length co34)) (fun _ hk => hk.2) (.slice Ao35 t75.length co35)) (fun _ hk => hk.2) (.slice Ao36 t76.length co36)) (fun _ h_ => h_.1))) hb); have n4_ := zA (Kd.R_below (by (with_reducible repeat first | apply zQ | apply zR | apply zS); exact (yC (Kd.R_far (p := ⟨gb521, 7, none⟩) (Kd.R_far (p := ⟨gb521, 6, none⟩) (Kd.R_far (p := ⟨gb521, 5, none⟩) (Kd.R_far (p := ⟨gb521, 4, none⟩) (Kd.R_far (p := ⟨gb521, 3, none⟩) (Kd.R_far (p := ⟨gb521, 2, none⟩) (Kd.R_far (p := ⟨gb521, 1, none⟩) (Kd.R_far (p := ⟨gb521, 0, none⟩) (Kd.R_types HO96.out BK521.out (by decide)) (fun _ hk => hk.2) (.int .i64 t54)) (fun _ hk => hk.2) (.string t70)) (fun _ hk => hk.2) (.string t71)) (fun _ hk => hk.2) (.slice Ao33 t72.length co33)) (fun _ hk => hk.2) (.int .i64 t73)) (fun _ hk => hk.2) (.slice Ao34 t74.length co34)) (fun _ hk => hk.2) (.slice Ao35 t75.length co35)) (fun _ hk => hk.2) (.slice Ao36 t76.length co36)) (fun _ h_ => h_.1))) hb); have n5_ := zA (Kd.R_below (by (with_reducible repeat first | apply zQ | apply zR | apply zS); exact (yC (Kd.R_far (p := ⟨gb521, 7, none⟩) (Kd.R_far (p := ⟨gb521, 6, none⟩) (Kd.R_far (p := ⟨gb521, 5, none⟩) (Kd.R_far (p := ⟨gb521, 4, none⟩) (Kd.R_far (p := ⟨gb521, 3, none⟩) (Kd.R_far (p := ⟨gb521, 2, none⟩) (Kd.R_far (p := ⟨gb521, 1, none⟩) (Kd.R_far (p := ⟨gb521, 0, none⟩) (Kd.R_types HO97.out BK521.out (by decide)) (fun _ hk => hk.2) (.int .i64 t54)) (fun _ hk => hk.2) (.string t70)) (fun _ hk => hk.2) (.string t71)) (fun _ hk => hk.2) (.slice Ao33 t72.length co33)) (fun _ hk => hk.2) (.int .i64 t73)) (fun _ hk => hk.2) (.slice Ao34 t74.length co34)) (fun _ hk => hk.2) (.slice Ao35 t75.length co35)) (fun _ hk => hk.2) (.slice Ao36 t76.length co36)) (fun _ h_ => h_.1))) hb); have n6_ := zA (Kd.R_below (by (with_reducible repeat first | apply zQ | apply zR | apply zS); exact (yC (Kd.R_far (p := ⟨gb521, 7, none⟩) (Kd.R_far (p := ⟨gb521, 6, none⟩) (Kd.R_far (p := ⟨gb521, 5, none⟩) (Kd.R_far (p := ⟨gb521, 4, none⟩) (Kd.R_far (p := ⟨gb521, 3, none⟩) (Kd.R_far (p := ⟨gb521, 2, none⟩) (Kd.R_far (p := ⟨gb521, 1, none⟩) (Kd.R_far (p := ⟨gb521, 0, none⟩) (Kd.R_types HO98.out BK521.out (by decide)) (fun _ hk => hk.2) (.int .i64 t54)) (fun _ hk => hk.2) (.string t70)) (fun _ hk => hk.2) (.string t71)) (fun _ hk => hk.2) (.slice Ao33 t72.length co33)) (fun _ hk => hk.2) (.int .i64 t73)) (fun _ hk => hk.2) (.slice Ao34 t74.length co34)) (fun _ hk => hk.2) (.slice Ao35 t75.length co35)) (fun _ hk => hk.2) (.slice Ao36 t76.length co36)) (fun _ h_ => h_.1))) hb); have n7_ := zA (Kd.S_below (by (with_reducible repeat (first | apply Kd.S_alloc | apply Kd.S_drewN | apply Kd.S_drew)); exact (Kd.S_mono (Kd.S_far (p := ⟨gb521, 7, none⟩) (Kd.S_far (p := ⟨gb521, 6, none⟩) (Kd.S_far (p := ⟨gb521, 5, none⟩) (Kd.S_far (p := ⟨gb521, 4, none⟩) (Kd.S_far (p := ⟨gb521, 3, none⟩) (Kd.S_far (p := ⟨gb521, 2, none⟩) (Kd.S_far (p := ⟨gb521, 1, none⟩) (Kd.S_far (p := ⟨gb521, 0, none⟩) (Kd.S_types HO99.out BK521.out (by decide)) (fun _ hk => hk.2) (.int .i64 t54)) (fun _ hk => hk.2) (.string t70)) (fun _ hk => hk.2) (.string t71)) (fun _ hk => hk.2) (.slice Ao33 t72.length co33)) (fun _ hk => hk.2) (.int .i64 t73)) (fun _ hk => hk.2) (.slice Ao34 t74.length co34)) (fun _ hk => hk.2) (.slice Ao35 t75.length co35)) (fun _ hk => hk.2) (.slice Ao36 t76.length co36)) (fun _ h_ => h_.1))) hb); have n8_ := zA (yE (g := gb56) (o := .cells #[.int .i64 a2_0, .string a2_1, .string a2_2, .slice A2_3 l2_3.length c2_3, .int .i64 a2_4, .slice A2_5 l2_5.length c2_5, .slice A2_6 l2_6.length c2_6, .slice A2_7 l2_7.length c2_7] 29 (0, 0)) (by (with_reducible repeat (first | refine zL ?_ _ | refine zN ?_ | refine zM ?_ _)); refine blk_far ?_ NB56_521.out _; (with_reducible repeat (first | refine zL ?_ _ | refine zN ?_ | refine zM ?_ _)); refine blk_far ?_ NB56_521.out _; (with_reducible repeat (first | refine zL ?_ _ | refine zN ?_ | refine zM ?_ _)); refine blk_far ?_ NB56_521.out _; (with_reducible repeat (first | refine zL ?_ _ | refine zN ?_ | refine zM ?_ _)); refine blk_far ?_ NB56_521.out _; (with_reducible repeat (first | refine zL ?_ _ | refine zN ?_ | refine zM ?_ _)); refine blk_far ?_ NB56_521.out _; (with_reducible repeat (first | refine zL ?_ _ | refine zN ?_ | refine zM ?_ _)); refine blk_far ?_ NB56_521.out _; (with_reducible repeat (first | refine zL ?_ _ | refine zN ?_ | refine zM ?_ _)); refine blk_far ?_ NB56_521.out _; (with_reducible repeat (first | refine zL ?_ _ | refine zN ?_ | refine zM ?_ _)); refine blk_far ?_ NB56_521.out _; (with_reducible repeat (first | refine zL ?_ _ | refine zN ?_ | refine zM ?_ _)); exact BK56.out) hb); have n9_ := zA (yE (g := gb521) (o := .cells #[.int .i64 t54, .string t70, .string t71, .slice Ao33 t72.length co33, .int .i64 t73, .slice Ao34 t74.length co34, .slice Ao35 t75.length co35, .slice Ao36 t76.length co36] 37 (0, 0)) (by (with_reducible repeat (first | refine zL ?_ _ | refine zN ?_ | refine zM ?_ _)); refine blk_put (cs := #[.int .i64 t54, .string t70, .string t71, .slice Ao33 t72.length co33, .int .i64 t73, .slice Ao34 t74.length co34, .slice Ao35 t75.length co35, .slice none 0 0]) ?_ 7 _ rfl; (with_reducible repeat (first | refine zL ?_ _ | refine zN ?_ | refine zM ?_ _)); refine blk_put (cs := #[.int .i64 t54, .string t70, .string t71, .slice Ao33 t72.length co33, .int .i64 t73, .slice Ao34 t74.length co34, .slice none 0 0, .slice none 0 0]) ?_ 6 _ rfl; (with_reducible repeat (first | refine zL ?_ _ | refine zN ?_ | refine zM ?_ _)); refine blk_put (cs := #[.int .i64 t54, .string t70, .string t71, .slice Ao33 t72.length co33, .int .i64 t73, .slice none 0 0, .slice none 0 0, .slice none 0 0]) ?_ 5 _ rfl; (with_reducible repeat (first | refine zL ?_ _ | refine zN ?_ | refine zM ?_ _)); refine blk_put (cs := #[.int .i64 t54, .string t70, .string t71, .slice Ao33 t72.length co33, .int .i64 0, .slice none 0 0, .slice none 0 0, .slice none 0 0]) ?_ 4 _ rfl; (with_reducible repeat (first | refine zL ?_ _ | refine zN ?_ | refine zM ?_ _)); refine blk_put (cs := #[.int .i64 t54, .string t70, .string t71, .slice none 0 0, .int .i64 0, .slice none 0 0, .slice none 0 0, .slice none 0 0]) ?_ 3 _ rfl; (with_reducible repeat (first | refine zL ?_ _ | refine zN ?_ | refine zM ?_ _)); refine blk_put (cs := #[.int .i64 t54, .string t70, .string (⟨#[]⟩ : ByteArray), .slice none 0 0, .int .i64 0, .slice none 0 0, .slice none 0 0, .slice none 0 0]) ?_ 2 _ rfl; (with_reducible repeat (first | refine zL ?_ _ | refine zN ?_ | refine zM ?_ _)); refine blk_put (cs := #[.int .i64 t54, .string (⟨#[]⟩ : ByteArray), .string (⟨#[]⟩ : ByteArray), .slice none 0 0, .int .i64 0, .slice none 0 0, .slice none 0 0, .slice none 0 0]) ?_ 1 _ rfl; (with_reducible repeat (first | refine zL ?_ _ | refine zN ?_ | refine zM ?_ _)); refine blk_put (cs := #[.int .i64 0, .string (⟨#[]⟩ : ByteArray), .string (⟨#[]⟩ : ByteArray), .slice none 0 0, .int .i64 0, .slice none 0 0, .slice none 0 0, .slice none 0 0]) ?_ 0 _ rfl; (with_reducible repeat (first | refine zL ?_ _ | refine zN ?_ | refine zM ?_ _)); exact BK521.out) hb); have n10_ := zA (zAD (by repeat (first | (with_reducible first | exact HB.out | apply zH | apply zF | apply zG | refine zI ?_ GE56.out | refine zI ?_ GE521.out) | exact HB.out)) hb); clear HO88; clear HO89; clear HO90; clear HO91; clear HO96; clear HO97; clear HO98; clear HO99; clear BK56; clear BK521; clear HB; have HO88 := n0_; have HO89 := n1_; have HO90 := n2_; have HO91 := n3_; have HO96 := n4_; have HO97 := n5_; have HO98 := n6_; have HO99 := n7_; have BK56 := n8_; have BK521 := n9_; have HB := n10_; clear n0_ n1_ n2_ n3_ n4_ n5_ n6_ n7_ n8_ n9_ n10_; (try clear hb); (try clear hk)))
    (try simp only [Act.put, zC, zD, zE]); go_cut [57] (fun v57 wc => ∃ (kq : Nat) (x57_16 : Bool), v57 = .bool x57_16 ∧ Aside0 (laws_FnExactCheckAnswer.j0 kq x57_16 a2_0 a2_1 a2_2 l2_3 a2_4 l2_5 l2_6 l2_7 t54 t70 t71 t72 t73 t74 t75 t76 = some r) ∧ Aside0 (kq ≤ k) ∧ Aside0 (Kd.R Kd.string 9 wc w.heap.size (fun k_ => some k_ ≠ ((.slice Ao34 t74.length co34) : Value).ownBlock ∧ some k_ ≠ ((.slice Ao35 t75.length co35) : Value).ownBlock) (.slice Ao33 t72.length co33) t72) ∧ Aside0 (Kd.R Kd.string 9 wc w.heap.size (fun k_ => some k_ ≠ ((.slice Ao33 t72.length co33) : Value).ownBlock ∧ some k_ ≠ ((.slice Ao35 t75.length co35) : Value).ownBlock) (.slice Ao34 t74.length co34) t74) ∧ Aside0 (Kd.R Kd.string 9 wc w.heap.size (fun k_ => some k_ ≠ ((.slice Ao33 t72.length co33) : Value).ownBlock ∧ some k_ ≠ ((.slice Ao34 t74.length co34) : Value).ownBlock) (.slice Ao35 t75.length co35) t75) ∧ Aside0 (Kd.S k85 85 wc w.heap.size (fun k_ => some k_ ≠ ((.slice Ao33 t72.length co33) : Value).ownBlock ∧ some k_ ≠ ((.slice Ao34 t74.length co34) : Value).ownBlock ∧ some k_ ≠ ((.slice Ao35 t75.length co35) : Value).ownBlock) (.slice Ao36 t76.length co36) t76) ∧ Aside0 (wc.heap[gb56]? = some (.cells #[.int .i64 a2_0, .string a2_1, .string a2_2, (.slice A2_3 l2_3.length c2_3), .int .i64 a2_4, (.slice A2_5 l2_5.length c2_5), (.slice A2_6 l2_6.length c2_6), (.slice A2_7 l2_7.length c2_7)] 29 (0, 0))) ∧ Aside0 (wc.heap[gb521]? = some (.cells #[.int .i64 t54, .string t70, .string t71, (.slice Ao33 t72.length co33), .int .i64 t73, (.slice Ao34 t74.length co34), (.slice Ao35 t75.length co35), (.slice Ao36 t76.length co36)] 37 (0, 0))) ∧ Aside0 (Below w.heap.size w wc))
    case first =>
     have H := HC17.out; clear HC17
     by_cases c38 : t55.toList = t53.toList
     ·rw [if_pos c38] at H
      have c38b0 : (t55.toList == t53.toList) = true := beq_iff_eq.mpr c38; have c38b1 : (t55.toList != t53.toList) = false := bne_eq_false_iff_eq.mpr c38; clear c38; (first | rw [c38b0] | (simp only [i64_w, i32_w]; rw [c38b0]) | skip)
      by_cases c39 : (t79 != t67) = true
      ·rw [if_pos c39] at H
       have c39b0 : (t79 != t67) = true := c39; (try (have c39b1 : decide (t79 = t67) = false := by simpa using c39)); (try (have c39b2 : (t79 == t67) = false := by simpa using c39)); (try (have c39b3 : ¬ (t79 = t67) := by simpa using c39)); clear c39
       exfalso; revert H; generalize k = q_; intro H; cases q_ with
       | zero => exact absurd H (by simp [laws_FnExactCheckAnswer.j0])
       | succ q_ => simp only [laws_FnExactCheckAnswer.j0] at H; exact absurd ((yM (show some false = some _ from H)).trans hr_.out) (by decide)
      ·rw [if_neg c39] at H
       have c39b0 : (t79 != t67) = false := by simpa using c39
       (try (have c39b1 : decide (t79 = t67) = true := by simpa using c39)); (try (have c39b2 : (t79 == t67) = true := by simpa using c39)); clear c39; have H' := zA H; clear H; go_wp2; go_meet
       case rel => exact ⟨_, ((t81 != t68)), (by first | rfl | (simp; done) | (simp [*]; done) | (simp [bne]; done)), H', ⟨by first | omega | exact Nat.le_refl _⟩, ⟨by (with_reducible repeat first | apply zQ | apply zR | apply zS); exact yC HO96.out (fun _ hk => ⟨hk.1.1.1.1, hk.1.1.1.2⟩)⟩, ⟨by (with_reducible repeat first | apply zQ | apply zR | apply zS); exact yC HO97.out (fun _ hk => ⟨hk.1.1.1.1, hk.1.1.1.2⟩)⟩, ⟨by (with_reducible repeat first | apply zQ | apply zR | apply zS); exact yC HO98.out (fun _ hk => ⟨hk.1.1.1.1, hk.1.1.1.2⟩)⟩, ⟨by (with_reducible repeat (first | apply Kd.S_alloc | apply Kd.S_drewN | apply Kd.S_drew)); exact Kd.S_mono HO99.out (fun _ hk => ⟨hk.1.1.1.1.1, ⟨hk.1.1.1.1.2.1, hk.1.1.1.1.2.2⟩⟩)⟩, ⟨by (with_reducible repeat (first | refine zL ?_ _ | refine zN ?_ | refine zM ?_ _)); exact BK56.out⟩, ⟨by (with_reducible repeat (first | refine zL ?_ _ | refine zN ?_ | refine zM ?_ _)); exact BK521.out⟩, ⟨by repeat (first | (with_reducible first | exact HB.out | apply zH | apply zF | apply zG | refine zI ?_ GE56.out | refine zI ?_ GE521.out) | exact HB.out)⟩⟩
     ·rw [if_neg c38] at H
      have c38b0 : (t55.toList == t53.toList) = false := beq_eq_false_iff_ne.mpr c38; have c38b1 : (t55.toList != t53.toList) = true := bne_iff_ne.mpr c38; (first | rw [c38b0] | (simp only [i64_w, i32_w]; rw [c38b0]) | skip)
      exfalso; revert H; generalize k = q_; intro H; cases q_ with
      | zero => exact absurd H (by simp [laws_FnExactCheckAnswer.j0])
      | succ q_ => simp only [laws_FnExactCheckAnswer.j0] at H; exact absurd ((yM (show some false = some _ from H)).trans hr_.out) (by decide)
    case rest =>
     clear HC17
     try clear c2
     try clear p2
     try clear c3
     try clear c4
     try clear c4b0
     try clear c4b1
     try clear c5
     try clear c6
     try clear c6b0
     try clear c6b1
     try clear c7
     try clear c8
     try clear c9
     try clear c9b0
     try clear c31
     try clear c38
     try clear c38b0
     try clear c38b1
     try clear c39
     try clear c39b0
     try clear c39b1
     try clear c39b2
     try clear hcz11_0
     try clear hcz11_1
     try clear hcz11_2
     try clear hcz11_3
     try clear hcz11_4
     try clear hcz11_5
     try clear hcz11_6
     try clear hcz11_7
     try clear hcz19_0
     try clear hcz19_1
     try clear hcz19_2
     try clear hcz19_3
     try clear hcz19_4
     try clear hcz19_5
     try clear hcz19_6
     try clear hcz19_7
     try clear hcz21_0
     try clear hcz21_1
     try clear hcz21_2
     try clear hcz21_3
     try clear hcz21_4
     try clear hcz21_5
     try clear hcz21_6
     try clear hcz21_7
     try clear hcz28_0
     try clear hcz28_1
     try clear hcz28_2
     try clear hcz28_3
     try clear hcz28_4
     try clear hcz28_5
     try clear hcz28_6
     try clear hcz28_7
     try clear hcz32_0
     try clear hcz32_1
     try clear hcz32_2
     try clear hcz32_3
     try clear hcz32_4
     try clear hcz32_5
     try clear hcz32_6
     try clear hcz32_7
     try clear hfz11_0
     try clear hfz11_1
     try clear hfz11_2
     try clear hfz11_3
     try clear hfz11_4
     try clear hfz11_5
     try clear hfz11_6
     try clear hfz11_7
     try clear hfz19_0
     try clear hfz19_1
     try clear hfz19_2
     try clear hfz19_3
     try clear hfz19_4
     try clear hfz19_5
     try clear hfz19_6
     try clear hfz19_7
     try clear hfz21_0
     try clear hfz21_1
     try clear hfz21_2
     try clear hfz21_3
     try clear hfz21_4
     try clear hfz21_5
     try clear hfz21_6
     try clear hfz21_7
     try clear hfz28_0
     try clear hfz28_1
     try clear hfz28_2
     try clear hfz28_3
     try clear hfz28_4
     try clear hfz28_5
     try clear hfz28_6
     try clear hfz28_7
     try clear hfz32_0
     try clear hfz32_1
     try clear hfz32_2
     try clear hfz32_3
     try clear hfz32_4
     try clear hfz32_5
     try clear hfz32_6
     try clear hfz32_7
     obtain ⟨kq, x57_16, rfl, HA, HJ16, HO_522003, HO_522005, HO_522006, HO_522007, BK56, BK521, HB⟩ := hcut
     cases kq with
     | zero => exact absurd HA.out (by simp [laws_FnExactCheckAnswer.j0])
     | succ kj16 =>
      have H := HA.out; clear HA; simp only [laws_FnExactCheckAnswer.j0] at H
      by_cases c40 : x57_16 = true
      ·subst c40
       have H1 : (some false) = some r := by rw [if_pos rfl] at H; exact H
       clear H; have H := H1; clear H1; exact absurd ((yM H).trans hr_.out) (by decide)
      ·replace c40 := yO c40
       subst c40; have H1 : ((laws_toAnswer.f kj16 a2_0 a2_1 a2_2 l2_3 a2_4 l2_5 l2_6 l2_7).bind fun bt525 => ((laws_eqAnswer.f kj16 t54 t70 t71 t72 t73 t74 t75 t76 bt525.1 bt525.2.1 bt525.2.2.1 bt525.2.2.2.1 bt525.2.2.2.2.1 bt525.2.2.2.2.2.1 bt525.2.2.2.2.2.2.1 bt525.2.2.2.2.2.2.2).bind fun t541 => (if t541 = true then (some true) else (some false)))) = some r := by rw [if_neg (show ¬ (false = true) by decide)] at H; exact H
       clear H; have H := H1; clear H1; replace H := zAF H; obtain ⟨⟨t525, t526, t527, t528, t531, t532, t535, t538⟩, A410, H⟩ := H; replace H : ((laws_eqAnswer.f kj16 t54 t70 t71 t72 t73 t74 t75 t76 t525 t526 t527 t528 t531 t532 t535 t538).bind fun t541 => (if t541 = true then (some true) else (some false))) = some r := H; have A41 := zA A410; clear A410; replace H := zAF H; obtain ⟨t541, A420, H⟩ := H; replace H : (if t541 = true then (some true) else (some false)) = some r := H; have A42 := zA A420; clear A420
       by_cases c43 : t541 = true
       ·subst c43
        have H1 : (some true) = some r := by rw [if_pos rfl] at H; exact H
        clear H; have H := H1; clear H1; obtain rfl := yM H
        try go_wp2
        have n0_ := zA (zS HO_522003.out); have n1_ := zA (zS HO_522005.out); have n2_ := zA (zS HO_522006.out); have n3_ := zA (Kd.S_drew HO_522007.out); have n4_ := zA (zN BK56.out); have n5_ := zA (zN BK521.out); have n6_ := zA (zG HB.out); clear HO_522003 HO_522005 HO_522006 HO_522007 BK56 BK521 HB; have HO_522003 := n0_; have HO_522005 := n1_; have HO_522006 := n2_; have HO_522007 := n3_; have BK56 := n4_; have BK521 := n5_; have HB := n6_; clear n0_ n1_ n2_ n3_ n4_ n5_ n6_; refine start_ (n := 5) (S := fun w' => w'.cell? ⟨gb521, 0, none⟩ = some (.int .i64 t54) ∧ w'.cell? ⟨gb521, 1, none⟩ = some (.string t70) ∧ w'.cell? ⟨gb521, 2, none⟩ = some (.string t71) ∧ w'.cell? ⟨gb521, 3, none⟩ = some (.slice Ao33 t72.length co33) ∧ w'.cell? ⟨gb521, 4, none⟩ = some (.int .i64 t73) ∧ w'.cell? ⟨gb521, 5, none⟩ = some (.slice Ao34 t74.length co34) ∧ w'.cell? ⟨gb521, 6, none⟩ = some (.slice Ao35 t75.length co35) ∧ w'.cell? ⟨gb521, 7, none⟩ = some (.slice Ao36 t76.length co36) ∧ w'.cell? ⟨gb56, 0, none⟩ = some (.int .i64 a2_0) ∧ w'.cell? ⟨gb56, 1, none⟩ = some (.string a2_1) ∧ w'.cell? ⟨gb56, 2, none⟩ = some (.string a2_2) ∧ w'.cell? ⟨gb56, 3, none⟩ = some (.slice A2_3 l2_3.length c2_3) ∧ w'.cell? ⟨gb56, 4, none⟩ = some (.int .i64 a2_4) ∧ w'.cell? ⟨gb56, 5, none⟩ = some (.slice A2_5 l2_5.length c2_5) ∧ w'.cell? ⟨gb56, 6, none⟩ = some (.slice A2_6 l2_6.length c2_6) ∧ w'.cell? ⟨gb56, 7, none⟩ = some (.slice A2_7 l2_7.length c2_7)) (ds := []) #[false, false, false, false, false] (by kernel_rfl) rfl rfl ⟨(zP BK521.out 0).trans rfl, (zP BK521.out 1).trans rfl, (zP BK521.out 2).trans rfl, (zP BK521.out 3).trans rfl, (zP BK521.out 4).trans rfl, (zP BK521.out 5).trans rfl, (zP BK521.out 6).trans rfl, (zP BK521.out 7).trans rfl, (zP BK56.out 0).trans rfl, (zP BK56.out 1).trans rfl, (zP BK56.out 2).trans rfl, (zP BK56.out 3).trans rfl, (zP BK56.out 4).trans rfl, (zP BK56.out 5).trans rfl, (zP BK56.out 6).trans rfl, (zP BK56.out 7).trans rfl⟩ (fun hHeld => ?_); generalize wc.drew = w44 at HO_522003 HO_522005 HO_522006 HO_522007 BK56 BK521 HB hHeld ⊢; refine take_ (i := 0) (N := some 58) (v := ?_) (a' := ?_) #[true, false, false, false, false] rfl rfl (by kernel_rfl) (fun _ _ _ h => h) (Or.inl ⟨by rfl, ?_⟩) hHeld ?_ ?_; rotate_left
        ·rintro w' ⟨s0, s1, s2, s3, s4, s5, s6, s7, s8, s9, s10, s11, s12, s13, s14, s15⟩
         go_simp
         with_reducible rfl
        rotate_left
        ·simp only [Act.put, zC, zD, zE, i64_w]
         rfl
        refine take_ (i := 1) (N := some 59) (v := ?_) (a' := ?_) #[true, true, false, false, false] rfl rfl (by kernel_rfl) (fun _ _ _ h => h) (Or.inl ⟨by rfl, ?_⟩) hHeld ?_ ?_; rotate_left
        ·rintro w' ⟨s0, s1, s2, s3, s4, s5, s6, s7, s8, s9, s10, s11, s12, s13, s14, s15⟩
         go_simp
         with_reducible rfl
        rotate_left
        ·simp only [Act.put, zC, zD, zE, i64_w]
         rfl
        refine one_ (i := 2) (N := some 60) #[true, true, true, false, false] rfl rfl (by kernel_rfl) (by decide) (fun K hK => ?_); refine goes_ Tryz.func7 (by kernel_rfl) rfl #[.agg #[.int .i64 a2_0, .string a2_1, .string a2_2, .slice A2_3 l2_3.length c2_3, .int .i64 a2_4, .slice A2_5 l2_5.length c2_5, .slice A2_6 l2_6.length c2_6, .slice A2_7 l2_7.length c2_7]] (by rfl) rfl rfl (by (try simp only [zAA, zAB, zAC]); first | done | rfl | (simp only [zZ, zY]; rfl)) ?_
        with_reducible refine (laws_toAnswer.calls kj16 a2_0 a2_1 a2_2 _ _ l2_3 a2_4 _ _ l2_5 _ _ l2_6 _ _ l2_7 t525 t526 t527 t528 t531 t532 t535 t538 _ ?side1 ?side2 ?side3 ?side4 ?side5 ?side6 ?side7 ?side8 A41.out).mono ?_
        (case side1 => repeat (first | exact (yN HR2_3.out HB.out) | (with_reducible first | refine zT ?_ _ | refine zU ?_ _ | refine zV ?_))); (case side2 => exact HC2_3.out); (case side3 => repeat (first | exact (yN HR2_5.out HB.out) | (with_reducible first | refine zT ?_ _ | refine zU ?_ _ | refine zV ?_))); (case side4 => exact HC2_5.out); (case side5 => repeat (first | exact (yN HR2_6.out HB.out) | (with_reducible first | refine zT ?_ _ | refine zU ?_ _ | refine zV ?_))); (case side6 => exact HC2_6.out); (case side7 => repeat (first | exact (yN HR2_7.out HB.out) | (with_reducible first | refine zT ?_ _ | refine zU ?_ _ | refine zV ?_))); (case side8 => exact HC2_7.out); rintro e w45 ⟨v529, v533, v536, v539, rfl, ho0, ho1, ho2, ho3, hb⟩; refine ⟨_, rfl, ?_⟩; have n0_ := zA (yC (Kd.R_told (Kd.R_told (Kd.R_told (Kd.R_old (by (with_reducible repeat first | apply zQ | apply zR | apply zS); exact HO_522003.out) hb) (Kd.R_base ho0)) (Kd.R_base ho1)) (Kd.R_base ho2)) (fun _ h_ => h_.1)); have n1_ := zA (yC (Kd.R_told (Kd.R_told (Kd.R_told (Kd.R_old (by (with_reducible repeat first | apply zQ | apply zR | apply zS); exact HO_522005.out) hb) (Kd.R_base ho0)) (Kd.R_base ho1)) (Kd.R_base ho2)) (fun _ h_ => h_.1)); have n2_ := zA (yC (Kd.R_told (Kd.R_told (Kd.R_told (Kd.R_old (by (with_reducible repeat first | apply zQ | apply zR | apply zS); exact HO_522006.out) hb) (Kd.R_base ho0)) (Kd.R_base ho1)) (Kd.R_base ho2)) (fun _ h_ => h_.1)); have n3_ := zA (Kd.S_mono (Kd.S_told (Kd.S_told (Kd.S_told (Kd.S_told (Kd.S_old (by (with_reducible repeat (first | apply Kd.S_alloc | apply Kd.S_drewN | apply Kd.S_drew)); exact HO_522007.out) hb) (Kd.R_base ho0)) (Kd.R_base ho1)) (Kd.R_base ho2)) (Kd.S_base ho3)) (fun _ h_ => h_.1)); have n4_ := zA (Kd.R_lower (yK (yK (yK ho0 (Kd.R_lt (by (with_reducible repeat first | apply zQ | apply zR | apply zS); exact HO_522003.out))) (Kd.R_lt (by (with_reducible repeat first | apply zQ | apply zR | apply zS); exact HO_522005.out))) (Kd.R_lt (by (with_reducible repeat first | apply zQ | apply zR | apply zS); exact HO_522006.out))) (zAE (by repeat (first | (with_reducible first | exact HB.out | apply zH | apply zF | apply zG | refine zI ?_ GE56.out | refine zI ?_ GE521.out) | exact HB.out)))); have n5_ := zA (Kd.R_lower (yK (yK (yK ho1 (Kd.R_lt (by (with_reducible repeat first | apply zQ | apply zR | apply zS); exact HO_522003.out))) (Kd.R_lt (by (with_reducible repeat first | apply zQ | apply zR | apply zS); exact HO_522005.out))) (Kd.R_lt (by (with_reducible repeat first | apply zQ | apply zR | apply zS); exact HO_522006.out))) (zAE (by repeat (first | (with_reducible first | exact HB.out | apply zH | apply zF | apply zG | refine zI ?_ GE56.out | refine zI ?_ GE521.out) | exact HB.out)))); have n6_ := zA (Kd.R_lower (yK (yK (yK ho2 (Kd.R_lt (by (with_reducible repeat first | apply zQ | apply zR | apply zS); exact HO_522003.out))) (Kd.R_lt (by (with_reducible repeat first | apply zQ | apply zR | apply zS); exact HO_522005.out))) (Kd.R_lt (by (with_reducible repeat first | apply zQ | apply zR | apply zS); exact HO_522006.out))) (zAE (by repeat (first | (with_reducible first | exact HB.out | apply zH | apply zF | apply zG | refine zI ?_ GE56.out | refine zI ?_ GE521.out) | exact HB.out)))); have n7_ := zA (Kd.S_lower (Kd.S_new' (Kd.S_new' (Kd.S_new' (Kd.S_new' ho3 (Kd.R_lt (by (with_reducible repeat first | apply zQ | apply zR | apply zS); exact HO_522003.out))) (Kd.R_lt (by (with_reducible repeat first | apply zQ | apply zR | apply zS); exact HO_522005.out))) (Kd.R_lt (by (with_reducible repeat first | apply zQ | apply zR | apply zS); exact HO_522006.out))) (Kd.S_lt (by (with_reducible repeat (first | apply Kd.S_alloc | apply Kd.S_drewN | apply Kd.S_drew)); exact HO_522007.out))) (zAE (by repeat (first | (with_reducible first | exact HB.out | apply zH | apply zF | apply zG | refine zI ?_ GE56.out | refine zI ?_ GE521.out) | exact HB.out)))); have n8_ := zA (yE (g := gb56) (o := .cells #[.int .i64 a2_0, .string a2_1, .string a2_2, .slice A2_3 l2_3.length c2_3, .int .i64 a2_4, .slice A2_5 l2_5.length c2_5, .slice A2_6 l2_6.length c2_6, .slice A2_7 l2_7.length c2_7] 29 (0, 0)) (by (with_reducible repeat (first | refine zL ?_ _ | refine zN ?_ | refine zM ?_ _)); exact BK56.out) hb); have n9_ := zA (yE (g := gb521) (o := .cells #[.int .i64 t54, .string t70, .string t71, .slice Ao33 t72.length co33, .int .i64 t73, .slice Ao34 t74.length co34, .slice Ao35 t75.length co35, .slice Ao36 t76.length co36] 37 (0, 0)) (by (with_reducible repeat (first | refine zL ?_ _ | refine zN ?_ | refine zM ?_ _)); exact BK521.out) hb); have n10_ := zA (zAD (by repeat (first | (with_reducible first | exact HB.out | apply zH | apply zF | apply zG | refine zI ?_ GE56.out | refine zI ?_ GE521.out) | exact HB.out)) hb); clear HO_522003 HO_522005 HO_522006 HO_522007 BK56 BK521 HB; have HO_522003 := n0_; have HO_522005 := n1_; have HO_522006 := n2_
        have HO_522007 := n3_; have HO530 := n4_; have HO534 := n5_; have HO537 := n6_; have HO540 := n7_; have BK56 := n8_; have BK521 := n9_; have HB := n10_; clear n0_ n1_ n2_ n3_ n4_ n5_ n6_ n7_ n8_ n9_ n10_; obtain ⟨Ao46, co46, eo46⟩ := Kd.R_slice HO530.out; (first | subst eo46 | (injection eo46 with f1_ f2_ f3_; have f4_ := f1_.symm; have f5_ := f3_.symm; clear f1_ f2_ f3_; subst f4_; subst f5_)); obtain ⟨Ao47, co47, eo47⟩ := Kd.R_slice HO534.out; (first | subst eo47 | (injection eo47 with f1_ f2_ f3_; have f4_ := f1_.symm; have f5_ := f3_.symm; clear f1_ f2_ f3_; subst f4_; subst f5_)); obtain ⟨Ao48, co48, eo48⟩ := Kd.R_slice HO537.out; (first | subst eo48 | (injection eo48 with f1_ f2_ f3_; have f4_ := f1_.symm; have f5_ := f3_.symm; clear f1_ f2_ f3_; subst f4_; subst f5_)); obtain ⟨Ao49, co49, eo49⟩ := Kd.S_slice HO540.out; (first | subst eo49 | (injection eo49 with f1_ f2_ f3_; have f4_ := f1_.symm; have f5_ := f3_.symm; clear f1_ f2_ f3_; subst f4_; subst f5_)); refine hK.out _ _ ⟨(zP BK521.out 0).trans rfl, (zP BK521.out 1).trans rfl, (zP BK521.out 2).trans rfl, (zP BK521.out 3).trans rfl, (zP BK521.out 4).trans rfl, (zP BK521.out 5).trans rfl, (zP BK521.out 6).trans rfl, (zP BK521.out 7).trans rfl, (zP BK56.out 0).trans rfl, (zP BK56.out 1).trans rfl, (zP BK56.out 2).trans rfl, (zP BK56.out 3).trans rfl, (zP BK56.out 4).trans rfl, (zP BK56.out 5).trans rfl, (zP BK56.out 6).trans rfl, (zP BK56.out 7).trans rfl⟩ (fun hHeld => ?_); clear hK K; refine norm_ (a' := ?_) ?_ ?_; rotate_left
        ·show Act.put _ (some 60) _ = _
         simp only [Act.put, zC, zD, zE, i64_w]; rfl
        refine one_ (i := 3) (N := some 61) #[true, true, true, true, false] rfl rfl (by kernel_rfl) (by decide) (fun K hK => ?_); refine goes_ Tryz.func9 (by kernel_rfl) rfl #[.agg #[.int .i64 t54, .string t70, .string t71, .slice Ao33 t72.length co33, .int .i64 t73, .slice Ao34 t74.length co34, .slice Ao35 t75.length co35, .slice Ao36 t76.length co36], .agg #[.int .i64 t525, .string t526, .string t527, .slice Ao46 t528.length co46, .int .i64 t531, .slice Ao47 t532.length co47, .slice Ao48 t535.length co48, .slice Ao49 t538.length co49]] (by rfl) rfl rfl (by (try simp only [zAA, zAB, zAC]); first | done | rfl | (simp only [zZ, zY]; rfl)) ?_
        with_reducible refine (laws_eqAnswer.calls kj16 t54 t70 t71 _ _ t72 t73 _ _ t74 _ _ t75 _ _ t76 t525 t526 t527 _ _ t528 t531 _ _ t532 _ _ t535 _ _ t538 true _ ?side1 ?side2 ?side3 ?side4 ?side5 ?side6 ?side7 ?side8 ?side9 ?side10 ?side11 ?side12 ?side13 ?side14 ?side15 ?side16 A42.out ⟨rfl⟩).mono ?_
        (case side1 => repeat (first | exact (yD HO_522003.out).2.2 | (with_reducible first | refine zT ?_ _ | refine zU ?_ _ | refine zV ?_))); (case side2 => exact (yD HO_522003.out).2.1); (case side3 => repeat (first | exact (yD HO_522005.out).2.2 | (with_reducible first | refine zT ?_ _ | refine zU ?_ _ | refine zV ?_))); (case side4 => exact (yD HO_522005.out).2.1); (case side5 => repeat (first | exact (yD HO_522006.out).2.2 | (with_reducible first | refine zT ?_ _ | refine zU ?_ _ | refine zV ?_))); (case side6 => exact (yD HO_522006.out).2.1); (case side7 => repeat (first | exact (Kd.S_reads' HO_522007.out).2.2 | (with_reducible first | refine zT ?_ _ | refine zU ?_ _ | refine zV ?_))); (case side8 => exact (Kd.S_reads' HO_522007.out).2.1); (case side9 => repeat (first | exact (yD HO530.out).2.2 | (with_reducible first | refine zT ?_ _ | refine zU ?_ _ | refine zV ?_))); (case side10 => exact (yD HO530.out).2.1); (case side11 => repeat (first | exact (yD HO534.out).2.2 | (with_reducible first | refine zT ?_ _ | refine zU ?_ _ | refine zV ?_))); (case side12 => exact (yD HO534.out).2.1); (case side13 => repeat (first | exact (yD HO537.out).2.2 | (with_reducible first | refine zT ?_ _ | refine zU ?_ _ | refine zV ?_))); (case side14 => exact (yD HO537.out).2.1); (case side15 => repeat (first | exact (Kd.S_reads' HO540.out).2.2 | (with_reducible first | refine zT ?_ _ | refine zU ?_ _ | refine zV ?_))); (case side16 => exact (Kd.S_reads' HO540.out).2.1); rintro e w50 ⟨rfl, hb⟩; refine ⟨_, rfl, ?_⟩; have n0_ := zA (Kd.R_below (by (with_reducible repeat first | apply zQ | apply zR | apply zS); exact HO_522003.out) hb); have n1_ := zA (Kd.R_below (by (with_reducible repeat first | apply zQ | apply zR | apply zS); exact HO_522005.out) hb); have n2_ := zA (Kd.R_below (by (with_reducible repeat first | apply zQ | apply zR | apply zS); exact HO_522006.out) hb); have n3_ := zA (Kd.S_below (by (with_reducible repeat (first | apply Kd.S_alloc | apply Kd.S_drewN | apply Kd.S_drew)); exact HO_522007.out) hb); have n4_ := zA (Kd.R_below (by (with_reducible repeat first | apply zQ | apply zR | apply zS); exact HO530.out) hb); have n5_ := zA (Kd.R_below (by (with_reducible repeat first | apply zQ | apply zR | apply zS); exact HO534.out) hb); have n6_ := zA (Kd.R_below (by (with_reducible repeat first | apply zQ | apply zR | apply zS); exact HO537.out) hb); have n7_ := zA (Kd.S_below (by (with_reducible repeat (first | apply Kd.S_alloc | apply Kd.S_drewN | apply Kd.S_drew)); exact HO540.out) hb); have n8_ := zA (yE (g := gb56) (o := .cells #[.int .i64 a2_0, .string a2_1, .string a2_2, .slice A2_3 l2_3.length c2_3, .int .i64 a2_4, .slice A2_5 l2_5.length c2_5, .slice A2_6 l2_6.length c2_6, .slice A2_7 l2_7.length c2_7] 29 (0, 0)) (by (with_reducible repeat (first | refine zL ?_ _ | refine zN ?_ | refine zM ?_ _)); exact BK56.out) hb); have n9_ := zA (yE (g := gb521) (o := .cells #[.int .i64 t54, .string t70, .string t71, .slice Ao33 t72.length co33, .int .i64 t73, .slice Ao34 t74.length co34, .slice Ao35 t75.length co35, .slice Ao36 t76.length co36] 37 (0, 0)) (by (with_reducible repeat (first | refine zL ?_ _ | refine zN ?_ | refine zM ?_ _)); exact BK521.out) hb); have n10_ := zA (zAD (by repeat (first | (with_reducible first | exact HB.out | apply zH | apply zF | apply zG | refine zI ?_ GE56.out | refine zI ?_ GE521.out) | exact HB.out)) hb); clear HO_522003 HO_522005 HO_522006 HO_522007 HO530 HO534 HO537 HO540 BK56 BK521 HB; have HO_522003 := n0_; have HO_522005 := n1_; have HO_522006 := n2_; have HO_522007 := n3_; have HO530 := n4_; have HO534 := n5_; have HO537 := n6_; have HO540 := n7_; have BK56 := n8_; have BK521 := n9_; have HB := n10_; clear n0_ n1_ n2_ n3_ n4_ n5_ n6_ n7_ n8_ n9_ n10_; (try clear hb); refine hK.out _ _ ⟨(zP BK521.out 0).trans rfl, (zP BK521.out 1).trans rfl, (zP BK521.out 2).trans rfl, (zP BK521.out 3).trans rfl, (zP BK521.out 4).trans rfl, (zP BK521.out 5).trans rfl, (zP BK521.out 6).trans rfl, (zP BK521.out 7).trans rfl, (zP BK56.out 0).trans rfl, (zP BK56.out 1).trans rfl, (zP BK56.out 2).trans rfl, (zP BK56.out 3).trans rfl, (zP BK56.out 4).trans rfl, (zP BK56.out 5).trans rfl, (zP BK56.out 6).trans rfl, (zP BK56.out 7).trans rfl⟩ (fun hHeld => ?_); clear hK K; refine norm_ (a' := ?_) ?_ ?_; rotate_left
        ·show Act.put _ (some 61) _ = _
         simp only [Act.put, zC, zD, zE, i64_w]; rfl
        refine pure_ (i := 4) (N := some 62) (v := ?_) (a' := ?_) #[true, true, true, true, true] rfl rfl (by kernel_rfl) (fun _ _ _ h => h) (Or.inl ⟨by rfl, ?_⟩) ?_ ?_; rotate_left
        ·intro w'
         go_simp
         with_reducible rfl
        rotate_left
        ·simp only [Act.put, zC, zD, zE, i64_w]
         rfl
        refine done_ (by kernel_rfl) ?_
        try go_wp2
        go_ret; exact ⟨by first | rfl | (simp <;> rfl) | (simp [*] <;> rfl), by repeat (first | (with_reducible first | exact HB.out | apply zH | apply zF | apply zG | refine zI ?_ GE56.out | refine zI ?_ GE521.out) | exact HB.out)⟩
       ·replace c43 := yO c43
        subst c43; have H1 : (some false) = some r := by rw [if_neg (show ¬ (false = true) by decide)] at H; exact H
        clear H; have H := H1; clear H1; exact absurd ((yM H).trans hr_.out) (by decide)
end Go.Proofs.YtmfipefpmjcddaaGreatDoor.PA
end
section
namespace Go.Proofs.YtmfipefpmjcddaaGreatDoor.PB
open Go.RowKit Go.Proofs.YtmfipefpmjcddaaGreatDoorW.PrintWords Go.Proofs.YtmfipefpmjcddaaGreatDoorW.PrintLast Go.Proofs.YtmfipefpmjcddaaGreatDoorW.PrintMore
set_option linter.unusedVariables false
theorem ev_pos {α : Type} {c : Prop} [Decidable c] {f g : Nat → Option α} {r : α} (hc : c) (h : Ev f r) : Ev (fun k => if c then f k else g k) r := by
 simp only [if_pos hc]; exact h
theorem ev_neg {α : Type} {c : Prop} [Decidable c] {f g : Nat → Option α} {r : α} (hc : ¬ c) (h : Ev g r) : Ev (fun k => if c then f k else g k) r := by
 simp only [if_neg hc]; exact h
theorem ev_bind {α β : Type} {g : Nat → Option α} {f : Nat → α → Option β} {a : α} {r : β} (h : Ev g a) (k : Ev (fun n => f n a) r) : Ev (fun n => (g n).bind (f n)) r := Ev.bind h k
theorem ev_const {α β : Type} {o : Option α} {f : Nat → α → Option β} {a : α} {r : β} (h : o = some a) (k : Ev (fun n => f n a) r) : Ev (fun n => o.bind (f n)) r := by
 subst h; exact k
theorem ev_of_eq {α : Type} {o : Option α} {r : α} (h : o = some r) : Ev (fun _ => o) r := by subst h; exact Ev.now r
theorem ev_eq {α : Type} {f : Nat → Option α} {r r' : α} (h : Ev f r) (e : r = r') : Ev f r' := e ▸ h
theorem w64 {x : Int} (h0 : -9223372036854775808 ≤ x) (h1 : x ≤ 9223372036854775807) : wrap64 x = x := by
 unfold wrap64; omega
theorem size_toList (s : ByteArray) : s.toList.length = s.size := by rw [ByteArray.toList_eq]; exact data_length s
theorem bt_get (s : ByteArray) (i : Nat) (h : i < s.size) : bt s (i : Int) = ((s.toList.getD i 0).toNat : Int) := by
 rw [ByteArray.toList_eq]
 unfold bt
 rw [dif_pos (by simpa using h)]
 have h' : i < s.data.toList.length := by rw [data_length]; exact h
 simp [List.getD_eq_getElem?_getD, List.getElem?_eq_getElem h']
 rfl
end Go.Proofs.YtmfipefpmjcddaaGreatDoor.PB
end
section
namespace Go.Proofs.YtmfipefpmjcddaaGreatDoor.PD
open Go.RowKit Go.Proofs.YtmfipefpmjcddaaGreatDoorW.PrintWords Go.Proofs.YtmfipefpmjcddaaGreatDoorW.PrintLast Go.Proofs.YtmfipefpmjcddaaGreatDoorW.PrintMore Go.Proofs.YtmfipefpmjcddaaGreatDoor.PB Go.Proofs.YtmfipefpmjcddaaGreatDoor.PA
set_option linter.unusedVariables false
def dstep (p : Int × Int) (c : UInt8) : Int × Int := ((p.1 + (c.toNat : Int)) % 65521, (p.2 + (p.1 + (c.toNat : Int)) % 65521) % 65521)
def dfold (p : Int × Int) (l : List UInt8) : Int × Int := l.foldl dstep p
def InP (p : Int × Int) : Prop := 0 ≤ p.1 ∧ p.1 < 65521 ∧ 0 ≤ p.2 ∧ p.2 < 65521
theorem dstep_in {p : Int × Int} {c : UInt8} : InP (dstep p c) := by
 unfold InP dstep; refine ⟨?_, ?_, ?_, ?_⟩ <;> simp only <;> omega
theorem dfold_in {p : Int × Int} (h : InP p) (l : List UInt8) : InP (dfold p l) := by
 induction l generalizing p with
 | nil => exact h
 | cons c l ih => exact ih dstep_in
def four (p : Int × Int) : ByteArray := strOfNums [p.2 / 256 % 256, p.2 % 256, p.1 / 256 % 256, p.1 % 256]
def dig (kind : Int) (s : ByteArray) : ByteArray := four (dfold (kind + 1, kind + 1) s.toList)
theorem four_size (p : Int × Int) : (four p).size = 4 := by unfold four; rw [strOfNums_size]; rfl
theorem dig_size (kind : Int) (s : ByteArray) : (dig kind s).size = 4 := four_size _
theorem drop_at (l : List UInt8) (i : Nat) (h : i < l.length) : l.drop i = l.getD i 0 :: l.drop (i + 1) := by
 rw [List.drop_eq_getElem_cons h]; simp [List.getD_eq_getElem?_getD, List.getElem?_eq_getElem h]
theorem step_arith {A B : Int} {c : Nat} (hA : 0 ≤ A ∧ A < 65521 ∧ 0 ≤ B ∧ B < 65521) (hc : c < 256) :
  Int.tmod (wrap64 (A + wrap64 (c : Int))) 65521 = (A + (c : Int)) % 65521 ∧ Int.tmod (wrap64 (B + (A + (c : Int)) % 65521)) 65521 = (B + (A + (c : Int)) % 65521) % 65521 := by
 have h1 : wrap64 (c : Int) = c := w64 (by omega) (by omega)
 have h2 : wrap64 (A + c) = A + c := w64 (by omega) (by omega)
 have h3 : wrap64 (B + (A + (c : Int)) % 65521) = B + (A + (c : Int)) % 65521 := w64 (by omega) (by omega)
 rw [h1, h2, h3, Int.tmod_eq_emod_of_nonneg (by omega), Int.tmod_eq_emod_of_nonneg (by omega)]
 exact ⟨rfl, rfl⟩
theorem feed_spec (s : ByteArray) (hs : s.size ≤ 1000000000000) (L : Int) (hL : 0 ≤ L ∧ L ≤ 1000000000000) : ∀ (d i : Nat) (A B : Int), i + d = s.size → InP (A, B) →
  Ev (fun k => spec_l1Feed.l0 k s (i : Int) A B L) ((dfold (A, B) (s.toList.drop i)).1, (dfold (A, B) (s.toList.drop i)).2, L + s.size) := by
 intro d
 induction d with
 | zero =>
  intro i A B hi hp
  refine Ev.step (f := fun _ => some (A, B, wrap64 (L + (s.size : Int)))) (fun k => ?_) ?_
  ·simp only [spec_l1Feed.l0]; rw [if_neg (by omega)]
  ·rw [List.drop_eq_nil_of_le (by rw [size_toList]; omega)]
   rw [w64 (by omega) (by omega)]
   exact Ev.now _
 | succ d ih =>
  intro i A B hi hp
  have hlt : i < s.size := by omega
  have hb := bt_get s i hlt
  have hc : (s.toList.getD i 0).toNat < 256 := UInt8.toNat_lt _
  have ha := step_arith (A := A) (B := B) hp hc
  refine Ev.step (f := fun k => spec_l1Feed.l0 k s ((i + 1 : Nat) : Int) (dstep (A, B) (s.toList.getD i 0)).1 (dstep (A, B) (s.toList.getD i 0)).2 L) (fun k => ?_) ?_
  ·simp only [spec_l1Feed.l0]; rw [if_pos (by omega), if_pos (by omega), hb, ha.1, ha.2, w64 (x := (i : Int) + 1) (by omega) (by omega)]
   simp only [dstep]
   congr 1
  ·rw [drop_at _ _ (by rw [size_toList]; exact hlt)]
   exact ih (i + 1) _ _ (by omega) dstep_in
theorem feed_impl (s : ByteArray) (hs : s.size ≤ 1000000000000) (L : Int) (hL : 0 ≤ L ∧ L ≤ 1000000000000) : ∀ (d i : Nat) (A B : Int), i + d = s.size → InP (A, B) →
  Ev (fun k => impl_Mix_feed.l0 k s (s.size : Int) (i : Int) A B L) ((dfold (A, B) (s.toList.drop i)).1, (dfold (A, B) (s.toList.drop i)).2, L + s.size) := by
 intro d
 induction d with
 | zero =>
  intro i A B hi hp
  refine Ev.step (f := fun _ => some (A, B, wrap64 (L + (s.size : Int)))) (fun k => ?_) ?_
  ·simp only [impl_Mix_feed.l0]; rw [if_neg (by omega)]
  ·rw [List.drop_eq_nil_of_le (by rw [size_toList]; omega)]
   rw [w64 (by omega) (by omega)]
   exact Ev.now _
 | succ d ih =>
  intro i A B hi hp
  have hlt : i < s.size := by omega
  have hb := bt_get s i hlt
  have hc : (s.toList.getD i 0).toNat < 256 := UInt8.toNat_lt _
  have ha := step_arith (A := A) (B := B) hp hc
  refine Ev.step (f := fun k => impl_Mix_feed.l0 k s (s.size : Int) ((i + 1 : Nat) : Int) (dstep (A, B) (s.toList.getD i 0)).1 (dstep (A, B) (s.toList.getD i 0)).2 L) (fun k => ?_) ?_
  ·simp only [impl_Mix_feed.l0]; rw [if_pos (by omega), if_pos (by omega), if_pos (by omega), hb, ha.1, ha.2, w64 (x := (i : Int) + 1) (by omega) (by omega)]
   simp only [dstep]
   congr 1
  ·rw [drop_at _ _ (by rw [size_toList]; exact hlt)]
   exact ih (i + 1) _ _ (by omega) dstep_in
def Kd_ (c : Int) : Prop := 97 ≤ c ∧ c ≤ 122
theorem digS (kind : Int) (hk : Kd_ kind) (s : ByteArray) (hs : s.size ≤ 1000000000000) : Ev (fun k => spec_l1Digest.f k kind s) (dig kind s) := by
 obtain ⟨h0, h1⟩ := hk
 have e1 : spec_NewMix.f kind = some (kind + 1, kind + 1, 0, true) := by
  unfold spec_NewMix.f spec_l1Kind.f
  rw [if_pos (by omega)]
  simp only [Option.bind_some, decide_eq_true h1, if_true]
  rw [w64 (x := kind) (by omega) (by omega), w64 (by omega) (by omega), Int.add_comm]
 have hp : InP (kind + 1, kind + 1) := by unfold InP; refine ⟨?_, ?_, ?_, ?_⟩ <;> simp only <;> omega
 obtain ⟨K, h⟩ := feed_spec s hs 0 (by omega) s.size 0 (kind + 1) (kind + 1) (by omega) hp
 refine ⟨K, fun k hk => ?_⟩
 have h' := h k hk
 dsimp only at h'
 rw [show ((0 : Nat) : Int) = 0 from rfl] at h'
 unfold spec_l1Digest.f spec_l1Feed.f spec_l1End.f
 simp only [e1, Option.bind_some]
 rw [h']
 simp only [Option.bind_some, List.drop_zero]
 rfl
theorem digI (kind : Int) (hk : Kd_ kind) (s : ByteArray) (hs : s.size ≤ 1000000000000) : Ev (fun k => impl_digest.f k kind s) (dig kind s) := by
 obtain ⟨h0, h1⟩ := hk
 have e1 : impl_newMix.f kind = some (kind + 1, kind + 1, 0) := by
  unfold impl_newMix.f
  rw [w64 (x := kind) (by omega) (by omega), w64 (by omega) (by omega)]
 have hp : InP (kind + 1, kind + 1) := by unfold InP; refine ⟨?_, ?_, ?_, ?_⟩ <;> simp only <;> omega
 obtain ⟨K, h⟩ := feed_impl s hs 0 (by omega) s.size 0 (kind + 1) (kind + 1) (by omega) hp
 refine ⟨K, fun k hk => ?_⟩
 have h' := h k hk
 dsimp only at h'
 rw [show ((0 : Nat) : Int) = 0 from rfl] at h'
 have hq := dfold_in hp s.toList
 unfold impl_digest.f impl_Mix_feed.f impl_Mix_end.f
 simp only [e1, Option.bind_some]
 rw [h']
 simp only [Option.bind_some, List.drop_zero]
 unfold dig four
 generalize dfold (kind + 1, kind + 1) s.toList = p at hq ⊢
 obtain ⟨q0, q1, q2, q3⟩ := hq
 rw [Int.tdiv_eq_ediv_of_nonneg q2, Int.tdiv_eq_ediv_of_nonneg q0, Int.tmod_eq_emod_of_nonneg q2, Int.tmod_eq_emod_of_nonneg q0, w64 (x := p.2 / 256) (by omega) (by omega), w64 (x := p.1 / 256) (by omega) (by omega)]
 rw [Int.emod_emod_of_dvd p.2 (Int.dvd_refl _), Int.emod_emod_of_dvd p.1 (Int.dvd_refl _)]
def one (n : Int) : ByteArray := strOfNums [n % 256]
theorem one_size (n : Int) : (one n).size = 1 := by unfold one; rw [strOfNums_size]; rfl
theorem oneI (n : Int) : impl_oneByte.f n = some (one n) := rfl
end Go.Proofs.YtmfipefpmjcddaaGreatDoor.PD
end
section
namespace Go.Proofs.YtmfipefpmjcddaaGreatDoor.PK
open Go.RowKit Go.Proofs.YtmfipefpmjcddaaGreatDoorW.PrintWords Go.Proofs.YtmfipefpmjcddaaGreatDoorW.PrintLast Go.Proofs.YtmfipefpmjcddaaGreatDoorW.PrintMore Go.Proofs.YtmfipefpmjcddaaGreatDoor.PB Go.Proofs.YtmfipefpmjcddaaGreatDoor.PD Go.Proofs.YtmfipefpmjcddaaGreatDoor.PA
set_option linter.unusedVariables false
def chainM (s : ByteArray) (i : Nat) : Nat → ByteArray
 | 0 => s
 | n + 1 => chainM (dig 99 (one (i : Int) ++ s)) (i + 1) n
theorem chainM_size (s : ByteArray) (h : s.size = 4) (n : Nat) : ∀ i, (chainM s i n).size = 4 := by
 induction n generalizing s with
 | zero => intro i; exact h
 | succ n ih => intro i; exact ih _ (dig_size _ _) _
theorem kc : Kd_ 99 := ⟨by decide, by decide⟩
theorem app_size (a b : ByteArray) : (a ++ b).size = a.size + b.size := ByteArray.size_append
theorem chainS0 (a b : Nat) (ha : a + b ≤ 1000) : ∀ (n i : Nat) (s : ByteArray), s.size ≤ 1000000 → i + n = a + b → Ev (fun k => spec_l2Chain.l0 k s (a : Int) (b : Int) (i : Int)) (chainM s i n) := by
 intro n
 induction n with
 | zero =>
  intro i s hs hi
  refine Ev.step (f := fun _ => some s) (fun k => ?_) (Ev.now _)
  simp only [spec_l2Chain.l0]
  rw [w64 (by omega) (by omega), if_neg (by omega)]
 | succ n ih =>
  intro i s hs hi
  refine Ev.step (f := fun k => (spec_l1Digest.f k 99 (one (i : Int) ++ s)).bind fun t => spec_l2Chain.l0 k t (a : Int) (b : Int) ((i + 1 : Nat) : Int)) (fun k => ?_) ?_
  ·simp only [spec_l2Chain.l0]
   rw [w64 (x := (a : Int) + b) (by omega) (by omega), if_pos (by omega)]
   simp only [Option.bind_some]
   rw [if_pos (by rw [strOfNums_size]; simp only [List.length_cons, List.length_nil]; omega), w64 (x := (i : Int) + 1) (by omega) (by omega)]
   rfl
  ·exact ev_bind (digS 99 kc _ (by rw [app_size, one_size]; omega)) (ih (i + 1) _ (by rw [dig_size]; omega) (by omega))
theorem chainS (s : ByteArray) (a b : Nat) (ha : a + b ≤ 1000) (hs : s.size ≤ 1000000) : Ev (fun k => spec_l2Chain.f k s (a : Int) (b : Int)) (chainM s a b) :=
 chainS0 a b ha b a s hs rfl
theorem chainI0 (a b : Nat) (ha : a + b ≤ 1000) : ∀ (n i : Nat) (s : ByteArray), s.size ≤ 1000000 → i + n = a + b → Ev (fun k => impl_chain.l0 k s (a : Int) (b : Int) (i : Int)) (chainM s i n) := by
 intro n
 induction n with
 | zero =>
  intro i s hs hi
  refine Ev.step (f := fun _ => some s) (fun k => ?_) (Ev.now _)
  simp only [impl_chain.l0]
  rw [w64 (by omega) (by omega), if_neg (by omega)]
 | succ n ih =>
  intro i s hs hi
  refine Ev.step (f := fun k => (impl_digest.f k 99 (one (i : Int) ++ s)).bind fun t => impl_chain.l0 k t (a : Int) (b : Int) ((i + 1 : Nat) : Int)) (fun k => ?_) ?_
  ·simp only [impl_chain.l0]
   rw [w64 (x := (a : Int) + b) (by omega) (by omega), if_pos (by omega), oneI]
   simp only [Option.bind_some]
   rw [if_pos (by rw [one_size]; omega), w64 (x := (i : Int) + 1) (by omega) (by omega)]
   rfl
  ·exact ev_bind (digI 99 kc _ (by rw [app_size, one_size]; omega)) (ih (i + 1) _ (by rw [dig_size]; omega) (by omega))
theorem chainI (s : ByteArray) (a b : Nat) (ha : a + b ≤ 1000) (hs : s.size ≤ 1000000) : Ev (fun k => impl_chain.f k s (a : Int) (b : Int)) (chainM s a b) :=
 chainI0 a b ha b a s hs rfl
def nibs : List UInt8 → List Int
 | [] => []
 | c :: l => (c.toNat : Int) / 16 :: (c.toNat : Int) % 16 :: nibs l
def sm : List Int → Int
 | [] => 0
 | n :: l => (15 - n) + sm l
theorem nibs_length (l : List UInt8) : (nibs l).length = 2 * l.length := by
 induction l with
 | nil => rfl
 | cons c l ih => simp only [nibs, List.length_cons, ih]; omega
theorem nibs_in (l : List UInt8) : ∀ n ∈ nibs l, 0 ≤ n ∧ n ≤ 15 := by
 induction l with
 | nil => intro n h; cases h
 | cons c l ih =>
  have hc : c.toNat < 256 := UInt8.toNat_lt _
  intro n h
  simp only [nibs, List.mem_cons] at h
  rcases h with rfl | rfl | h
  ·omega
  ·omega
  ·exact ih n h
theorem sm_nibs (l : List UInt8) : 0 ≤ sm (nibs l) ∧ sm (nibs l) ≤ 30 * l.length := by
 induction l with
 | nil => exact ⟨by decide, by decide⟩
 | cons c l ih =>
  have hc : c.toNat < 256 := UInt8.toNat_lt _
  simp only [nibs, sm, List.length_cons]
  omega
def checksM (S : Int) : List Int := [S / 256 % 16, S / 16 % 16, S % 16]
def digitsM (s : ByteArray) : List Int := nibs (dig 109 s).toList ++ checksM (sm (nibs (dig 109 s).toList))
theorem digitsM_length (s : ByteArray) : (digitsM s).length = 11 := by
 unfold digitsM
 rw [List.length_append, nibs_length, size_toList, dig_size]
 rfl
theorem digitsM_in (s : ByteArray) : ∀ n ∈ digitsM s, 0 ≤ n ∧ n ≤ 15 := by
 intro n h
 unfold digitsM at h
 rcases List.mem_append.mp h with h | h
 ·exact nibs_in _ n h
 ·unfold checksM at h
  simp only [List.mem_cons, List.not_mem_nil, or_false] at h
  rcases h with rfl | rfl | rfl <;> omega
theorem rd_at (l : List Int) (i : Nat) (h : i < l.length) : rd l (i : Int) = l[i] := by
 simp [rd, List.getD_eq_getElem?_getD, List.getElem?_eq_getElem h]
theorem rd_digits (s : ByteArray) (i : Nat) (h : i < 11) : 0 ≤ rd (digitsM s) (i : Int) ∧ rd (digitsM s) (i : Int) ≤ 15 := by
 have hl : i < (digitsM s).length := by rw [digitsM_length]; exact h
 rw [rd_at _ _ hl]
 exact digitsM_in s _ (List.getElem_mem hl)
theorem drop_cons {α : Type} (l : List α) (i : Nat) (h : i < l.length) : l.drop i = l[i] :: l.drop (i + 1) := List.drop_eq_getElem_cons h
theorem sumS (out : List Int) (hin : ∀ n ∈ out, 0 ≤ n ∧ n ≤ 15) (hl : out.length ≤ 100) : ∀ (d i : Nat) (S : Int), i + d = out.length → 0 ≤ S → S ≤ 15 * i → Ev (fun k => spec_l2Digits.l1 k out S out (out.length : Int) (i : Int)) (out ++ checksM (S + sm (out.drop i))) := by
 intro d
 induction d with
 | zero =>
  intro i S hi h0 h1
  refine Ev.step (f := fun _ => some (out ++ checksM S)) (fun k => ?_) ?_
  ·simp only [spec_l2Digits.l1]
   rw [if_neg (by omega)]
   simp only [Option.bind_some]
   rw [if_pos (by simp only [List.length_cons, List.length_nil]; omega)]
   have hb : ∀ x : Int, 0 ≤ x → x < 4294967296 → Go.bits .and .i64 x 15 = x % 16 := fun x hx0 hx1 => bits_mask .i64 63 (by decide) (fun n hn0 hn1 => by rw [i64_w]; exact w64 (by omega) (by omega)) 4 (by decide) x hx0 (by omega)
   rw [hb _ (by omega) (by omega), hb _ (by omega) (by omega), hb _ (by omega) (by omega)]
   rfl
  ·rw [List.drop_eq_nil_of_le (by omega)]
   simp only [sm, Int.add_zero]
   exact Ev.now _
 | succ d ih =>
  intro i S hi h0 h1
  have hlt : i < out.length := by omega
  have hr := rd_at out i hlt
  have hb := hin _ (List.getElem_mem hlt)
  refine Ev.step (f := fun k => spec_l2Digits.l1 k out (S + (15 - out[i])) out (out.length : Int) ((i + 1 : Nat) : Int)) (fun k => ?_) ?_
  ·simp only [spec_l2Digits.l1]
   rw [if_pos (by omega), if_pos (by omega), if_pos (by omega), hr, w64 (x := 15 - out[i]) (by omega) (by omega), w64 (x := S + (15 - out[i])) (by omega) (by omega), w64 (x := (i : Int) + 1) (by omega) (by omega)]
   rfl
  ·have := ih (i + 1) (S + (15 - out[i])) (by omega) (by omega) (by omega)
   rw [drop_cons out i hlt]
   simp only [sm]
   rw [← Int.add_assoc]
   exact this
theorem nibsS (t : ByteArray) (ht : t.size = 4) : ∀ (d i : Nat) (out : List Int), i + d = t.size → out = nibs (t.toList.take i) → Ev (fun k => spec_l2Digits.l0 k out t 0 (i : Int)) (nibs t.toList ++ checksM (sm (nibs t.toList))) := by
 have hlen : t.toList.length = 4 := by rw [size_toList]; exact ht
 intro d
 induction d with
 | zero =>
  intro i out hi ho
  have ho' : out = nibs t.toList := by rw [ho, List.take_of_length_le (by omega)]
  subst ho'
  refine Ev.step (f := fun k => spec_l2Digits.l1 k (nibs t.toList) 0 (nibs t.toList) ((nibs t.toList).length : Int) ((0 : Nat) : Int)) (fun k => ?_) ?_
  ·simp only [spec_l2Digits.l0]
   rw [if_neg (by omega)]
   rfl
  ·have := sumS (nibs t.toList) (nibs_in _) (by rw [nibs_length]; omega) (nibs t.toList).length 0 0 (by omega) (by omega) (by omega)
   simpa using this
 | succ d ih =>
  intro i out hi ho
  have hlt : i < t.size := by omega
  have hb := bt_get t i hlt
  have hlt' : i < t.toList.length := by omega
  have hg : t.toList.getD i 0 = t.toList[i] := by simp [List.getD_eq_getElem?_getD, List.getElem?_eq_getElem hlt']
  rw [hg] at hb
  have hc : (t.toList[i]).toNat < 256 := UInt8.toNat_lt _
  have hol : out.length = 2 * i := by rw [ho, nibs_length, List.length_take]; omega
  refine Ev.step (f := fun k => spec_l2Digits.l0 k (out ++ [((t.toList[i]).toNat : Int) / 16, ((t.toList[i]).toNat : Int) % 16]) t 0 ((i + 1 : Nat) : Int)) (fun k => ?_) ?_
  ·simp only [spec_l2Digits.l0]
   rw [if_pos (by omega), if_pos (by omega), hb, u8_and15 (x := ((t.toList[i]).toNat : Int)) (by omega) (by omega), w64 (x := ((t.toList[i]).toNat : Int) / 16) (by omega) (by omega), w64 (x := ((t.toList[i]).toNat : Int) % 16) (by omega) (by omega), w64 (x := (i : Int) + 1) (by omega) (by omega)]
   simp only [Option.bind_some]
   rw [if_pos (by simp only [List.length_cons, List.length_nil]; omega)]
   rfl
  ·refine ih (i + 1) _ (by omega) ?_
   rw [ho, List.take_succ_eq_append_getElem hlt']
   generalize List.take i t.toList = l
   induction l with
   | nil => rfl
   | cons c l ih2 => simp only [nibs, List.cons_append, ih2]
theorem kmm : Kd_ 109 := ⟨by decide, by decide⟩
theorem digitsS (s : ByteArray) (hs : s.size ≤ 1000000) : Ev (fun k => spec_l2Digits.f k s) (digitsM s) := by
 refine ev_bind (f := fun k t => spec_l2Digits.l0 k [] t 0 0) (digS 109 kmm s (by omega)) ?_
 exact nibsS (dig 109 s) (dig_size _ _) (dig 109 s).size 0 [] (by omega) rfl
theorem rd_bytes (t : ByteArray) (i : Nat) (h : i < t.toList.length) : rd (bytesOf t) (i : Int) = ((t.toList[i]).toNat : Int) := by
 rw [rd_bytesOf, bt_get t i (by rw [size_toList] at h; exact h)]
 simp [List.getD_eq_getElem?_getD, List.getElem?_eq_getElem h]
theorem bytesOf_len (t : ByteArray) : (bytesOf t).length = t.toList.length := by rw [bytesOf_length, size_toList]
theorem nibs_app (l : List UInt8) (c : UInt8) : nibs (l ++ [c]) = nibs l ++ [(c.toNat : Int) / 16, (c.toNat : Int) % 16] := by
 induction l with
 | nil => rfl
 | cons d l ih => simp only [nibs, List.cons_append, ih]
theorem sm_app (a b : List Int) : sm (a ++ b) = sm a + sm b := by
 induction a with
 | nil => simp [sm]
 | cons n a ih => simp only [sm, List.cons_append, ih]; omega
theorem nibsI (t : ByteArray) (ht : t.size = 4) : ∀ (d i : Nat) (out : List Int) (S : Int), i + d = t.toList.length → out = nibs (t.toList.take i) → S = sm out → Ev (fun k => impl_digits.l0 k out S (bytesOf t) ((bytesOf t).length : Int) (i : Int)) (nibs t.toList ++ checksM (sm (nibs t.toList))) := by
 have hlen : t.toList.length = 4 := by rw [size_toList]; exact ht
 intro d
 induction d with
 | zero =>
  intro i out S hi ho hS
  have ho' : out = nibs t.toList := by rw [ho, List.take_of_length_le (by omega)]
  subst ho'
  have hb := sm_nibs t.toList
  rw [hlen] at hb
  refine Ev.step (f := fun k => some (nibs t.toList ++ checksM (sm (nibs t.toList)))) (fun k => ?_) (Ev.now _)
  simp only [impl_digits.l0]
  rw [if_neg (by rw [bytesOf_len]; omega)]
  simp only [Option.bind_some]
  rw [if_pos (by rw [nibs_length]; simp only [List.length_cons, List.length_nil]; omega)]
  rw [hS, Int.tdiv_eq_ediv_of_nonneg hb.1, Int.tdiv_eq_ediv_of_nonneg hb.1, w64 (x := sm (nibs t.toList) / 256) (by omega) (by omega), w64 (x := sm (nibs t.toList) / 16) (by omega) (by omega), Int.tmod_eq_emod_of_nonneg hb.1, Int.tmod_eq_emod_of_nonneg (by omega)]
  unfold checksM
  rw [show sm (nibs t.toList) / 256 % 16 = sm (nibs t.toList) / 256 from by omega]
 | succ d ih =>
  intro i out S hi ho hS
  have hlt' : i < t.toList.length := by omega
  have hb := rd_bytes t i hlt'
  have hc : (t.toList[i]).toNat < 256 := UInt8.toNat_lt _
  have hol : out.length = 2 * i := by rw [ho, nibs_length, List.length_take]; omega
  have hSb : 0 ≤ S ∧ S ≤ 30 * i := by
   have := sm_nibs (t.toList.take i)
   rw [← ho, ← hS, List.length_take] at this
   omega
  refine Ev.step (f := fun k => impl_digits.l0 k (out ++ [((t.toList[i]).toNat : Int) / 16, ((t.toList[i]).toNat : Int) % 16]) (S + (30 - ((t.toList[i]).toNat : Int) / 16 - ((t.toList[i]).toNat : Int) % 16)) (bytesOf t) ((bytesOf t).length : Int) ((i + 1 : Nat) : Int)) (fun k => ?_) ?_
  ·simp only [impl_digits.l0]
   have hbl := bytesOf_len t
   rw [if_pos (by omega), if_pos (by omega), if_pos (by omega), hb, Int.tdiv_eq_ediv_of_nonneg (by omega), Int.tmod_eq_emod_of_nonneg (by omega), w64 (x := ((t.toList[i]).toNat : Int) % 16) (by omega) (by omega), w64 (x := (i : Int) + 1) (by omega) (by omega)]
   rw [show ((t.toList[i]).toNat : Int) / 16 % 256 = ((t.toList[i]).toNat : Int) / 16 from by omega]
   rw [w64 (x := 30 - ((t.toList[i]).toNat : Int) / 16 - ((t.toList[i]).toNat : Int) % 16) (by omega) (by omega), w64 (x := S + (30 - ((t.toList[i]).toNat : Int) / 16 - ((t.toList[i]).toNat : Int) % 16)) (by omega) (by omega)]
   simp only [Option.bind_some]
   rw [if_pos (by simp only [List.length_cons, List.length_nil]; omega)]
   rfl
  ·refine ih (i + 1) _ _ (by omega) ?_ ?_
   ·rw [ho, List.take_succ_eq_append_getElem hlt', nibs_app]
   ·rw [hS, sm_app]; simp only [sm]; omega
theorem digitsI (s : ByteArray) (hs : s.size ≤ 1000000) : Ev (fun k => impl_digits.f k s) (digitsM s) := by
 refine ev_bind (f := fun k t178 => if t178.size ≤ 9223372036854775807 then ((some (bytesOf t178 : List Int)).bind fun y179 => (impl_digits.l0 k ([] : List Int) 0 y179 (y179.length : Int) 0)) else (none)) (digI 109 kmm s (by omega)) ?_
 refine ev_pos (by rw [dig_size]; omega) ?_
 exact nibsI (dig 109 s) (dig_size _ _) (dig 109 s).toList.length 0 [] 0 (by omega) rfl rfl
end Go.Proofs.YtmfipefpmjcddaaGreatDoor.PK
end
section
namespace Go.Proofs.YtmfipefpmjcddaaGreatDoor.PL
open Go.RowKit Go.Proofs.YtmfipefpmjcddaaGreatDoorW.PrintWords Go.Proofs.YtmfipefpmjcddaaGreatDoorW.PrintLast Go.Proofs.YtmfipefpmjcddaaGreatDoorW.PrintMore Go.Proofs.YtmfipefpmjcddaaGreatDoor.PB Go.Proofs.YtmfipefpmjcddaaGreatDoor.PA
set_option linter.unusedVariables false
theorem rdOf_at {α : Type} (d : α) (l : List α) (i : Nat) (h : i < l.length) : rdOf d l (i : Int) = l[i] := by
 simp [rdOf, List.getD_eq_getElem?_getD, List.getElem?_eq_getElem h]
def filled {α β : Type} (f : α → β) (z : β) (l : List α) (i : Nat) : List β := (l.take i).map f ++ List.replicate (l.length - i) z
theorem filled_length {α β : Type} (f : α → β) (z : β) (l : List α) (i : Nat) (h : i ≤ l.length) : (filled f z l i).length = l.length := by
 simp [filled, Nat.min_eq_left h]; omega
theorem filled_zero {α β : Type} (f : α → β) (z : β) (l : List α) : filled f z l 0 = List.replicate l.length z := by simp [filled]
theorem filled_all {α β : Type} (f : α → β) (z : β) (l : List α) : filled f z l l.length = l.map f := by simp [filled]
theorem filled_set {α β : Type} (f : α → β) (z : β) (l : List α) (i : Nat) (h : i < l.length) : (filled f z l i).set i (f l[i]) = filled f z l (i + 1) := by
 unfold filled
 rw [List.take_succ_eq_append_getElem h, List.map_append, List.map_cons, List.map_nil]
 have hl : ((l.take i).map f).length = i := by simp [Nat.min_eq_left (Nat.le_of_lt h)]
 obtain ⟨m, hm⟩ : ∃ m, l.length - i = m + 1 := ⟨l.length - i - 1, by omega⟩
 rw [hm, List.replicate_succ, List.set_append_right _ _ (by omega), hl, Nat.sub_self, List.set_cons_zero, show l.length - (i + 1) = m by omega]
 simp
theorem toS (l : List ByteArray) (hl : l.length ≤ 2000000) : Ev (fun k => laws_toStringS.f k l) l := by
 have key : ∀ (d i : Nat), i + d = l.length → Ev (fun k => laws_toStringS.l0 k l (filled (fun x => x) ⟨#[]⟩ l i) (i : Int)) l := by
  intro d
  induction d with
  | zero =>
   intro i hi
   have hi' : i = l.length := by omega
   subst hi'
   refine Ev.step (f := fun _ => some l) (fun k => ?_) (Ev.now _)
   simp only [laws_toStringS.l0]
   rw [if_neg (by omega), filled_all]
   simp
  | succ d ih =>
   intro i hi
   have hlt : i < l.length := by omega
   refine Ev.step (f := fun k => laws_toStringS.l0 k l (filled (fun x => x) ⟨#[]⟩ l (i + 1)) ((i + 1 : Nat) : Int)) (fun k => ?_) (ih (i + 1) (by omega))
   simp only [laws_toStringS.l0]
   rw [if_pos (by omega), if_pos (by omega), if_pos (by rw [filled_length _ _ _ _ (by omega)]; omega), rdOf_at _ _ _ hlt, w64 (x := (i : Int) + 1) (by omega) (by omega)]
   rw [show ((i : Int)).toNat = i from by omega, filled_set (fun x => x) _ l i hlt]
   rfl
 refine Ev.congr (f := fun k => laws_toStringS.l0 k l (filled (fun x => x) ⟨#[]⟩ l 0) ((0 : Nat) : Int)) (fun k => ?_) (key l.length 0 (by omega))
 simp only [laws_toStringS.f]
 rw [if_pos (by omega), if_pos (by omega), filled_zero]
 rfl
theorem eqS_yes (l : List ByteArray) (hl : l.length ≤ 2000000) : Ev (fun k => laws_eqStringS.f k l l) true := by
 have key : ∀ (d i : Nat), i + d = l.length → Ev (fun k => laws_eqStringS.l0 k l l (i : Int)) true := by
  intro d
  induction d with
  | zero =>
   intro i hi
   refine Ev.step (f := fun _ => some true) (fun k => ?_) (Ev.now _)
   simp only [laws_eqStringS.l0]
   rw [if_neg (by omega)]
  | succ d ih =>
   intro i hi
   refine Ev.step (f := fun k => laws_eqStringS.l0 k l l ((i + 1 : Nat) : Int)) (fun k => ?_) (ih (i + 1) (by omega))
   simp only [laws_eqStringS.l0]
   rw [if_pos (by omega), if_pos (by omega), if_pos (by omega), if_pos trivial, w64 (x := (i : Int) + 1) (by omega) (by omega)]
   rfl
 refine Ev.congr (f := fun k => laws_eqStringS.l0 k l l ((0 : Nat) : Int)) (fun k => ?_) (key l.length 0 (by omega))
 simp only [laws_eqStringS.f]
 rw [if_pos trivial]
 rfl
def szL : List ByteArray → Nat
 | [] => 0
 | s :: l => s.size + szL l
def total (l : List ByteArray) : Nat := l.length + szL l
def Fit (l : List ByteArray) : Prop := l.length ≤ 9223372036854775807 ∧ ∀ s ∈ l, s.size ≤ 9223372036854775807
theorem szS_loop (l : List ByteArray) (hf : Fit l) : ∀ (d i : Nat) (R : Int), i + d = l.length → 0 ≤ R → R ≤ 1000000000000 → l.length ≤ 1000000000000 →
  Ev (fun k => laws_szStringS.l0 k l R (i : Int)) (if (szL (l.drop i) : Int) ≤ R then R - szL (l.drop i) else -1) := by
 intro d
 induction d with
 | zero =>
  intro i R hi h0 h1 h2
  rw [List.drop_eq_nil_of_le (by omega)]
  refine Ev.step (f := fun _ => some R) (fun k => ?_) ?_
  ·simp only [laws_szStringS.l0]
   rw [if_neg (by omega)]
  ·rw [show szL [] = 0 from rfl, if_pos (by omega)]
   exact ev_eq (Ev.now R) (by omega)
 | succ d ih =>
  intro i R hi h0 h1 h2
  have hlt : i < l.length := by omega
  have hs := hf.2 _ (List.getElem_mem hlt)
  rw [List.drop_eq_getElem_cons hlt, show szL (l[i] :: l.drop (i + 1)) = l[i].size + szL (l.drop (i + 1)) from rfl]
  by_cases hc : (l[i].size : Int) ≤ R
  ·refine Ev.step (f := fun k => laws_szStringS.l0 k l (R - l[i].size) ((i + 1 : Nat) : Int)) (fun k => ?_) ?_
   ·simp only [laws_szStringS.l0]
    rw [if_pos (by omega), if_pos (by omega), rdOf_at _ _ _ hlt, w64 (x := R - (l[i].size : Int)) (by omega) (by omega), if_neg (by omega), w64 (x := (i : Int) + 1) (by omega) (by omega)]
    rfl
   ·refine ev_eq (ih (i + 1) (R - l[i].size) (by omega) (by omega) (by omega) h2) ?_
    by_cases hd : (szL (l.drop (i + 1)) : Int) ≤ R - l[i].size
    ·rw [if_pos hd, if_pos (by omega)]; omega
    ·rw [if_neg hd, if_neg (by omega)]
  ·refine Ev.step (f := fun _ => some (-1)) (fun k => ?_) ?_
   ·simp only [laws_szStringS.l0]
    rw [if_pos (by omega), if_pos (by omega), rdOf_at _ _ _ hlt, w64 (x := R - (l[i].size : Int)) (by omega) (by omega), if_pos (by omega)]
   ·rw [if_neg (by omega)]
    exact Ev.now _
theorem szS (l : List ByteArray) (hf : Fit l) (R : Int) (h0 : 0 ≤ R) (h1 : R ≤ 1000000000) : Ev (fun k => laws_szStringS.f k l R) (if (total l : Int) ≤ R then R - total l else -1) := by
 have hl := hf.1
 by_cases hc : (l.length : Int) ≤ R
 ·refine Ev.congr (f := fun k => laws_szStringS.l0 k l (R - l.length) ((0 : Nat) : Int)) (fun k => ?_) ?_
  ·simp only [laws_szStringS.f]
   rw [w64 (x := R - (l.length : Int)) (by omega) (by omega), if_neg (by omega)]
   rfl
  ·refine ev_eq (szS_loop l hf l.length 0 (R - l.length) (by omega) (by omega) (by omega) (by omega)) ?_
   rw [List.drop_zero]
   unfold total
   by_cases hd : (szL l : Int) ≤ R - l.length
   ·rw [if_pos hd, if_pos (by omega)]; omega
   ·rw [if_neg hd, if_neg (by omega)]
 ·refine Ev.congr (f := fun _ => some (-1)) (fun k => ?_) ?_
  ·simp only [laws_szStringS.f]
   rw [w64 (x := R - (l.length : Int)) (by omega) (by omega), if_pos (by omega)]
  ·unfold total
   rw [if_neg (by omega)]
   exact Ev.now _
end Go.Proofs.YtmfipefpmjcddaaGreatDoor.PL
end
section
namespace Go.Proofs.YtmfipefpmjcddaaGreatDoor.PS
open Go.RowKit Go.Proofs.YtmfipefpmjcddaaGreatDoorW.PrintWords Go.Proofs.YtmfipefpmjcddaaGreatDoorW.PrintLast Go.Proofs.YtmfipefpmjcddaaGreatDoorW.PrintMore Go.Proofs.YtmfipefpmjcddaaGreatDoor.PB Go.Proofs.YtmfipefpmjcddaaGreatDoor.PD Go.Proofs.YtmfipefpmjcddaaGreatDoor.PK Go.Proofs.YtmfipefpmjcddaaGreatDoor.PL Go.Proofs.YtmfipefpmjcddaaGreatDoor.PA
set_option linter.unusedVariables false
theorem chainS' (s : ByteArray) (a b : Int) (h0 : 0 ≤ a) (h1 : 0 ≤ b) (h2 : a + b ≤ 1000) (hs : s.size ≤ 1000000) : Ev (fun k => spec_l2Chain.f k s a b) (chainM s a.toNat b.toNat) := by
 obtain ⟨m, rfl⟩ := Int.eq_ofNat_of_zero_le h0
 obtain ⟨n, rfl⟩ := Int.eq_ofNat_of_zero_le h1
 exact chainS s m n (by omega) hs
theorem chainI' (s : ByteArray) (a b : Int) (h0 : 0 ≤ a) (h1 : 0 ≤ b) (h2 : a + b ≤ 1000) (hs : s.size ≤ 1000000) : Ev (fun k => impl_chain.f k s a b) (chainM s a.toNat b.toNat) := by
 obtain ⟨m, rfl⟩ := Int.eq_ofNat_of_zero_le h0
 obtain ⟨n, rfl⟩ := Int.eq_ofNat_of_zero_le h1
 exact chainI s m n (by omega) hs
theorem kp : Kd_ 112 := ⟨by decide, by decide⟩
def fromAt (text : ByteArray) (l : List ByteArray) (i : Nat) : ByteArray := chainM (l.getD i ⟨#[]⟩) (rd (digitsM text) (i : Int)).toNat (15 - rd (digitsM text) (i : Int)).toNat
def joined : List ByteArray → ByteArray → ByteArray
 | [], s => s
 | t :: l, s => joined l (s ++ t)
def fromM (text : ByteArray) (l : List ByteArray) : ByteArray := dig 112 (joined ((List.range 11).map (fromAt text l)) ⟨#[]⟩)
theorem joined_snoc (l : List ByteArray) (t s : ByteArray) : joined (l ++ [t]) s = joined l s ++ t := by
 induction l generalizing s with
 | nil => rfl
 | cons a l ih => exact ih (s ++ a)
def Good11 (l : List ByteArray) : Prop := l.length = 11 ∧ ∀ s ∈ l, s.size = 4
theorem getD_good {l : List ByteArray} (h : Good11 l) (i : Nat) (hi : i < 11) : (l.getD i ⟨#[]⟩).size = 4 := by
 have hl : i < l.length := by rw [h.1]; exact hi
 simp only [List.getD_eq_getElem?_getD, List.getElem?_eq_getElem hl, Option.getD_some]
 exact h.2 _ (List.getElem_mem hl)
theorem joined_size (text : ByteArray) (l : List ByteArray) (h : Good11 l) : ∀ i, i ≤ 11 → (joined ((List.range i).map (fromAt text l)) ⟨#[]⟩).size = 4 * i := by
 intro i
 induction i with
 | zero => intro _; rfl
 | succ i ih =>
  intro hi
  rw [List.range_succ, List.map_append, List.map_cons, List.map_nil, joined_snoc, app_size, ih (by omega)]
  unfold fromAt
  rw [chainM_size _ (getD_good h i (by omega))]
  omega
theorem rdOf_getD (l : List ByteArray) (i : Nat) : rdOf ByteArray.empty l (i : Int) = l.getD i ⟨#[]⟩ := by
 simp only [rdOf, Int.toNat_natCast]; rfl
theorem fromS (text : ByteArray) (l : List ByteArray) (ht : text.size ≤ 1000000) (h : Good11 l) : Ev (fun k => spec_l2From.f k text l) (fromM text l) := by
 have hlen := digitsM_length text
 have key : ∀ (d i : Nat), i + d = 11 → Ev (fun k => spec_l2From.l0 k l (joined ((List.range i).map (fromAt text l)) ⟨#[]⟩) (digitsM text) ((digitsM text).length : Int) (i : Int)) (fromM text l) := by
  intro d
  induction d with
  | zero =>
   intro i hi
   have hj := joined_size text l h 11 (by omega)
   refine Ev.step (f := fun k => (spec_l1Digest.f k 112 (joined ((List.range 11).map (fromAt text l)) ⟨#[]⟩)).bind fun t => some t) (fun k => ?_) (ev_bind (digS 112 kp _ (by omega)) (Ev.now _))
   simp only [spec_l2From.l0]
   rw [if_neg (by omega), show i = 11 by omega]
  | succ d ih =>
   intro i hi
   have hr := rd_digits text i (by omega)
   have hj := joined_size text l h i (by omega)
   have hl := h.1
   refine Ev.step (f := fun k => (spec_l2Chain.f k (l.getD i ⟨#[]⟩) (rd (digitsM text) (i : Int)) (15 - rd (digitsM text) (i : Int))).bind fun t => if (joined ((List.range i).map (fromAt text l)) ⟨#[]⟩).size + t.size ≤ 9223372036854775807 then spec_l2From.l0 k l (joined ((List.range i).map (fromAt text l)) ⟨#[]⟩ ++ t) (digitsM text) ((digitsM text).length : Int) ((i + 1 : Nat) : Int) else none) (fun k => ?_) ?_
   ·simp only [spec_l2From.l0]
    rw [if_pos (by omega), if_pos (by omega), if_pos (by omega), if_pos (by omega), rdOf_getD, w64 (x := 15 - rd (digitsM text) (i : Int)) (by omega) (by omega), w64 (x := (i : Int) + 1) (by omega) (by omega)]
    rfl
   ·refine ev_bind (chainS' _ _ _ hr.1 (by omega) (by omega) (by rw [getD_good h i (by omega)]; omega)) (ev_pos (by rw [chainM_size _ (getD_good h i (by omega))]; omega) ?_)
    have e : joined ((List.range i).map (fromAt text l)) ⟨#[]⟩ ++ chainM (l.getD i ⟨#[]⟩) (rd (digitsM text) (i : Int)).toNat (15 - rd (digitsM text) (i : Int)).toNat = joined ((List.range (i + 1)).map (fromAt text l)) ⟨#[]⟩ := by
     rw [List.range_succ, List.map_append, List.map_cons, List.map_nil, joined_snoc]; rfl
    rw [e]
    exact ih (i + 1) (by omega)
 exact ev_bind (digitsS text ht) (key 11 0 (by omega))
theorem fromI (text : ByteArray) (l : List ByteArray) (ht : text.size ≤ 1000000) (h : Good11 l) : Ev (fun k => impl_publicFrom.f k text l) (fromM text l) := by
 have hlen := digitsM_length text
 have key : ∀ (d i : Nat), i + d = 11 → Ev (fun k => impl_publicFrom.l0 k l (joined ((List.range i).map (fromAt text l)) ⟨#[]⟩) (digitsM text) ((digitsM text).length : Int) (i : Int)) (fromM text l) := by
  intro d
  induction d with
  | zero =>
   intro i hi
   have hj := joined_size text l h 11 (by omega)
   refine Ev.step (f := fun k => (impl_digest.f k 112 (joined ((List.range 11).map (fromAt text l)) ⟨#[]⟩)).bind fun t => some t) (fun k => ?_) (ev_bind (digI 112 kp _ (by omega)) (Ev.now _))
   simp only [impl_publicFrom.l0]
   rw [if_neg (by omega), show i = 11 by omega]
  | succ d ih =>
   intro i hi
   have hr := rd_digits text i (by omega)
   have hj := joined_size text l h i (by omega)
   have hl := h.1
   refine Ev.step (f := fun k => (impl_chain.f k (l.getD i ⟨#[]⟩) (rd (digitsM text) (i : Int)) (15 - rd (digitsM text) (i : Int))).bind fun t => if (joined ((List.range i).map (fromAt text l)) ⟨#[]⟩).size + t.size ≤ 9223372036854775807 then impl_publicFrom.l0 k l (joined ((List.range i).map (fromAt text l)) ⟨#[]⟩ ++ t) (digitsM text) ((digitsM text).length : Int) ((i + 1 : Nat) : Int) else none) (fun k => ?_) ?_
   ·simp only [impl_publicFrom.l0]
    rw [if_pos (by omega), if_pos (by omega), if_pos (by omega), if_pos (by omega), rdOf_getD, w64 (x := 15 - rd (digitsM text) (i : Int)) (by omega) (by omega), w64 (x := (i : Int) + 1) (by omega) (by omega)]
    rfl
   ·refine ev_bind (chainI' _ _ _ hr.1 (by omega) (by omega) (by rw [getD_good h i (by omega)]; omega)) (ev_pos (by rw [chainM_size _ (getD_good h i (by omega))]; omega) ?_)
    have e : joined ((List.range i).map (fromAt text l)) ⟨#[]⟩ ++ chainM (l.getD i ⟨#[]⟩) (rd (digitsM text) (i : Int)).toNat (15 - rd (digitsM text) (i : Int)).toNat = joined ((List.range (i + 1)).map (fromAt text l)) ⟨#[]⟩ := by
     rw [List.range_succ, List.map_append, List.map_cons, List.map_nil, joined_snoc]; rfl
    rw [e]
    exact ih (i + 1) (by omega)
 exact ev_bind (digitsI text ht) (key 11 0 (by omega))
end Go.Proofs.YtmfipefpmjcddaaGreatDoor.PS
end
section
namespace Go.Proofs.YtmfipefpmjcddaaGreatDoor.PT
open Go.RowKit Go.Proofs.YtmfipefpmjcddaaGreatDoorW.PrintWords Go.Proofs.YtmfipefpmjcddaaGreatDoorW.PrintLast Go.Proofs.YtmfipefpmjcddaaGreatDoorW.PrintMore Go.Proofs.YtmfipefpmjcddaaGreatDoor.PB Go.Proofs.YtmfipefpmjcddaaGreatDoor.PD Go.Proofs.YtmfipefpmjcddaaGreatDoor.PK Go.Proofs.YtmfipefpmjcddaaGreatDoor.PL Go.Proofs.YtmfipefpmjcddaaGreatDoor.PS Go.Proofs.YtmfipefpmjcddaaGreatDoor.PA
set_option linter.unusedVariables false
theorem inS (a b c : Int) : spec_l1In.f a b c = some (decide (b ≤ a ∧ a ≤ c)) := by
 unfold spec_l1In.f
 by_cases h : a ≥ b
 ·rw [if_pos h]; simp [show b ≤ a from h]
 ·rw [if_neg h]; simp [show ¬ b ≤ a from h]
theorem inI (a b c : Int) : impl_within.f a b c = some (decide (b ≤ a ∧ a ≤ c)) := by
 unfold impl_within.f
 by_cases h : a ≥ b
 ·rw [if_pos h]; simp [show b ≤ a from h]
 ·rw [if_neg h]; simp [show ¬ b ≤ a from h]
theorem longS (a : ByteArray) : spec_l2Long.f a = some (decide ((a.size : Int) ≤ 200)) := rfl
end Go.Proofs.YtmfipefpmjcddaaGreatDoor.PT
end
section
namespace Go.Proofs.YtmfipefpmjcddaaGreatDoor.PU
open Go.RowKit Go.Proofs.YtmfipefpmjcddaaGreatDoorW.PrintWords Go.Proofs.YtmfipefpmjcddaaGreatDoorW.PrintLast Go.Proofs.YtmfipefpmjcddaaGreatDoorW.PrintMore Go.Proofs.YtmfipefpmjcddaaGreatDoor.PB Go.Proofs.YtmfipefpmjcddaaGreatDoor.PD Go.Proofs.YtmfipefpmjcddaaGreatDoor.PK Go.Proofs.YtmfipefpmjcddaaGreatDoor.PL Go.Proofs.YtmfipefpmjcddaaGreatDoor.PS Go.Proofs.YtmfipefpmjcddaaGreatDoor.PT Go.Proofs.YtmfipefpmjcddaaGreatDoor.PA
set_option linter.unusedVariables false
theorem idx_any {α : Type} (l : List α) (rf : List α → Int → α) (hrf : ∀ i (h : i < l.length), rf l (i : Int) = l[i]) (L0 : Nat → List α → Int → Int → Option Int) (cl : Nat → α → Option Bool) (p : α → Bool)
  (hstep : ∀ k n i, L0 (k + 1) l n i = if i < n then (if 0 ≤ i then (if i < (l.length : Int) then ((cl k (rf l i)).bind fun t => if t = true then some i else L0 k l n (wrap64 (i + 1))) else none) else none) else some (-1))
  (hp : ∀ x ∈ l, Ev (fun k => cl k x) (p x)) (hl : l.length ≤ 4000000000000000000) : ∃ r, Ev (fun k => L0 k l (l.length : Int) 0) r ∧ decide (r ≥ 0) = l.any p := by
 have key : ∀ (d i : Nat), i + d = l.length → ∃ r, Ev (fun k => L0 k l (l.length : Int) (i : Int)) r ∧ decide (r ≥ 0) = (l.drop i).any p := by
  intro d
  induction d with
  | zero =>
   intro i hi
   refine ⟨-1, Ev.step (f := fun _ => some (-1)) (fun k => ?_) (Ev.now _), ?_⟩
   ·rw [hstep, if_neg (by omega)]
   ·rw [List.drop_eq_nil_of_le (by omega)]; rfl
  | succ d ih =>
   intro i hi
   have hlt : i < l.length := by omega
   have hpx := hp _ (List.getElem_mem hlt)
   rw [List.drop_eq_getElem_cons hlt, List.any_cons]
   have st : ∀ k, L0 (k + 1) l (l.length : Int) (i : Int) = (cl k l[i]).bind fun t => if t = true then some (i : Int) else L0 k l (l.length : Int) ((i + 1 : Nat) : Int) := by
    intro k
    rw [hstep, if_pos (by omega), if_pos (by omega), if_pos (by omega), hrf i hlt, w64 (x := (i : Int) + 1) (by omega) (by omega)]
    rfl
   cases hb : p l[i] with
   | true =>
    rw [hb] at hpx
    refine ⟨(i : Int), Ev.step (f := fun k => (cl k l[i]).bind fun t => if t = true then some (i : Int) else L0 k l (l.length : Int) ((i + 1 : Nat) : Int)) st (ev_bind hpx (ev_pos rfl (Ev.now _))), ?_⟩
    simp only [Bool.true_or]
    exact decide_eq_true (by omega)
   | false =>
    rw [hb] at hpx
    obtain ⟨r, hr, e⟩ := ih (i + 1) (by omega)
    refine ⟨r, Ev.step (f := fun k => (cl k l[i]).bind fun t => if t = true then some (i : Int) else L0 k l (l.length : Int) ((i + 1 : Nat) : Int)) st (ev_bind hpx (ev_neg (by simp) hr)), ?_⟩
    rw [Bool.false_or]; exact e
 obtain ⟨r, hr, e⟩ := key l.length 0 (by omega)
 exact ⟨r, hr, by rw [e, List.drop_zero]⟩
def all4 (l : List ByteArray) : Bool := l.all fun s => decide (s.size = 4)
theorem all4_iff (l : List ByteArray) : all4 l = true ↔ ∀ s ∈ l, s.size = 4 := by simp [all4]
theorem isDigI (s : ByteArray) : impl_isDigest.f s = some (decide (s.size = 4)) := by
 unfold impl_isDigest.f
 refine congrArg some ?_
 by_cases h : s.size = 4
 ·rw [decide_eq_true h, h]; rfl
 ·rw [decide_eq_false h]; exact beq_eq_false_iff_ne.mpr (by omega)
theorem any_not_all4 (l : List ByteArray) : (l.any fun s => !decide (s.size = 4)) = !all4 l := by
 induction l with
 | nil => rfl
 | cons a l ih => simp only [List.any_cons, all4, List.all_cons, Bool.not_and]; rw [ih]; rfl
theorem areDigI (l : List ByteArray) (m : Int) (hl : l.length ≤ 4000000000000000000) : Ev (fun k => impl_areDigests.f k l m) (decide ((l.length : Int) = m) && all4 l) := by
 unfold impl_areDigests.f
 by_cases h : (l.length : Int) = m
 ·refine ev_pos h ?_
  obtain ⟨r, hr, e⟩ := idx_any l (fun l i => rdOf ByteArray.empty l i) (fun i h => rdOf_at _ l i h) slices_IndexFunc_impl_areDigests_1.l0 (fun _ s => impl_areDigests_1.f s) (fun s => !decide (s.size = 4)) (fun k n i => rfl) (fun x _ => ev_of_eq (by unfold impl_areDigests_1.f; rw [isDigI]; rfl)) hl
  have hc : Ev (fun k => slices_ContainsFunc_impl_areDigests_1.f k l) (!all4 l) := by
   rw [← any_not_all4, ← e]
   exact ev_bind (f := fun _ t => some (decide (t ≥ 0))) hr (Ev.now _)
  refine ev_eq (ev_bind (f := fun _ t => some (!t)) hc (Ev.now _)) ?_
  rw [decide_eq_true h, Bool.true_and, Bool.not_not]
 ·refine ev_neg h ?_
  rw [decide_eq_false h]
  exact Ev.now _
theorem good11S (l : List ByteArray) (hl : l.length ≤ 4000000000000000000) : Ev (fun k => spec_l2Good.f k l) (decide ((l.length : Int) = 11) && all4 l) := by
 have key : ∀ (d i : Nat), i + d = l.length → Ev (fun k => spec_l2Good.l0 k l l (l.length : Int) (i : Int)) (decide ((l.length : Int) = 11) && all4 (l.drop i)) := by
  intro d
  induction d with
  | zero =>
   intro i hi
   refine Ev.step (f := fun _ => some ((l.length : Int) == 11)) (fun k => ?_) ?_
   ·simp only [spec_l2Good.l0]; rw [if_neg (by omega)]
   ·rw [List.drop_eq_nil_of_le (by omega)]
    refine ev_eq (Ev.now _) ?_
    simp only [all4, List.all_nil, Bool.and_true]
    rfl
  | succ d ih =>
   intro i hi
   have hlt : i < l.length := by omega
   rw [List.drop_eq_getElem_cons hlt]
   by_cases hb : l[i].size = 4
   ·refine Ev.step (f := fun k => spec_l2Good.l0 k l l (l.length : Int) ((i + 1 : Nat) : Int)) (fun k => ?_) ?_
    ·simp only [spec_l2Good.l0]
     rw [if_pos (by omega), if_pos (by omega), if_pos (by omega), rdOf_at _ _ _ hlt, if_pos (by omega), w64 (x := (i : Int) + 1) (by omega) (by omega)]
     rfl
    ·refine ev_eq (ih (i + 1) (by omega)) ?_
     simp only [all4, List.all_cons, decide_eq_true hb, Bool.true_and]
   ·refine Ev.step (f := fun _ => some false) (fun k => ?_) ?_
    ·simp only [spec_l2Good.l0]
     rw [if_pos (by omega), if_pos (by omega), if_pos (by omega), rdOf_at _ _ _ hlt, if_neg (by omega)]
    ·refine ev_eq (Ev.now _) ?_
     simp only [all4, List.all_cons, decide_eq_false hb, Bool.false_and, Bool.and_false]
 exact key l.length 0 (by omega)
theorem good_of (l : List ByteArray) (h : (decide ((l.length : Int) = 11) && all4 l) = true) : Good11 l := by
 simp only [Bool.and_eq_true, decide_eq_true_eq] at h
 exact ⟨by omega, (all4_iff l).1 h.2⟩
def okSign (text : ByteArray) (l : List ByteArray) : Bool := decide ((text.size : Int) ≤ 200) && (decide ((l.length : Int) = 11) && all4 l)
theorem isSignI (text : ByteArray) (l : List ByteArray) (hl : l.length ≤ 4000000000000000000) : Ev (fun k => impl_isSign.f k text l) (okSign text l) := by
 unfold impl_isSign.f okSign
 by_cases h : (text.size : Int) ≤ 200
 ·refine ev_pos h ?_
  rw [decide_eq_true h, Bool.true_and]
  exact ev_bind (f := fun _ t => some t) (areDigI l 11 hl) (Ev.now _)
 ·refine ev_neg h ?_
  rw [decide_eq_false h]
  exact Ev.now _
theorem okSign_good {text : ByteArray} {l : List ByteArray} (h : okSign text l = true) : text.size ≤ 200 ∧ Good11 l := by
 unfold okSign at h
 rw [Bool.and_eq_true] at h
 have h1 := h.1
 rw [decide_eq_true_eq] at h1
 exact ⟨by omega, good_of l h.2⟩
end Go.Proofs.YtmfipefpmjcddaaGreatDoor.PU
end
section
namespace Go.Proofs.YtmfipefpmjcddaaGreatDoor.PG
open Go.RowKit Go.Proofs.YtmfipefpmjcddaaGreatDoorW.PrintWords Go.Proofs.YtmfipefpmjcddaaGreatDoorW.PrintLast Go.Proofs.YtmfipefpmjcddaaGreatDoorW.PrintMore Go.Proofs.YtmfipefpmjcddaaGreatDoor.PB Go.Proofs.YtmfipefpmjcddaaGreatDoor.PL
set_option linter.unusedVariables false
theorem loop_up {β : Type} {r : β} (n : Nat) (S : Nat → Nat → Option β) (hend : Ev (S n) r) (hround : ∀ i, i < n → Ev (S (i + 1)) r → Ev (S i) r) : Ev (S 0) r := by
 have key : ∀ d i, i + d = n → Ev (S i) r := by
  intro d
  induction d with
  | zero => intro i hi; rw [show i = n by omega]; exact hend
  | succ d ih => intro i hi; exact hround i (by omega) (ih (i + 1) (by omega))
 exact key n 0 (by omega)
def wsum {α : Type} (wt : α → Nat) : List α → Nat
 | [] => 0
 | x :: l => wt x + wsum wt l
theorem wsum_mem {α : Type} (wt : α → Nat) (l : List α) : ∀ x ∈ l, wt x ≤ wsum wt l := by
 induction l with
 | nil => intro s h; cases h
 | cons a l ih =>
  intro s h
  simp only [wsum]
  rcases List.mem_cons.mp h with rfl | h
  ·omega
  ·have := ih s h; omega
def left (R : Int) (w : Nat) : Int := if (w : Int) ≤ R then R - w else -1
theorem left_yes {R : Int} {w : Nat} (h : (w : Int) ≤ R) : left R w = R - w := if_pos h
theorem left_no {R : Int} {w : Nat} (h : ¬ (w : Int) ≤ R) : left R w = -1 := if_neg h
theorem left_add {R : Int} {a b : Nat} (h : (a : Int) ≤ R) : left (R - a) b = left R (a + b) := by
 unfold left
 by_cases hb : (b : Int) ≤ R - a
 ·rw [if_pos hb, if_pos (by omega)]; omega
 ·rw [if_neg hb, if_neg (by omega)]
theorem to_list {α β : Type} (f : α → β) (z : β) (l : List α) (L0 : Nat → List α → List β → Int → Option (List β)) (hl : l.length ≤ 2000000)
  (hend : ∀ k out, L0 (k + 1) l out (l.length : Int) = some out)
  (hround : ∀ i (h : i < l.length) (out : List β), out.length = l.length → ∀ r, Ev (fun k => L0 k l (out.set i (f l[i])) ((i + 1 : Nat) : Int)) r → Ev (fun k => L0 k l out (i : Int)) r) :
  Ev (fun k => L0 k l (List.replicate l.length z) 0) (l.map f) := by
 have h := loop_up (r := l.map f) l.length (fun i k => L0 k l (filled f z l i) (i : Int)) ?_ ?_
 ·rw [← filled_zero f z l]; exact h
 ·refine Ev.step (f := fun _ => some (l.map f)) (fun k => ?_) (Ev.now _)
  rw [hend, filled_all]
 ·intro i hi h
  refine hround i hi _ (filled_length _ _ _ _ (by omega)) _ ?_
  rw [filled_set f z l i hi]
  exact h
theorem eq_list {α : Type} (l : List α) (L0 : Nat → List α → List α → Int → Option Bool) (F : Nat → List α → List α → Option Bool) (hend : ∀ k, L0 (k + 1) l l (l.length : Int) = some true)
  (hF : ∀ k, F k l l = L0 k l l 0) (hround : ∀ i (h : i < l.length), Ev (fun k => L0 k l l ((i + 1 : Nat) : Int)) true → Ev (fun k => L0 k l l (i : Int)) true) : Ev (fun k => F k l l) true := by
 refine Ev.congr (f := fun k => L0 k l l ((0 : Nat) : Int)) (fun k => hF k) ?_
 exact loop_up l.length (fun i k => L0 k l l (i : Int)) (Ev.step (f := fun _ => some true) (fun k => hend k) (Ev.now _)) (fun i hi h => hround i hi h)
end Go.Proofs.YtmfipefpmjcddaaGreatDoor.PG
end
section
namespace Go.Proofs.YtmfipefpmjcddaaGreatDoor.PQ
open Go.RowKit Go.Proofs.YtmfipefpmjcddaaGreatDoorW.PrintWords Go.Proofs.YtmfipefpmjcddaaGreatDoorW.PrintLast Go.Proofs.YtmfipefpmjcddaaGreatDoorW.PrintMore Go.Proofs.YtmfipefpmjcddaaGreatDoor.PB Go.Proofs.YtmfipefpmjcddaaGreatDoor.PD Go.Proofs.YtmfipefpmjcddaaGreatDoor.PK Go.Proofs.YtmfipefpmjcddaaGreatDoor.PL Go.Proofs.YtmfipefpmjcddaaGreatDoor.PS Go.Proofs.YtmfipefpmjcddaaGreatDoor.PT Go.Proofs.YtmfipefpmjcddaaGreatDoor.PU Go.Proofs.YtmfipefpmjcddaaGreatDoor.PG Go.Proofs.YtmfipefpmjcddaaGreatDoor.PA
set_option linter.unusedVariables false
def rowFrom : ByteArray → List ByteArray → ByteArray
 | acc, [] => acc
 | acc, s :: l => rowFrom (acc ++ (one (s.size : Int) ++ s)) l
def rowM (l : List ByteArray) : ByteArray := rowFrom ⟨#[]⟩ l
theorem rowFrom_size (l : List ByteArray) : ∀ acc, (rowFrom acc l).size = acc.size + total l := by
 induction l with
 | nil => intro acc; simp [rowFrom, total, szL]
 | cons s l ih =>
  intro acc
  have e : total (s :: l) = 1 + s.size + total l := by simp only [total, szL, List.length_cons]; omega
  rw [show rowFrom acc (s :: l) = rowFrom (acc ++ (one (s.size : Int) ++ s)) l from rfl, ih, app_size, app_size, one_size, e]; omega
theorem rowM_size (l : List ByteArray) : (rowM l).size = total l := by
 unfold rowM; rw [rowFrom_size]; exact Nat.zero_add _
theorem rowS (l : List ByteArray) (hl : total l ≤ 1000000000) : Ev (fun k => spec_l1Row.f k l) (rowM l) := by
 have hlen : l.length ≤ 1000000000 := by unfold total at hl; omega
 have key : ∀ (d i : Nat) (acc : ByteArray), i + d = l.length → acc.size + total (l.drop i) ≤ 2000000000 → Ev (fun k => spec_l1Row.l0 k acc l (l.length : Int) (i : Int)) (rowFrom acc (l.drop i)) := by
  intro d
  induction d with
  | zero =>
   intro i acc hi _
   rw [List.drop_eq_nil_of_le (by omega)]
   refine Ev.step (f := fun _ => some acc) (fun k => ?_) (Ev.now _)
   simp only [spec_l1Row.l0]; rw [if_neg (by omega)]
  | succ d ih =>
   intro i acc hi ha
   have hlt : i < l.length := by omega
   rw [List.drop_eq_getElem_cons hlt] at ha ⊢
   have e : total (l[i] :: l.drop (i + 1)) = 1 + l[i].size + total (l.drop (i + 1)) := by simp only [total, szL, List.length_cons]; omega
   rw [e] at ha
   refine Ev.step (f := fun k => spec_l1Row.l0 k (acc ++ (one (l[i].size : Int) ++ l[i])) l (l.length : Int) ((i + 1 : Nat) : Int)) (fun k => ?_) ?_
   ·simp only [spec_l1Row.l0]
    rw [if_pos (by omega), if_pos (by omega), if_pos (by omega), rdOf_at _ _ _ hlt, w64 (x := (i : Int) + 1) (by omega) (by omega)]
    have e1 : (strOfNums [(l[i].size : Int) % 256]).size = 1 := by rw [strOfNums_size]; rfl
    simp only [Option.bind_some]
    rw [if_pos (by omega), if_pos (by rw [app_size]; omega)]
    rfl
   ·exact ih (i + 1) _ (by omega) (by rw [app_size, app_size, one_size]; omega)
 exact key l.length 0 ⟨#[]⟩ (by omega) (by rw [List.drop_zero]; show 0 + total l ≤ _; omega)
end Go.Proofs.YtmfipefpmjcddaaGreatDoor.PQ
end
section
namespace Go.Proofs.YtmfipefpmjcddaaGreatDoor.PV

end Go.Proofs.YtmfipefpmjcddaaGreatDoor.PV
end
section
namespace Go.Proofs.YtmfipefpmjcddaaGreatDoor.PW
open Go.RowKit Go.Proofs.YtmfipefpmjcddaaGreatDoorW.PrintWords Go.Proofs.YtmfipefpmjcddaaGreatDoorW.PrintLast Go.Proofs.YtmfipefpmjcddaaGreatDoorW.PrintMore Go.Proofs.YtmfipefpmjcddaaGreatDoor.PB Go.Proofs.YtmfipefpmjcddaaGreatDoor.PD Go.Proofs.YtmfipefpmjcddaaGreatDoor.PK Go.Proofs.YtmfipefpmjcddaaGreatDoor.PL Go.Proofs.YtmfipefpmjcddaaGreatDoor.PS Go.Proofs.YtmfipefpmjcddaaGreatDoor.PT Go.Proofs.YtmfipefpmjcddaaGreatDoor.PU Go.Proofs.YtmfipefpmjcddaaGreatDoor.PG Go.Proofs.YtmfipefpmjcddaaGreatDoor.PQ Go.Proofs.YtmfipefpmjcddaaGreatDoor.PV Go.Proofs.YtmfipefpmjcddaaGreatDoor.PA
set_option linter.unusedVariables false
noncomputable def ch (P : Prop) : Bool := @decide P (Classical.propDecidable P)
theorem ch_yes {P : Prop} (h : P) : ch P = true := @decide_eq_true P (Classical.propDecidable P) h
theorem ch_no {P : Prop} (h : ¬ P) : ch P = false := @decide_eq_false P (Classical.propDecidable P) h
theorem ch_true {P : Prop} (h : ch P = true) : P := @of_decide_eq_true P (Classical.propDecidable P) h
theorem loop_yes {β : Type} (n : Nat) (S : Nat → Nat → Option β) (Q : Nat → Prop) (b : β) (hround : ∀ r i, i < n → Q i → Ev (S (i + 1)) r → Ev (S i) r) (hend : Ev (S n) b) (hq : ∀ i, i < n → Q i) : Ev (S 0) b :=
 loop_up n S hend (fun i hi h => hround b i hi (hq i hi) h)
theorem loop_no {β : Type} (n : Nat) (S : Nat → Nat → Option β) (Q : Nat → Prop) (no : β) (hround : ∀ r i, i < n → Q i → Ev (S (i + 1)) r → Ev (S i) r) (hno : ∀ i, i < n → ¬ Q i → Ev (S i) no) (hq : ¬ ∀ i, i < n → Q i) : Ev (S 0) no := by
 refine Classical.byContradiction fun hc => hq ?_
 have key : ∀ i, i ≤ n → (¬ Ev (S i) no) ∧ ∀ j, j < i → Q j := by
  intro i
  induction i with
  | zero => intro _; exact ⟨hc, fun j hj => absurd hj (Nat.not_lt_zero j)⟩
  | succ i ih =>
   intro hi
   obtain ⟨h1, h2⟩ := ih (by omega)
   have hQ : Q i := Classical.byContradiction fun h => h1 (hno i (by omega) h)
   refine ⟨fun h => h1 (hround no i (by omega) hQ h), fun j hj => ?_⟩
   by_cases e : j = i
   ·subst e; exact hQ
   ·exact h2 j (by omega)
 exact (key n (Nat.le_refl n)).2
theorem has_str (l : List ByteArray) (L0 : Nat → List ByteArray → Int → Int → Option Int) (cl : Nat → ByteArray → Option Bool) (p : ByteArray → Bool)
  (hstep : ∀ k n i, L0 (k + 1) l n i = if i < n then (if 0 ≤ i then (if i < (l.length : Int) then ((cl k (rdOf ByteArray.empty l i)).bind fun t => if t = true then some i else L0 k l n (wrap64 (i + 1))) else none) else none) else some (-1))
  (hp : ∀ x ∈ l, Ev (fun k => cl k x) (p x)) (hl : l.length ≤ 4000000000000000000) : Ev (fun k => (L0 k l (l.length : Int) 0).bind fun t => some (decide (t ≥ 0))) (l.any p) := by
 obtain ⟨r, hr, e⟩ := idx_any l (fun l i => rdOf ByteArray.empty l i) (fun i h => rdOf_at _ l i h) L0 cl p hstep hp hl
 rw [← e]
 exact ev_bind (f := fun _ t => some (decide (t ≥ 0))) hr (Ev.now _)
theorem not_any {α : Type} (p : α → Bool) : ∀ l : List α, (l.any fun s => !p s) = !(l.all p) := by
 intro l
 induction l with
 | nil => rfl
 | cons x l ih => simp only [List.any_cons, List.all_cons, Bool.not_and, ih]
theorem all_at (l : List ByteArray) (p : ByteArray → Bool) : l.all p = true ↔ ∀ i, i < l.length → p (rdOf ByteArray.empty l (i : Int)) = true := by
 rw [List.all_eq_true]
 constructor
 ·intro h i hi
  rw [rdOf_at _ _ _ hi]
  exact h _ (List.getElem_mem hi)
 ·intro h x hx
  obtain ⟨i, hi, e⟩ := List.getElem_of_mem hx
  have := h i hi
  rw [rdOf_at _ _ _ hi, e] at this
  exact this
def keyB (s : ByteArray) : Bool := decide (1 ≤ (s.size : Int) ∧ (s.size : Int) ≤ 12)
def valB (s : ByteArray) : Bool := decide ((s.size : Int) ≤ 12)
theorem keyI (s : ByteArray) : impl_isKey.f s = some (keyB s) := by
 unfold impl_isKey.f; rw [inI]; rfl
theorem empty_iff (a : ByteArray) : a.toList = ([] : List UInt8) ↔ a.size = 0 := by
 rw [← size_toList]
 constructor
 ·intro h; rw [h]; rfl
 ·intro h; exact List.length_eq_zero_iff.mp h
theorem pairS (a b : ByteArray) : spec_l5Pair.f a b = some (keyB a && valB b) := by
 unfold spec_l5Pair.f spec_l5Text.f keyB valB
 simp only [Option.bind_some]
 by_cases h1 : (a.size : Int) ≤ 12
 ·rw [if_pos (decide_eq_true h1)]
  by_cases h2 : (b.size : Int) ≤ 12
  ·rw [if_pos (decide_eq_true h2), decide_eq_true h2, Bool.and_true]
   by_cases h3 : a.size = 0
   ·rw [(empty_iff a).2 h3, decide_eq_false (by omega)]; rfl
   ·have : a.toList ≠ [] := fun h => h3 ((empty_iff a).1 h)
    rw [decide_eq_true ⟨by omega, h1⟩]
    exact congrArg some (by simp [this])
  ·rw [if_neg (by simp [h2]), decide_eq_false h2, Bool.and_false]
 ·rw [if_neg (by simp [h1]), decide_eq_false (fun h => h1 h.2)]; rfl
abbrev tx (l : List ByteArray) (i : Nat) : ByteArray := rdOf ByteArray.empty l (i : Int)
def risesAt (K : List ByteArray) (i : Nat) : Prop := 0 < i → Op.bytesLess (tx K (i - 1)).toList (tx K i).toList = true
def pageOk (K V C : List ByteArray) (g : Int) : Prop := K.length ≤ 4 ∧ V.length = K.length ∧ (∀ i, i < K.length → keyB (tx K i) = true ∧ risesAt K i) ∧ V.all valB = true ∧ (C.length = 0 ∨ C.length = K.length + 1) ∧ all4 C = true ∧ (0 ≤ g ∧ g ≤ (K.length : Int))
theorem risingI (K : List ByteArray) (hK : K.length ≤ 2000000) : Ev (fun k => impl_areRising.f k K) (ch (∀ i, i < K.length → keyB (tx K i) = true ∧ risesAt K i)) := by
 have round : ∀ (r : Bool) i, i < K.length → (keyB (tx K i) = true ∧ risesAt K i) → Ev (fun k => impl_areRising.l0 k K K (K.length : Int) ((i + 1 : Nat) : Int)) r → Ev (fun k => impl_areRising.l0 k K K (K.length : Int) (i : Int)) r := by
  intro r i hi hq h
  refine Ev.step (f := fun k => impl_areRising.l0 k K K (K.length : Int) ((i + 1 : Nat) : Int)) (fun k => ?_) h
  simp only [impl_areRising.l0]
  rw [if_pos (by omega), if_pos (by omega), if_pos (by omega), keyI, w64 (x := (i : Int) + 1) (by omega) (by omega)]
  simp only [Option.bind_some]
  rw [if_pos hq.1]
  by_cases h0 : 0 < i
  ·rw [if_pos (by omega), w64 (x := (i : Int) - 1) (by omega) (by omega), if_pos (by omega), if_pos (by omega), show (i : Int) - 1 = ((i - 1 : Nat) : Int) by omega, if_pos (hq.2 h0)]; rfl
  ·rw [if_neg (by omega)]; rfl
 have stop : ∀ i, i < K.length → ¬ (keyB (tx K i) = true ∧ risesAt K i) → Ev (fun k => impl_areRising.l0 k K K (K.length : Int) (i : Int)) false := by
  intro i hi hq
  refine Ev.step (f := fun _ => some false) (fun k => ?_) (Ev.now _)
  simp only [impl_areRising.l0]
  rw [if_pos (by omega), if_pos (by omega), if_pos (by omega), keyI]
  simp only [Option.bind_some]
  by_cases hk : keyB (tx K i) = true
  ·rw [if_pos hk]
   have h0 : 0 < i := Classical.byContradiction fun h => hq ⟨hk, fun h' => absurd h' h⟩
   rw [if_pos (by omega), w64 (x := (i : Int) - 1) (by omega) (by omega), if_pos (by omega), if_pos (by omega), show (i : Int) - 1 = ((i - 1 : Nat) : Int) by omega, if_neg (fun h => hq ⟨hk, fun _ => h⟩)]
  ·rw [if_neg hk]
 by_cases h : ∀ i, i < K.length → keyB (tx K i) = true ∧ risesAt K i
 ·rw [ch_yes h]
  exact loop_yes K.length (fun i k => impl_areRising.l0 k K K (K.length : Int) (i : Int)) _ true round (Ev.step (f := fun _ => some true) (fun k => by simp only [impl_areRising.l0]; rw [if_neg (by omega)]) (Ev.now _)) h
 ·rw [ch_no h]
  exact loop_no K.length (fun i k => impl_areRising.l0 k K K (K.length : Int) (i : Int)) _ false round stop h
theorem valsI (V : List ByteArray) (hV : V.length ≤ 2000000) : Ev (fun k => slices_ContainsFunc_impl_arePairs_1.f k V) (!(V.all valB)) := by
 rw [← not_any]
 exact has_str V slices_IndexFunc_impl_arePairs_1.l0 (fun _ s => impl_arePairs_1.f s) (fun s => !valB s) (fun k n i => rfl) (fun x _ => Ev.now _) (by omega)
theorem pairsI (K V : List ByteArray) (hK : K.length ≤ 2000000) (hV : V.length ≤ 2000000) : Ev (fun k => impl_arePairs.f k K V) (ch (K.length ≤ 40 ∧ V.length = K.length ∧ (∀ i, i < K.length → keyB (tx K i) = true ∧ risesAt K i) ∧ V.all valB = true)) := by
 unfold impl_arePairs.f
 by_cases h1 : K.length ≤ 40
 ·refine ev_pos (by omega) ?_
  by_cases h2 : V.length = K.length
  ·refine ev_pos (by omega) (ev_bind (risingI K hK) ?_)
   by_cases h3 : ∀ i, i < K.length → keyB (tx K i) = true ∧ risesAt K i
   ·rw [ch_yes h3]
    refine ev_pos rfl (ev_bind (valsI V hV) (ev_eq (Ev.now _) ?_))
    cases h4 : V.all valB with
    | true => exact (ch_yes ⟨h1, h2, h3, rfl⟩).symm
    | false => rw [ch_no (fun h => by simp at h)]; rfl
   ·rw [ch_no h3]
    exact ev_eq (ev_neg (by simp) (Ev.now _)) (ch_no (fun h => h3 h.2.2.1)).symm
  ·exact ev_eq (ev_neg (by omega) (Ev.now _)) (ch_no (fun h => h2 h.2.1)).symm
 ·exact ev_eq (ev_neg (by omega) (Ev.now _)) (ch_no (fun h => h1 h.1)).symm
theorem goodShownI (K V C : List ByteArray) (g : Int) (hK : K.length ≤ 2000000) (hV : V.length ≤ 2000000) (hC : C.length ≤ 2000000) : Ev (fun k => impl_GoodShown.f k K V C g) (ch (pageOk K V C g)) := by
 unfold impl_GoodShown.f
 by_cases h1 : K.length ≤ 4
 ·refine ev_pos (by omega) (ev_bind (pairsI K V hK hV) ?_)
  by_cases hp : K.length ≤ 40 ∧ V.length = K.length ∧ (∀ i, i < K.length → keyB (tx K i) = true ∧ risesAt K i) ∧ V.all valB = true
  ·rw [ch_yes hp]
   refine ev_pos rfl ?_
   have fin : ∀ (h5 : C.length = 0 ∨ C.length = K.length + 1) (h6 : all4 C = true), Ev (fun k => (impl_within.f g 0 (K.length : Int)).bind fun t => some t) (ch (pageOk K V C g)) := by
    intro h5 h6
    refine ev_const (inI _ _ _) (ev_eq (Ev.now _) ?_)
    by_cases h7 : 0 ≤ g ∧ g ≤ (K.length : Int)
    ·rw [decide_eq_true h7]; exact (ch_yes ⟨h1, hp.2.1, hp.2.2.1, hp.2.2.2, h5, h6, h7⟩).symm
    ·rw [decide_eq_false h7]; exact (ch_no (fun h => h7 h.2.2.2.2.2.2)).symm
   by_cases h4 : C.length = 0
   ·refine ev_pos (by omega) (fin (Or.inl h4) ?_)
    rw [List.length_eq_zero_iff.mp h4]; rfl
   ·refine ev_neg (by omega) ?_
    rw [w64 (x := (K.length : Int) + 1) (by omega) (by omega)]
    refine ev_bind (areDigI C _ (by omega)) ?_
    by_cases h5 : (decide ((C.length : Int) = (K.length : Int) + 1) && all4 C) = true
    ·rw [h5]
     simp only [Bool.and_eq_true, decide_eq_true_eq] at h5
     exact ev_pos rfl (fin (Or.inr (by omega)) h5.2)
    ·refine ev_neg h5 (ev_eq (Ev.now _) (ch_no (fun h => h5 ?_)).symm)
     obtain ⟨_, _, _, _, h8, h9, _⟩ := h
     rw [h9, Bool.and_true]
     exact decide_eq_true (by omega)
  ·rw [ch_no hp]
   exact ev_eq (ev_neg (by simp) (Ev.now _)) (ch_no (fun h => hp ⟨by omega, h.2.1, h.2.2.1, h.2.2.2.1⟩)).symm
 ·exact ev_eq (ev_neg (by omega) (Ev.now _)) (ch_no (fun h => h1 h.1)).symm
theorem goodShownS (K V C : List ByteArray) (g : Int) (hK : K.length ≤ 2000000) (hV : V.length ≤ 2000000) (hC : C.length ≤ 2000000) : Ev (fun k => spec_GoodShown.f k K V C g) (ch (pageOk K V C g)) := by
 have endS : (∀ i, i < K.length → (i < V.length ∧ valB (tx V i) = true) ∧ keyB (tx K i) = true ∧ risesAt K i) → Ev (fun k => spec_GoodShown.l1 k C (C.length : Int) 0 K V C g) (ch (pageOk K V C g)) := by
  intro hA
  have round : ∀ (r : Bool) i, i < C.length → (tx C i).size = 4 → Ev (fun k => spec_GoodShown.l1 k C (C.length : Int) ((i + 1 : Nat) : Int) K V C g) r → Ev (fun k => spec_GoodShown.l1 k C (C.length : Int) (i : Int) K V C g) r := by
   intro r i hi hq h
   refine Ev.step (f := fun k => spec_GoodShown.l1 k C (C.length : Int) ((i + 1 : Nat) : Int) K V C g) (fun k => ?_) h
   simp only [spec_GoodShown.l1]
   rw [if_pos (by omega), if_pos (by omega), if_pos (by omega), if_pos (show ((rdOf ByteArray.empty C (i : Int)).size : Int) = 4 from by have : (rdOf ByteArray.empty C (i : Int)).size = 4 := hq; omega), w64 (x := (i : Int) + 1) (by omega) (by omega)]
   rfl
  by_cases h6 : ∀ i, i < C.length → (tx C i).size = 4
  ·have h6' : all4 C = true := (all_at C _).2 (fun i hi => decide_eq_true (h6 i hi))
   refine loop_yes C.length (fun i k => spec_GoodShown.l1 k C (C.length : Int) (i : Int) K V C g) _ _ round ?_ h6
   refine Ev.step (f := fun k => if (K.length : Int) ≤ 4 then (if (V.length : Int) = (K.length : Int) then (if (C.length : Int) = 0 then ((spec_l1In.f g 0 (K.length : Int)).bind fun t252 => (some t252)) else (if (C.length : Int) = (wrap64 ((K.length : Int) + 1)) then ((spec_l1In.f g 0 (K.length : Int)).bind fun t253 => (some t253)) else (some false))) else (some false)) else (some false)) (fun k => by simp only [spec_GoodShown.l1]; rw [if_neg (by omega)]) ?_
   by_cases h1 : K.length ≤ 4
   ·refine ev_pos (by omega) ?_
    by_cases h2 : V.length = K.length
    ·refine ev_pos (by omega) ?_
     have hv : V.all valB = true := (all_at V _).2 (fun i hi => (hA i (by omega)).1.2)
     have hk : ∀ i, i < K.length → keyB (tx K i) = true ∧ risesAt K i := fun i hi => (hA i hi).2
     have fin : ∀ (h5 : C.length = 0 ∨ C.length = K.length + 1), Ev (fun k => (spec_l1In.f g 0 (K.length : Int)).bind fun t => some t) (ch (pageOk K V C g)) := by
      intro h5
      refine ev_const (inS _ _ _) (ev_eq (Ev.now _) ?_)
      by_cases h7 : 0 ≤ g ∧ g ≤ (K.length : Int)
      ·rw [decide_eq_true h7]; exact (ch_yes ⟨h1, h2, hk, hv, h5, h6', h7⟩).symm
      ·rw [decide_eq_false h7]; exact (ch_no (fun h => h7 h.2.2.2.2.2.2)).symm
     by_cases h4 : C.length = 0
     ·exact ev_pos (by omega) (fin (Or.inl h4))
     ·refine ev_neg (by omega) ?_
      rw [w64 (x := (K.length : Int) + 1) (by omega) (by omega)]
      by_cases h5 : C.length = K.length + 1
      ·exact ev_pos (by omega) (fin (Or.inr h5))
      ·exact ev_eq (ev_neg (by omega) (Ev.now _)) (ch_no (fun h => by have := h.2.2.2.2.1; omega)).symm
    ·exact ev_eq (ev_neg (by omega) (Ev.now _)) (ch_no (fun h => h2 h.2.1)).symm
   ·exact ev_eq (ev_neg (by omega) (Ev.now _)) (ch_no (fun h => h1 h.1)).symm
  ·rw [ch_no (fun h => h6 (fun i hi => of_decide_eq_true ((all_at C _).1 h.2.2.2.2.2.1 i hi)))]
   refine loop_no C.length (fun i k => spec_GoodShown.l1 k C (C.length : Int) (i : Int) K V C g) _ false round (fun i hi hq => ?_) h6
   refine Ev.step (f := fun _ => some false) (fun k => ?_) (Ev.now _)
   simp only [spec_GoodShown.l1]
   rw [if_pos (by omega), if_pos (by omega), if_pos (by omega), if_neg (show ¬ ((rdOf ByteArray.empty C (i : Int)).size : Int) = 4 from by have : ¬ (rdOf ByteArray.empty C (i : Int)).size = 4 := hq; omega)]
 have round : ∀ (r : Bool) i, i < K.length → ((i < V.length ∧ valB (tx V i) = true) ∧ keyB (tx K i) = true ∧ risesAt K i) → Ev (fun k => spec_GoodShown.l0 k K (K.length : Int) ((i + 1 : Nat) : Int) K V C g) r → Ev (fun k => spec_GoodShown.l0 k K (K.length : Int) (i : Int) K V C g) r := by
  intro r i hi hq h
  refine Ev.step (f := fun k => spec_GoodShown.l0 k K (K.length : Int) ((i + 1 : Nat) : Int) K V C g) (fun k => ?_) h
  have hb : (keyB (tx K i) && valB (tx V i)) = true := by rw [hq.1.2, hq.2.1]; rfl
  have hi2 := hq.1.1
  simp only [spec_GoodShown.l0]
  rw [if_pos (by omega), if_pos (by omega), if_pos (by omega), if_neg (by omega), if_pos (by omega), pairS, w64 (x := (i : Int) + 1) (by omega) (by omega)]
  simp only [Option.bind_some]
  rw [if_pos hb]
  by_cases h0 : 0 < i
  ·rw [if_pos (by omega), w64 (x := (i : Int) - 1) (by omega) (by omega), if_pos (by omega), if_pos (by omega), show (i : Int) - 1 = ((i - 1 : Nat) : Int) by omega, if_pos (hq.2.2 h0)]; rfl
  ·rw [if_neg (by omega)]; rfl
 have stop : ∀ i, i < K.length → ¬ ((i < V.length ∧ valB (tx V i) = true) ∧ keyB (tx K i) = true ∧ risesAt K i) → Ev (fun k => spec_GoodShown.l0 k K (K.length : Int) (i : Int) K V C g) false := by
  intro i hi hq
  refine Ev.step (f := fun _ => some false) (fun k => ?_) (Ev.now _)
  simp only [spec_GoodShown.l0]
  rw [if_pos (by omega), if_pos (by omega), if_pos (by omega)]
  by_cases hi2 : i < V.length
  ·rw [if_neg (by omega), if_pos (by omega), pairS]
   simp only [Option.bind_some]
   by_cases hb : (keyB (tx K i) && valB (tx V i)) = true
   ·rw [if_pos hb]
    rw [Bool.and_eq_true] at hb
    have h0 : 0 < i := Classical.byContradiction fun h => hq ⟨⟨hi2, hb.2⟩, hb.1, fun h' => absurd h' h⟩
    rw [if_pos (by omega), w64 (x := (i : Int) - 1) (by omega) (by omega), if_pos (by omega), if_pos (by omega), show (i : Int) - 1 = ((i - 1 : Nat) : Int) by omega, if_neg (fun h => hq ⟨⟨hi2, hb.2⟩, hb.1, fun _ => h⟩)]
   ·rw [if_neg hb]
  ·rw [if_pos (by omega)]
 by_cases hA : ∀ i, i < K.length → (i < V.length ∧ valB (tx V i) = true) ∧ keyB (tx K i) = true ∧ risesAt K i
 ·exact loop_yes K.length (fun i k => spec_GoodShown.l0 k K (K.length : Int) (i : Int) K V C g) _ _ round (Ev.step (f := fun k => spec_GoodShown.l1 k C (C.length : Int) 0 K V C g) (fun k => by simp only [spec_GoodShown.l0]; rw [if_neg (by omega)]) (endS hA)) hA
 ·refine ev_eq (loop_no K.length (fun i k => spec_GoodShown.l0 k K (K.length : Int) (i : Int) K V C g) _ false round stop hA) (ch_no (fun h => hA (fun i hi => ?_))).symm
  obtain ⟨_, h2, h3, h4, _⟩ := h
  exact ⟨⟨by omega, (all_at V _).1 h4 i (by omega)⟩, h3 i hi⟩
theorem bytes_l1 : ∀ k x C n i, impl_Shown_bytes.l1 k x C n i = spec_l6Bytes.l1 k x C n i := by
 intro k
 induction k with
 | zero => intros; rfl
 | succ k ih => intros; simp only [impl_Shown_bytes.l1, spec_l6Bytes.l1, ih]
theorem bytes_l0 : ∀ k x K0 n i K V C g, impl_Shown_bytes.l0 k x K0 n i K V C g = spec_l6Bytes.l0 k x K0 n i K V C g := by
 intro k
 induction k with
 | zero => intros; rfl
 | succ k ih => intros; simp only [impl_Shown_bytes.l0, spec_l6Bytes.l0, ih, bytes_l1, impl_oneByte.f, Option.bind_some]
theorem bytes_eq (k : Nat) (K V C : List ByteArray) (g : Int) : impl_Shown_bytes.f k K V C g = spec_l6Bytes.f k K V C g := by
 unfold impl_Shown_bytes.f spec_l6Bytes.f impl_oneByte.f
 simp only [Option.bind_some]
 exact bytes_l0 _ _ _ _ _ _ _ _ _
theorem bytesS (K V C : List ByteArray) (g : Int) (h : pageOk K V C g) : ∃ r, Ev (fun k => spec_l6Bytes.f k K V C g) r ∧ r.size ≤ 1000 := by
 obtain ⟨h1, h2, h3, h4, h5, h6, _⟩ := h
 have hc : C.length ≤ 5 := by omega
 have kids : ∀ (d i : Nat) (x : ByteArray), i + d = C.length → x.size ≤ 500 + 4 * i → ∃ r, Ev (fun k => spec_l6Bytes.l1 k x C (C.length : Int) (i : Int)) r ∧ r.size ≤ 1000 := by
  intro d
  induction d with
  | zero =>
   intro i x hi hx
   refine ⟨x, Ev.step (f := fun _ => some x) (fun k => ?_) (Ev.now _), by omega⟩
   simp only [spec_l6Bytes.l1]; rw [if_neg (by omega)]
  | succ d ih =>
   intro i x hi hx
   have hs : (rdOf ByteArray.empty C (i : Int)).size = 4 := of_decide_eq_true ((all_at C _).1 h6 i (by omega))
   obtain ⟨r, hr, hz⟩ := ih (i + 1) (x ++ rdOf ByteArray.empty C (i : Int)) (by omega) (by rw [app_size]; omega)
   refine ⟨r, Ev.step (f := fun k => spec_l6Bytes.l1 k (x ++ rdOf ByteArray.empty C (i : Int)) C (C.length : Int) ((i + 1 : Nat) : Int)) (fun k => ?_) hr, hz⟩
   simp only [spec_l6Bytes.l1]
   rw [if_pos (by omega), if_pos (by omega), if_pos (by omega), if_pos (by omega), w64 (x := (i : Int) + 1) (by omega) (by omega)]
   rfl
 have e1 : ∀ n : Int, (strOfNums [n % 256]).size = 1 := fun n => by rw [strOfNums_size]; rfl
 have pairs : ∀ (d i : Nat) (x : ByteArray), i + d = K.length → x.size ≤ 1 + 40 * i → ∃ r, Ev (fun k => spec_l6Bytes.l0 k x K (K.length : Int) (i : Int) K V C g) r ∧ r.size ≤ 1000 := by
  intro d
  induction d with
  | zero =>
   intro i x hi hx
   obtain ⟨r, hr, hz⟩ := kids C.length 0 (x ++ strOfNums [(C.length : Int) % 256]) (by omega) (by rw [app_size, e1]; omega)
   refine ⟨r, Ev.step (f := fun k => spec_l6Bytes.l1 k (x ++ strOfNums [(C.length : Int) % 256]) C (C.length : Int) ((0 : Nat) : Int)) (fun k => ?_) hr, hz⟩
   simp only [spec_l6Bytes.l0, Option.bind_some]
   rw [if_neg (by omega), if_pos (by rw [e1]; omega)]
   rfl
  | succ d ih =>
   intro i x hi hx
   have ks := of_decide_eq_true (h3 i (by omega)).1
   have vs := of_decide_eq_true ((all_at V _).1 h4 i (by omega))
   have ks' : (rdOf ByteArray.empty K (i : Int)).size ≤ 12 := by
    have : ((rdOf ByteArray.empty K (i : Int)).size : Int) ≤ 12 := ks.2
    omega
   have vs' : (rdOf ByteArray.empty V (i : Int)).size ≤ 12 := by omega
   obtain ⟨r, hr, hz⟩ := ih (i + 1) (x ++ (strOfNums [((rdOf ByteArray.empty K (i : Int)).size : Int) % 256] ++ rdOf ByteArray.empty K (i : Int) ++ strOfNums [((rdOf ByteArray.empty V (i : Int)).size : Int) % 256] ++ rdOf ByteArray.empty V (i : Int))) (by omega) (by simp only [app_size, e1]; omega)
   refine ⟨r, Ev.step (f := fun k => spec_l6Bytes.l0 k (x ++ (strOfNums [((rdOf ByteArray.empty K (i : Int)).size : Int) % 256] ++ rdOf ByteArray.empty K (i : Int) ++ strOfNums [((rdOf ByteArray.empty V (i : Int)).size : Int) % 256] ++ rdOf ByteArray.empty V (i : Int))) K (K.length : Int) ((i + 1 : Nat) : Int) K V C g) (fun k => ?_) hr, hz⟩
   simp only [spec_l6Bytes.l0, Option.bind_some]
   rw [if_pos (by omega), if_pos (by omega), if_pos (by omega), if_pos (by rw [e1]; omega), if_pos (by omega), if_pos (by simp only [app_size, e1]; omega), if_pos (by simp only [app_size, e1]; omega), if_pos (by simp only [app_size, e1]; omega), w64 (x := (i : Int) + 1) (by omega) (by omega)]
   rfl
 obtain ⟨r, hr, hz⟩ := pairs K.length 0 (strOfNums [(K.length : Int) % 256]) (by omega) (by rw [e1]; omega)
 exact ⟨r, hr, hz⟩
theorem k103 : Kd_ 103 := ⟨by decide, by decide⟩
theorem szShown (K V C : List ByteArray) (g : Int) (h1 : Fit K) (h2 : Fit V) (h3 : Fit C) (R : Int) (h0 : 0 ≤ R) (hR : R ≤ 1000000000) : Ev (fun k => laws_szShown.f k K V C g R) (left R (total K + (total V + total C))) := by
 refine ev_bind (szS K h1 R h0 hR) ?_
 by_cases c1 : (total K : Int) ≤ R
 ·rw [if_pos c1]
  refine ev_neg (by omega) (ev_bind (szS V h2 (R - total K) (by omega) (by omega)) ?_)
  by_cases c2 : (total V : Int) ≤ R - total K
  ·rw [if_pos c2]
   refine ev_neg (by omega) (ev_bind (szS C h3 (R - total K - total V) (by omega) (by omega)) ?_)
   by_cases c3 : (total C : Int) ≤ R - total K - total V
   ·rw [if_pos c3]
    refine ev_neg (by omega) (ev_eq (Ev.now _) ?_)
    rw [left_yes (by omega)]; omega
   ·rw [if_neg c3]
    refine ev_pos (by omega) (ev_eq (Ev.now _) ?_)
    rw [left_no (by omega)]
  ·rw [if_neg c2]
   refine ev_pos (by omega) (ev_eq (Ev.now _) ?_)
   rw [left_no (by omega)]
 ·rw [if_neg c1]
  refine ev_pos (by omega) (ev_eq (Ev.now _) ?_)
  rw [left_no (by omega)]
theorem toShown (K V C : List ByteArray) (g : Int) (hK : K.length ≤ 2000000) (hV : V.length ≤ 2000000) (hC : C.length ≤ 2000000) : Ev (fun k => laws_toShown.f k K V C g) (K, V, C, g) :=
 ev_bind (toS K hK) (ev_bind (toS V hV) (ev_bind (toS C hC) (Ev.now _)))
theorem eqShown (K V C : List ByteArray) (g : Int) (hK : K.length ≤ 2000000) (hV : V.length ≤ 2000000) (hC : C.length ≤ 2000000) : Ev (fun k => laws_eqShown.f k K V C g K V C g) true :=
 ev_bind (eqS_yes K hK) (ev_pos rfl (ev_bind (eqS_yes V hV) (ev_pos rfl (ev_bind (eqS_yes C hC) (ev_pos rfl (ev_pos rfl (Ev.now _)))))))
end Go.Proofs.YtmfipefpmjcddaaGreatDoor.PW
end
section
namespace Go.Proofs.YtmfipefpmjcddaaGreatDoor.PX
open Go.RowKit Go.Proofs.YtmfipefpmjcddaaGreatDoorW.PrintWords Go.Proofs.YtmfipefpmjcddaaGreatDoorW.PrintLast Go.Proofs.YtmfipefpmjcddaaGreatDoorW.PrintMore Go.Proofs.YtmfipefpmjcddaaGreatDoor.PB Go.Proofs.YtmfipefpmjcddaaGreatDoor.PD Go.Proofs.YtmfipefpmjcddaaGreatDoor.PK Go.Proofs.YtmfipefpmjcddaaGreatDoor.PL Go.Proofs.YtmfipefpmjcddaaGreatDoor.PS Go.Proofs.YtmfipefpmjcddaaGreatDoor.PT Go.Proofs.YtmfipefpmjcddaaGreatDoor.PU Go.Proofs.YtmfipefpmjcddaaGreatDoor.PG Go.Proofs.YtmfipefpmjcddaaGreatDoor.PQ Go.Proofs.YtmfipefpmjcddaaGreatDoor.PW Go.Proofs.YtmfipefpmjcddaaGreatDoor.PA
set_option linter.unusedVariables false
def itemB (s : ByteArray) : Bool := decide ((s.size : Int) ≤ 60)
def blockB (a b : ByteArray) (l : List ByteArray) : Bool := decide (a.size = 4) && (decide (b.size = 4) && (decide (l.length ≤ 6) && l.all itemB))
theorem goodBlockS (a b : ByteArray) (l : List ByteArray) (hl : l.length ≤ 2000000) : Ev (fun k => spec_GoodBlock.f k a b l) (blockB a b l) := by
 have round : ∀ (r : Bool) i, i < l.length → itemB (tx l i) = true → Ev (fun k => spec_GoodBlock.l0 k l (l.length : Int) ((i + 1 : Nat) : Int) a b l) r → Ev (fun k => spec_GoodBlock.l0 k l (l.length : Int) (i : Int) a b l) r := by
  intro r i hi hq h
  have hq' : ((rdOf ByteArray.empty l (i : Int)).size : Int) ≤ 60 := of_decide_eq_true hq
  refine Ev.step (f := fun k => spec_GoodBlock.l0 k l (l.length : Int) ((i + 1 : Nat) : Int) a b l) (fun k => ?_) h
  simp only [spec_GoodBlock.l0]
  rw [if_pos (by omega), if_pos (by omega), if_pos (by omega), if_neg (by omega), w64 (x := (i : Int) + 1) (by omega) (by omega)]
  rfl
 by_cases h : ∀ i, i < l.length → itemB (tx l i) = true
 ·have ha : l.all itemB = true := (all_at l _).2 h
  refine loop_yes l.length (fun i k => spec_GoodBlock.l0 k l (l.length : Int) (i : Int) a b l) _ _ round ?_ h
  refine Ev.step (f := fun k => if (a.size : Int) = 4 then (if (b.size : Int) = 4 then (some (decide ((l.length : Int) ≤ 6))) else (some false)) else (some false)) (fun k => by simp only [spec_GoodBlock.l0]; rw [if_neg (by omega)]) ?_
  unfold blockB
  rw [ha, Bool.and_true]
  by_cases h1 : a.size = 4
  ·refine ev_pos (by omega) ?_
   rw [decide_eq_true h1, Bool.true_and]
   by_cases h2 : b.size = 4
   ·refine ev_pos (by omega) ?_
    rw [decide_eq_true h2, Bool.true_and]
    by_cases h3 : l.length ≤ 6
    ·rw [decide_eq_true h3]; exact ev_eq (Ev.now _) (decide_eq_true (by omega))
    ·rw [decide_eq_false h3]; exact ev_eq (Ev.now _) (decide_eq_false (by omega))
   ·rw [decide_eq_false h2]; exact ev_neg (by omega) (Ev.now _)
  ·rw [decide_eq_false h1]; exact ev_neg (by omega) (Ev.now _)
 ·have ha : l.all itemB = false := by
   cases e : l.all itemB with
   | false => rfl
   | true => exact absurd ((all_at l _).1 e) h
  refine ev_eq (loop_no l.length (fun i k => spec_GoodBlock.l0 k l (l.length : Int) (i : Int) a b l) _ false round (fun i hi hq => ?_) h) ?_
  ·have hq' : ¬ ((rdOf ByteArray.empty l (i : Int)).size : Int) ≤ 60 := fun h' => hq (decide_eq_true h')
   refine Ev.step (f := fun _ => some false) (fun k => ?_) (Ev.now _)
   simp only [spec_GoodBlock.l0]
   rw [if_pos (by omega), if_pos (by omega), if_pos (by omega), if_pos (by omega)]
  ·unfold blockB; rw [ha]; simp
theorem goodBlockI (a b : ByteArray) (l : List ByteArray) (hl : l.length ≤ 2000000) : Ev (fun k => impl_GoodBlock.f k a b l) (blockB a b l) := by
 unfold impl_GoodBlock.f blockB
 refine ev_const (isDigI a) ?_
 by_cases h1 : a.size = 4
 ·refine ev_pos (decide_eq_true h1) (ev_const (isDigI b) ?_)
  rw [decide_eq_true h1, Bool.true_and]
  by_cases h2 : b.size = 4
  ·refine ev_pos (decide_eq_true h2) ?_
   rw [decide_eq_true h2, Bool.true_and]
   by_cases h3 : l.length ≤ 6
   ·refine ev_pos (by omega) ?_
    rw [decide_eq_true h3, Bool.true_and]
    have e : ∀ s : ByteArray, decide ((s.size : Int) > 60) = !itemB s := by
     intro s
     unfold itemB
     by_cases hs : (s.size : Int) ≤ 60
     ·rw [decide_eq_true hs]; exact decide_eq_false (by omega)
     ·rw [decide_eq_false hs]; exact decide_eq_true (by omega)
    have hc := has_str l slices_IndexFunc_impl_GoodBlock_1.l0 (fun _ s => impl_GoodBlock_1.f s) (fun s => !itemB s) (fun k n i => rfl) (fun x _ => ev_of_eq (by unfold impl_GoodBlock_1.f; rw [e])) (by omega)
    rw [not_any] at hc
    refine ev_eq (ev_bind (f := fun _ t => some (!t)) (g := fun k => slices_ContainsFunc_impl_GoodBlock_1.f k l) hc (Ev.now _)) ?_
    rw [Bool.not_not]
   ·rw [decide_eq_false h3]; exact ev_neg (by omega) (Ev.now _)
  ·rw [decide_eq_false h2]; exact ev_neg (by simp) (Ev.now _)
 ·rw [decide_eq_false h1]; exact ev_neg (by simp) (Ev.now _)
theorem app_assoc (a b c : ByteArray) : a ++ b ++ c = a ++ (b ++ c) := ByteArray.append_assoc
theorem rowFrom_app (l : List ByteArray) : ∀ acc, rowFrom acc l = acc ++ rowM l := by
 induction l with
 | nil => intro acc; exact (ByteArray.append_empty (b := acc)).symm
 | cons s l ih =>
  intro acc
  rw [show rowFrom acc (s :: l) = rowFrom (acc ++ (one (s.size : Int) ++ s)) l from rfl, ih, show rowM (s :: l) = rowFrom (⟨#[]⟩ ++ (one (s.size : Int) ++ s)) l from rfl, ih]
  rw [show (⟨#[]⟩ : ByteArray) ++ (one (s.size : Int) ++ s) = one (s.size : Int) ++ s from ByteArray.empty_append, app_assoc]
theorem total_items (l : List ByteArray) (h : l.all itemB = true) : total l ≤ 61 * l.length := by
 induction l with
 | nil => simp [total, szL]
 | cons s l ih =>
  simp only [List.all_cons, Bool.and_eq_true] at h
  have h1 : (s.size : Int) ≤ 60 := of_decide_eq_true h.1
  have := ih h.2
  simp only [total, szL, List.length_cons] at this ⊢
  omega
def blockM (a b : ByteArray) (l : List ByteArray) : ByteArray := a ++ b ++ rowM l
theorem blockB_facts {a b : ByteArray} {l : List ByteArray} (h : blockB a b l = true) : a.size = 4 ∧ b.size = 4 ∧ l.length ≤ 6 ∧ total l ≤ 366 := by
 unfold blockB at h
 simp only [Bool.and_eq_true, decide_eq_true_eq] at h
 have := total_items l h.2.2.2
 exact ⟨h.1, h.2.1, h.2.2.1, by omega⟩
theorem blockM_size {a b : ByteArray} {l : List ByteArray} (h : blockB a b l = true) : (blockM a b l).size ≤ 374 := by
 obtain ⟨h1, h2, h3, h4⟩ := blockB_facts h
 unfold blockM
 rw [app_size, app_size, rowM_size]; omega
theorem bytesBS (a b : ByteArray) (l : List ByteArray) (h : blockB a b l = true) : Ev (fun k => spec_l16Bytes.f k a b l) (blockM a b l) := by
 obtain ⟨h1, h2, h3, h4⟩ := blockB_facts h
 exact ev_pos (by omega) (ev_bind (rowS l (by omega)) (ev_pos (by rw [app_size, rowM_size]; omega) (Ev.now _)))
theorem bytesBI (a b : ByteArray) (l : List ByteArray) (h : blockB a b l = true) : Ev (fun k => impl_Block_bytes.f k a b l) (blockM a b l) := by
 obtain ⟨h1, h2, h3, h4⟩ := blockB_facts h
 refine ev_pos (by omega) ?_
 have key : ∀ (d i : Nat) (acc : ByteArray), i + d = l.length → acc.size + total (l.drop i) ≤ 2000 → Ev (fun k => impl_Block_bytes.l0 k acc l (l.length : Int) (i : Int)) (rowFrom acc (l.drop i)) := by
  intro d
  induction d with
  | zero =>
   intro i acc hi _
   rw [List.drop_eq_nil_of_le (by omega)]
   refine Ev.step (f := fun _ => some acc) (fun k => ?_) (Ev.now _)
   simp only [impl_Block_bytes.l0]; rw [if_neg (by omega)]
  | succ d ih =>
   intro i acc hi ha
   have hlt : i < l.length := by omega
   rw [List.drop_eq_getElem_cons hlt] at ha ⊢
   have e : total (l[i] :: l.drop (i + 1)) = 1 + l[i].size + total (l.drop (i + 1)) := by simp only [total, szL, List.length_cons]; omega
   rw [e] at ha
   refine Ev.step (f := fun k => impl_Block_bytes.l0 k (acc ++ (one (l[i].size : Int) ++ l[i])) l (l.length : Int) ((i + 1 : Nat) : Int)) (fun k => ?_) ?_
   ·simp only [impl_Block_bytes.l0]
    rw [if_pos (by omega), if_pos (by omega), if_pos (by omega), rdOf_at _ _ _ hlt, oneI, w64 (x := (i : Int) + 1) (by omega) (by omega)]
    simp only [Option.bind_some]
    rw [if_pos (by rw [one_size]; omega), if_pos (by rw [app_size, one_size]; omega)]
    rfl
   ·exact ih (i + 1) _ (by omega) (by rw [app_size, app_size, one_size]; omega)
 have := key l.length 0 (a ++ b) (by omega) (by rw [List.drop_zero, app_size]; omega)
 rw [List.drop_zero, rowFrom_app] at this
 exact this
theorem k104 : Kd_ 104 := ⟨by decide, by decide⟩
theorem digBS (a b : ByteArray) (l : List ByteArray) (h : blockB a b l = true) : Ev (fun k => spec_l16Digest.f k a b l) (dig 104 (blockM a b l)) := by
 have := blockM_size h
 exact ev_bind (bytesBS a b l h) (ev_bind (digS 104 k104 _ (by omega)) (Ev.now _))
theorem digBI (a b : ByteArray) (l : List ByteArray) (h : blockB a b l = true) : Ev (fun k => impl_Block_digest.f k a b l) (dig 104 (blockM a b l)) := by
 have := blockM_size h
 exact ev_bind (bytesBI a b l h) (ev_bind (digI 104 k104 _ (by omega)) (Ev.now _))
theorem szBlock (a b : ByteArray) (l : List ByteArray) (ha : a.size ≤ 9223372036854775807) (hb : b.size ≤ 9223372036854775807) (hf : Fit l) (R : Int) (h0 : 0 ≤ R) (h1 : R ≤ 1000000000) :
  Ev (fun k => laws_szBlock.f k a b l R) (left R (a.size + b.size + total l)) := by
 unfold laws_szBlock.f
 rw [w64 (x := R - (a.size : Int)) (by omega) (by omega)]
 by_cases c1 : R - (a.size : Int) < 0
 ·exact ev_pos c1 (ev_eq (Ev.now _) (left_no (by omega)).symm)
 refine ev_neg c1 ?_
 rw [w64 (x := R - (a.size : Int) - (b.size : Int)) (by omega) (by omega)]
 by_cases c2 : R - (a.size : Int) - (b.size : Int) < 0
 ·exact ev_pos c2 (ev_eq (Ev.now _) (left_no (by omega)).symm)
 refine ev_neg c2 (ev_bind (szS l hf _ (by omega) (by omega)) ?_)
 by_cases c3 : (total l : Int) ≤ R - (a.size : Int) - (b.size : Int)
 ·rw [if_pos c3]
  refine ev_neg (by omega) (ev_eq (Ev.now _) ?_)
  rw [left_yes (by omega)]; omega
 ·rw [if_neg c3]
  exact ev_pos (by omega) (ev_eq (Ev.now _) (left_no (by omega)).symm)
theorem toBlock (a b : ByteArray) (l : List ByteArray) (hl : l.length ≤ 2000000) : Ev (fun k => laws_toBlock.f k a b l) (a, b, l) := ev_bind (toS l hl) (Ev.now _)
theorem eqBlock (a b : ByteArray) (l : List ByteArray) (hl : l.length ≤ 2000000) : Ev (fun k => laws_eqBlock.f k a b l a b l) true :=
 ev_pos rfl (ev_pos rfl (ev_bind (eqS_yes l hl) (ev_pos rfl (Ev.now _))))
end Go.Proofs.YtmfipefpmjcddaaGreatDoor.PX
end
section
namespace Go.Proofs.YtmfipefpmjcddaaGreatDoor.QT
open Go.RowKit Go.Proofs.YtmfipefpmjcddaaGreatDoorW.PrintWords Go.Proofs.YtmfipefpmjcddaaGreatDoorW.PrintLast Go.Proofs.YtmfipefpmjcddaaGreatDoorW.PrintMore Go.Proofs.YtmfipefpmjcddaaGreatDoor.PB Go.Proofs.YtmfipefpmjcddaaGreatDoor.PD Go.Proofs.YtmfipefpmjcddaaGreatDoor.PT Go.Proofs.YtmfipefpmjcddaaGreatDoor.PU Go.Proofs.YtmfipefpmjcddaaGreatDoor.PL Go.Proofs.YtmfipefpmjcddaaGreatDoor.PG Go.Proofs.YtmfipefpmjcddaaGreatDoor.PX Go.Proofs.YtmfipefpmjcddaaGreatDoor.PA
set_option linter.unusedVariables false
def numT (n : Int) : ByteArray := ⟨(Go.Lib.decDigits n.toNat).toArray⟩
theorem itoa (n : Int) (h : 0 ≤ n ∧ n ≤ 12) : strconv_Itoa_87.f n = some (numT n) := by
 unfold strconv_Itoa_87.f
 rw [if_pos ⟨h.1, by omega⟩]
 rfl
theorem num_low (n : Int) (h : 0 ≤ n ∧ n < 10) : Ev (fun k => spec_l1Num.f k n) (strOfNums [48 + n]) :=
 Ev.step (f := fun _ => some (strOfNums [48 + n])) (fun k => by simp only [spec_l1Num.f]; rw [if_pos h.2, w64 (x := 48 + n) (by omega) (by omega), show (48 + n) % 256 = 48 + n by omega]) (Ev.now _)
theorem num_high (n m : Int) (h : 10 ≤ n ∧ n ≤ 12) (e1 : Int.tdiv n 10 = 1) (e2 : Int.tmod n 10 = m) (hm : 0 ≤ m ∧ m < 10) : Ev (fun k => spec_l1Num.f k n) (strOfNums [48 + 1] ++ strOfNums [48 + m]) := by
 refine Ev.step (f := fun k => (spec_l1Num.f k 1).bind fun t => if t.size + (strOfNums [48 + m]).size ≤ 9223372036854775807 then some (t ++ strOfNums [48 + m]) else none) (fun k => ?_) (ev_bind (num_low 1 (by omega)) (ev_pos (by rw [strOfNums_size, strOfNums_size]; simp only [List.length_cons, List.length_nil]; omega) (Ev.now _)))
 simp only [spec_l1Num.f]
 rw [if_neg (by omega), e1, e2, w64 (x := (1 : Int)) (by omega) (by omega), w64 (x := 48 + m) (by omega) (by omega), show (48 + m) % 256 = 48 + m by omega]
 rfl
theorem numT_low (i : Nat) (h : i < 10) : strOfNums [48 + (i : Int)] = numT (i : Int) := by
 unfold numT strOfNums
 rw [Int.toNat_natCast, Go.Lib.decDigits_one h]
 rw [List.map_cons, List.map_nil, show ((48 : Int) + (i : Int)).toNat = 48 + i by omega]
theorem numT_high (i : Nat) (h : 10 ≤ i ∧ i ≤ 12) : strOfNums [48 + 1] ++ strOfNums [48 + ((i % 10 : Nat) : Int)] = numT (i : Int) := by
 have hc : i = 10 ∨ i = 11 ∨ i = 12 := by omega
 unfold numT
 rw [Int.toNat_natCast, Go.Lib.decDigits_two (by omega) (by omega)]
 rcases hc with rfl | rfl | rfl <;> rfl
theorem num12 (n : Int) (h : 0 ≤ n ∧ n ≤ 12) : Ev (fun k => spec_l1Num.f k n) (numT n) := by
 obtain ⟨i, rfl⟩ := Int.eq_ofNat_of_zero_le h.1
 by_cases h10 : i < 10
 ·exact ev_eq (num_low (i : Int) (by omega)) (numT_low i h10)
 ·have hc : i = 10 ∨ i = 11 ∨ i = 12 := by omega
  refine ev_eq (num_high (i : Int) ((i % 10 : Nat) : Int) (by omega) ?_ ?_ (by omega)) (numT_high i (by omega))
  ·rcases hc with rfl | rfl | rfl <;> decide
  ·rcases hc with rfl | rfl | rfl <;> decide
theorem num_size (n : Int) (h : 0 ≤ n ∧ n ≤ 12) : (numT n).size ≤ 2 := by
 obtain ⟨i, rfl⟩ := Int.eq_ofNat_of_zero_le h.1
 by_cases h10 : i < 10
 ·rw [← numT_low i h10, strOfNums_size]; simp
 ·rw [← numT_high i (by omega), ByteArray.size_append, strOfNums_size, strOfNums_size]; simp
def sealedM (n : Int) (a b : ByteArray) (l : List ByteArray) : ByteArray × Bool :=
 if (0 ≤ n ∧ n ≤ 12) ∧ blockB a b l = true then (numT n ++ ⟨#[58]⟩ ++ dig 104 (blockM a b l), true) else (⟨#[]⟩, false)
theorem sealedS (n : Int) (a b : ByteArray) (l : List ByteArray) (hl : l.length ≤ 2000000) : Ev (fun k => spec_SealedText.f k n a b l) (sealedM n a b l) := by
 have no : Ev (fun k => spec_SealedText.j0 k n true a b l) (⟨#[]⟩, false) := Ev.step (f := fun _ => some (⟨#[]⟩, false)) (fun k => by simp only [spec_SealedText.j0]; rw [if_pos trivial]) (Ev.now _)
 unfold sealedM
 by_cases h : 0 ≤ n ∧ n ≤ 12
 ·refine ev_const (inS n 0 12) (ev_pos (decide_eq_true h) (ev_bind (goodBlockS a b l hl) ?_))
  cases hb : blockB a b l with
  | false => rw [if_neg (fun e => by cases e.2)]; exact no
  | true =>
   rw [if_pos ⟨h, rfl⟩]
   have hz := num_size n h
   refine Ev.step (f := fun k => _) (fun k => by simp only [Bool.not_true, spec_SealedText.j0]; rfl) ?_
   exact ev_neg (by simp) (ev_bind (num12 n h) (ev_pos (by omega) (ev_bind (digBS a b l hb) (ev_pos (by rw [ByteArray.size_append, dig_size, show (⟨#[58]⟩ : ByteArray).size = 1 from rfl]; omega) (Ev.now _)))))
 ·refine ev_const (inS n 0 12) (ev_neg (by simp [h]) ?_)
  rw [if_neg (fun e => h e.1)]
  exact no
theorem sealedI (n : Int) (a b : ByteArray) (l : List ByteArray) (hl : l.length ≤ 2000000) : Ev (fun k => impl_SealedText.f k n a b l) (sealedM n a b l) := by
 unfold sealedM
 by_cases h : 0 ≤ n ∧ n ≤ 12
 ·refine ev_const (inI n 0 12) (ev_pos (decide_eq_true h) (ev_bind (goodBlockI a b l hl) ?_))
  cases hb : blockB a b l with
  | false => rw [if_neg (fun e => by cases e.2)]; exact ev_neg (by simp) (Ev.now _)
  | true =>
   rw [if_pos ⟨h, rfl⟩]
   have hz := num_size n h
   exact ev_pos rfl (ev_bind (ev_const (itoa n h) (ev_pos (by omega) (ev_bind (digBI a b l hb) (ev_pos (by rw [ByteArray.size_append, dig_size, show (⟨#[58]⟩ : ByteArray).size = 1 from rfl]; omega) (Ev.now _))))) (Ev.now _))
 ·rw [if_neg (fun e => h e.1)]
  exact ev_const (inI n 0 12) (ev_neg (by simp [h]) (Ev.now _))
end Go.Proofs.YtmfipefpmjcddaaGreatDoor.QT
end
