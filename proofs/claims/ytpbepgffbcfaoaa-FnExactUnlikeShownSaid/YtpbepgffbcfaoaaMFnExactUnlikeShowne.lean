/- For the law FnExactUnlikeShown (laid by merge.py). -/
import Derived.Test.YtpbepgffbcfaoaaMFnExactUnlikeShownd
section
namespace Go.Proofs.Ytpbepgffbcfaoaa.PA
open Go.RowKit Go.Proofs.YtpbepgffbcfaoaaW.PrintWords Go.Proofs.YtpbepgffbcfaoaaW.PrintLast Go.Proofs.YtpbepgffbcfaoaaW.PrintMore
attribute [local go_sem] max2_int min2_int max_two min_two max_three min_three max_four min_four
set_option linter.unusedVariables false
set_option linter.unusedSimpArgs false
set_option maxHeartbeats 60000000
set_option maxRecDepth 100000
def laws_eqStringS.l0 : Nat → List ByteArray → List ByteArray → Int → Option (Bool)
 | 0, _, _, _ => none
 | k + 1, x0, x1, x5 => if x5 < (x0.length : Int) then (if 0 ≤ x5 then (if x5 < (x1.length : Int) then (if (rdOf ByteArray.empty x0 x5).toList = (rdOf ByteArray.empty x1 x5).toList then (laws_eqStringS.l0 k x0 x1 (wrap64 (x5 + 1))) else (some false)) else (none)) else (none)) else (some true)
def laws_eqStringS.f (k : Nat) (l0 : List ByteArray) (l1 : List ByteArray) : Option (Bool) := if (l0.length : Int) = (l1.length : Int) then (laws_eqStringS.l0 k l0 l1 0) else (some false)
theorem laws_eqStringS.calls (k : Nat) (A0 : Option Addr) (c0 : Nat) (l0 : List ByteArray) (A1 : Option Addr) (c1 : Nat) (l1 : List ByteArray) (r : Bool) (w : World) (hr0 : Kd.C Kd.string w A0 l0.length l0) (hc0 : l0.length ≤ c0) (hr1 : Kd.C Kd.string w A1 l1.length l1) (hc1 : l1.length ≤ c1) (h : laws_eqStringS.f k l0 l1 = some r) (hr_ : Aside0 (r = true)) :
  Calls Try.prog 12 #[.slice A0 l0.length c0, .slice A1 l1.length c1] w fun e w' => e = .returned (.bool r) ∧ Drawn0 w w' := by
 have HR0 := zA hr0; have HC0 := zA hc0; clear hr0 hc0; have HR1 := zA hr1; have HC1 := zA hc1; clear hr1 hc1; have H : (if (l0.length : Int) = (l1.length : Int) then (laws_eqStringS.l0 k l0 l1 0) else (some false)) = some r := h; clear h
 by_cases c3 : (l0.length : Int) = (l1.length : Int)
 ·rw [if_pos c3] at H
  have c3b0 : ((l0.length : Int) == (l1.length : Int)) = true := beq_iff_eq.mpr c3; have c3b1 : ((l0.length : Int) != (l1.length : Int)) = false := bne_eq_false_iff_eq.mpr c3; have c3b2 : (l0.length == l1.length) = true := by first | simpa using c3 | (simp at c3 ⊢; omega)
  clear c3; have H' := zA H; clear H; go_enter Try.func12, Try.ntmps12; go_wp2
  repeat (go_quiet (fail); try go_wp2)
  go_loopg [5] k (fun kq v5 w' => ∃ (x5_1 : Int), v5 = .int .i64 x5_1 ∧ Aside0 (laws_eqStringS.l0 kq l0 l1 x5_1 = some r) ∧ Aside0 (kq ≤ k) ∧ Drawn0 w w')
  case atStart => exact ⟨(0), (by first | rfl | (simp; done) | (simp [*]; done) | (simp [bne]; done)), H', ⟨Nat.le_refl _⟩, by repeat (first | exact Drawn0.refl _ | apply Drawn0.step)⟩
  case round =>
   clear H'
   try clear c1
   try clear p2
   try clear c3
   try clear c3b0
   try clear c3b1
   try clear c3b2
   obtain ⟨x5_1, rfl, HA, HK1, ⟨m1, rfl⟩⟩ := hrel
   cases gk with
   | zero => exact absurd HA.out (by simp [laws_eqStringS.l0])
   | succ k1 =>
    have H := HA.out; clear HA; simp only [laws_eqStringS.l0] at H
    by_cases c4 : x5_1 < (l0.length : Int)
    ·rw [if_pos c4] at H
     have c4b0 : decide (x5_1 < (l0.length : Int)) = true := zX c4; clear c4
     by_cases c5 : 0 ≤ x5_1
     ·rw [if_pos c5] at H
      have c5b0 : decide (0 ≤ x5_1) = true := zX c5; clear c5
      by_cases c6 : x5_1 < (l1.length : Int)
      ·rw [if_pos c6] at H
       have c6b0 : decide (x5_1 < (l1.length : Int)) = true := zX c6; clear c6
       by_cases c7 : (rdOf ByteArray.empty l0 x5_1).toList = (rdOf ByteArray.empty l1 x5_1).toList
       ·rw [if_pos c7] at H
        have c7b0 : ((rdOf ByteArray.empty l0 x5_1).toList == (rdOf ByteArray.empty l1 x5_1).toList) = true := beq_iff_eq.mpr c7; have c7b1 : ((rdOf ByteArray.empty l0 x5_1).toList != (rdOf ByteArray.empty l1 x5_1).toList) = false := bne_eq_false_iff_eq.mpr c7; clear c7; have H' := zA H; clear H; have p10 : 0 ≤ (x5_1 : Int) := zW (by first | (with_reducible assumption) | assumption); have q10 : x5_1 < (l0.length : Int) := zW (by first | (with_reducible assumption) | assumption); obtain ⟨ad10, e10, hx10_0⟩ := Kd.at_string HR0.out x5_1 p10 q10
        cases e10
        replace p10 := eq_true p10; replace q10 := eq_true q10; have p11 : 0 ≤ (x5_1 : Int) := zW (by first | (with_reducible assumption) | assumption); have q11 : x5_1 < (l1.length : Int) := zW (by first | (with_reducible assumption) | assumption); obtain ⟨ad11, e11, hx11_0⟩ := Kd.at_string HR1.out x5_1 p11 q11
        cases e11
        replace p11 := eq_true p11; replace q11 := eq_true q11; go_wp2
        repeat (go_quiet (fail); try go_wp2)
        go_roundg k1
        case measure => have := HK1.out; omega
        case rel => exact ⟨(wrap64 (x5_1 + 1)), (by first | rfl | (simp; done) | (simp [*]; done) | (simp [bne]; done)), H', ⟨by have := HK1.out; omega⟩, by repeat (first | exact Drawn0.refl _ | apply Drawn0.step)⟩
       ·rw [if_neg c7] at H
        have c7b0 : ((rdOf ByteArray.empty l0 x5_1).toList == (rdOf ByteArray.empty l1 x5_1).toList) = false := beq_eq_false_iff_ne.mpr c7; have c7b1 : ((rdOf ByteArray.empty l0 x5_1).toList != (rdOf ByteArray.empty l1 x5_1).toList) = true := bne_iff_ne.mpr c7; exact absurd ((yM H).trans hr_.out) (by decide)
      ·rw [if_neg c6] at H
       exact absurd H (by simp)
     ·rw [if_neg c5] at H
      exact absurd H (by simp)
    ·rw [if_neg c4] at H
     have c4b0 : decide (x5_1 < (l0.length : Int)) = false := decide_eq_false c4; clear c4; obtain rfl := yM H; go_wp2
     repeat (go_quiet (fail); try go_wp2)
     go_ret; exact ⟨by first | rfl | (simp; done) | (simp [*]; done) | (simp [bne]; done), by repeat (first | exact Drawn0.refl _ | apply Drawn0.step)⟩
 ·rw [if_neg c3] at H
  have c3b0 : ((l0.length : Int) == (l1.length : Int)) = false := beq_eq_false_iff_ne.mpr c3; have c3b1 : ((l0.length : Int) != (l1.length : Int)) = true := bne_iff_ne.mpr c3; have c3b2 : (l0.length == l1.length) = false := by first | simpa using c3 | (simp at c3 ⊢; omega)
  exact absurd ((yM H).trans hr_.out) (by decide)
def laws_eqShown.f (k : Nat) (l0_0 : List ByteArray) (l0_1 : List ByteArray) (l0_2 : List ByteArray) (a0_3 : Int) (l1_0 : List ByteArray) (l1_1 : List ByteArray) (l1_2 : List ByteArray) (a1_3 : Int) : Option (Bool) := (laws_eqStringS.f k l0_0 l1_0).bind fun t10 => (if t10 = true then ((laws_eqStringS.f k l0_1 l1_1).bind fun t11 => (if t11 = true then ((laws_eqStringS.f k l0_2 l1_2).bind fun t12 => (if t12 = true then (if a0_3 = a1_3 then (some true) else (some false)) else (some false))) else (some false))) else (some false))
theorem laws_eqShown.calls (k : Nat) (A0_0 : Option Addr) (c0_0 : Nat) (l0_0 : List ByteArray) (A0_1 : Option Addr) (c0_1 : Nat) (l0_1 : List ByteArray) (A0_2 : Option Addr) (c0_2 : Nat) (l0_2 : List ByteArray) (a0_3 : Int) (A1_0 : Option Addr) (c1_0 : Nat) (l1_0 : List ByteArray) (A1_1 : Option Addr) (c1_1 : Nat) (l1_1 : List ByteArray) (A1_2 : Option Addr) (c1_2 : Nat) (l1_2 : List ByteArray) (a1_3 : Int) (r : Bool) (w : World) (hr0_0 : Kd.C Kd.string w A0_0 l0_0.length l0_0) (hc0_0 : l0_0.length ≤ c0_0) (hr0_1 : Kd.C Kd.string w A0_1 l0_1.length l0_1) (hc0_1 : l0_1.length ≤ c0_1) (hr0_2 : Kd.C Kd.string w A0_2 l0_2.length l0_2) (hc0_2 : l0_2.length ≤ c0_2) (hr1_0 : Kd.C Kd.string w A1_0 l1_0.length l1_0) (hc1_0 : l1_0.length ≤ c1_0) (hr1_1 : Kd.C Kd.string w A1_1 l1_1.length l1_1) (hc1_1 : l1_1.length ≤ c1_1) (hr1_2 : Kd.C Kd.string w A1_2 l1_2.length l1_2) (hc1_2 : l1_2.length ≤ c1_2) (h : laws_eqShown.f k l0_0 l0_1 l0_2 a0_3 l1_0 l1_1 l1_2 a1_3 = some r) (hr_ : Aside0 (r = true)) :
  Calls Try.prog 20 #[.agg #[.slice A0_0 l0_0.length c0_0, .slice A0_1 l0_1.length c0_1, .slice A0_2 l0_2.length c0_2, .int .i64 a0_3], .agg #[.slice A1_0 l1_0.length c1_0, .slice A1_1 l1_1.length c1_1, .slice A1_2 l1_2.length c1_2, .int .i64 a1_3]] w fun e w' => e = .returned (.bool r) ∧ Below w.heap.size w w' := by
 have hu38 := Try.underlying38; have HR0_0 := zA hr0_0; have HC0_0 := zA hc0_0; clear hr0_0 hc0_0; have HR0_1 := zA hr0_1; have HC0_1 := zA hc0_1; clear hr0_1 hc0_1; have HR0_2 := zA hr0_2; have HC0_2 := zA hc0_2; clear hr0_2 hc0_2; have HR1_0 := zA hr1_0; have HC1_0 := zA hc1_0; clear hr1_0 hc1_0; have HR1_1 := zA hr1_1; have HC1_1 := zA hc1_1; clear hr1_1 hc1_1; have HR1_2 := zA hr1_2; have HC1_2 := zA hc1_2; clear hr1_2 hc1_2; have HB := zA (Below.refl w.heap.size w); have H : ((laws_eqStringS.f k l0_0 l1_0).bind fun t15 => (if t15 = true then ((laws_eqStringS.f k l0_1 l1_1).bind fun t16 => (if t16 = true then ((laws_eqStringS.f k l0_2 l1_2).bind fun t17 => (if t17 = true then (if a0_3 = a1_3 then (some true) else (some false)) else (some false))) else (some false))) else (some false))) = some r := h; clear h; replace H := zAF H; obtain ⟨t15, A30, H⟩ := H; replace H : (if t15 = true then ((laws_eqStringS.f k l0_1 l1_1).bind fun t16 => (if t16 = true then ((laws_eqStringS.f k l0_2 l1_2).bind fun t17 => (if t17 = true then (if a0_3 = a1_3 then (some true) else (some false)) else (some false))) else (some false))) else (some false)) = some r := H; have A3 := zA A30; clear A30
 by_cases c4 : t15 = true
 ·subst c4
  have H1 : ((laws_eqStringS.f k l0_1 l1_1).bind fun t16 => (if t16 = true then ((laws_eqStringS.f k l0_2 l1_2).bind fun t17 => (if t17 = true then (if a0_3 = a1_3 then (some true) else (some false)) else (some false))) else (some false))) = some r := by rw [if_pos rfl] at H; exact H
  clear H; have H := H1; clear H1; replace H := zAF H; obtain ⟨t16, A50, H⟩ := H; replace H : (if t16 = true then ((laws_eqStringS.f k l0_2 l1_2).bind fun t17 => (if t17 = true then (if a0_3 = a1_3 then (some true) else (some false)) else (some false))) else (some false)) = some r := H; have A5 := zA A50; clear A50
  by_cases c6 : t16 = true
  ·subst c6
   have H1 : ((laws_eqStringS.f k l0_2 l1_2).bind fun t17 => (if t17 = true then (if a0_3 = a1_3 then (some true) else (some false)) else (some false))) = some r := by rw [if_pos rfl] at H; exact H
   clear H; have H := H1; clear H1; replace H := zAF H; obtain ⟨t17, A70, H⟩ := H; replace H : (if t17 = true then (if a0_3 = a1_3 then (some true) else (some false)) else (some false)) = some r := H; have A7 := zA A70; clear A70
   by_cases c8 : t17 = true
   ·subst c8
    have H1 : (if a0_3 = a1_3 then (some true) else (some false)) = some r := by rw [if_pos rfl] at H; exact H
    clear H; have H := H1; clear H1
    by_cases c9 : a0_3 = a1_3
    ·rw [if_pos c9] at H
     have c9b0 : (a0_3 == a1_3) = true := beq_iff_eq.mpr c9; have c9b1 : (a0_3 != a1_3) = false := bne_eq_false_iff_eq.mpr c9; clear c9; obtain rfl := yM H; go_enter Try.func20, Try.ntmps20; go_wp2_with (first | ((with_reducible refine gate_dst (N := 2) rfl ?_); refine box_event ?hg (N := 2) ?hd (cs := #[.slice A0_0 l0_0.length c0_0, .slice A0_1 l0_1.length c0_1, .slice A0_2 l0_2.length c0_2, .int .i64 a0_3]) (t := 38) ?hr ?_; (case hd => rfl); (case hg => rfl); (case hr => first | (go_simp; done) | (go_simp; rfl)); intro gb18 hg w10 hbox hb; have n0_ := zA (zAD (by (with_reducible repeat first | exact HB.out | apply zH | apply zF | apply zG) <;> exact HB.out) hb); have n1_ := zA (hbox); have n2_ := zA ((by rw [hg]; exact (zAE (by (with_reducible repeat first | exact HB.out | apply zH | apply zF | apply zG) <;> exact HB.out)) : w.heap.size ≤ gb18)); have n3_ := zA ((by rw [hg]; exact (zAE (by (with_reducible repeat first | exact HB.out | apply zH | apply zF | apply zG) <;> exact HB.out)) : w.heap.size ≤ gb18)); clear HB; have HB := n0_; have BK18 := n1_; have GW18 := n2_; have GE18 := n3_; clear n0_ n1_ n2_ n3_; clear hb hbox hg) | ((with_reducible refine gate_dst (N := 3) rfl ?_); refine box_event ?hg (N := 3) ?hd (cs := #[.slice A1_0 l1_0.length c1_0, .slice A1_1 l1_1.length c1_1, .slice A1_2 l1_2.length c1_2, .int .i64 a1_3]) (t := 38) ?hr ?_; (case hd => rfl); (case hg => rfl); (case hr => first | (go_simp; done) | (go_simp; rfl)); intro gb19 hg w11 hbox hb; have n0_ := zA (yE (g := gb18) (o := .cells #[.slice A0_0 l0_0.length c0_0, .slice A0_1 l0_1.length c0_1, .slice A0_2 l0_2.length c0_2, .int .i64 a0_3] 38 (0, 0)) (by (with_reducible repeat (first | refine zL ?_ _ | refine zN ?_ | refine zM ?_ _)); exact BK18.out) hb); have n1_ := zA (zAD (by repeat (first | (with_reducible first | exact HB.out | apply zH | apply zF | apply zG | refine zI ?_ GE18.out) | exact HB.out)) hb); have n2_ := zA (hbox); have n3_ := zA ((by rw [hg]; exact (zAE (by repeat (first | (with_reducible first | exact HB.out | apply zH | apply zF | apply zG | refine zI ?_ GE18.out) | exact HB.out))) : w.heap.size ≤ gb19)); have n4_ := zA ((by rw [hg]; exact (zAE (by repeat (first | (with_reducible first | exact HB.out | apply zH | apply zF | apply zG | refine zI ?_ GE18.out) | exact HB.out))) : w.heap.size ≤ gb19)); have n5_ := zA ((by rw [hg]; exact zK (blk_lt (g := gb18) (o := .cells #[.slice A0_0 l0_0.length c0_0, .slice A0_1 l0_1.length c0_1, .slice A0_2 l0_2.length c0_2, .int .i64 a0_3] 38 (0, 0)) (by (with_reducible repeat (first | refine zL ?_ _ | refine zN ?_ | refine zM ?_ _)); exact BK18.out)) : gb18 ≠ gb19)); have n6_ := zA ((by rw [hg]; exact Nat.ne_of_gt (blk_lt (g := gb18) (o := .cells #[.slice A0_0 l0_0.length c0_0, .slice A0_1 l0_1.length c0_1, .slice A0_2 l0_2.length c0_2, .int .i64 a0_3] 38 (0, 0)) (by (with_reducible repeat (first | refine zL ?_ _ | refine zN ?_ | refine zM ?_ _)); exact BK18.out)) : gb19 ≠ gb18)); clear BK18; clear HB; have BK18 := n0_; have HB := n1_; have BK19 := n2_; have GW19 := n3_; have GE19 := n4_; have NB18_19 := n5_; have NB19_18 := n6_; clear n0_ n1_ n2_ n3_ n4_ n5_ n6_; clear hb hbox hg; have hnb12 := NB18_19.out; have hnc12 := NB19_18.out; have hcz13_0 := yL BK18.out 0 (.slice A0_0 l0_0.length c0_0) rfl; have hcz13_1 := yL BK18.out 1 (.slice A0_1 l0_1.length c0_1) rfl; have hcz13_2 := yL BK18.out 2 (.slice A0_2 l0_2.length c0_2) rfl; have hcz13_3 := yL BK18.out 3 (.int .i64 a0_3) rfl; have hfz13_0 := zO BK18.out 0; have hfz13_1 := zO BK18.out 1; have hfz13_2 := zO BK18.out 2; have hfz13_3 := zO BK18.out 3; have hcz14_0 := yL BK19.out 0 (.slice A1_0 l1_0.length c1_0) rfl; have hcz14_1 := yL BK19.out 1 (.slice A1_1 l1_1.length c1_1) rfl; have hcz14_2 := yL BK19.out 2 (.slice A1_2 l1_2.length c1_2) rfl; have hcz14_3 := yL BK19.out 3 (.int .i64 a1_3) rfl; have hfz14_0 := zO BK19.out 0; have hfz14_1 := zO BK19.out 1; have hfz14_2 := zO BK19.out 2; have hfz14_3 := zO BK19.out 3) | ((with_reducible refine yB (f := 12) rfl ?_); refine goesL_ (some 9) rfl rfl Try.func12 (by kernel_rfl) rfl #[.slice A0_0 l0_0.length c0_0, .slice A1_0 l1_0.length c1_0] rfl (by (try simp only [zAA, zAB, zAC]); first | done | rfl | (simp only [zZ, zY]; rfl)) ?_; (with_reducible refine (laws_eqStringS.calls k _ _ l0_0 _ _ l1_0 true _ ?side1 ?side2 ?side3 ?side4 A3.out ⟨rfl⟩).mono ?_); (case side1 => repeat (first | exact (yN HR0_0.out HB.out) | (with_reducible first | refine zT ?_ _ | refine zU ?_ _ | refine zV ?_))); (case side2 => exact HC0_0.out); (case side3 => repeat (first | exact (yN HR1_0.out HB.out) | (with_reducible first | refine zT ?_ _ | refine zU ?_ _ | refine zV ?_))); (case side4 => exact HC1_0.out); rintro e w' ⟨rfl, ⟨nd, rfl⟩⟩; refine ⟨_, rfl, ?_⟩) | ((with_reducible refine yB (f := 12) rfl ?_); refine goesL_ (some 15) rfl rfl Try.func12 (by kernel_rfl) rfl #[.slice A0_1 l0_1.length c0_1, .slice A1_1 l1_1.length c1_1] rfl (by (try simp only [zAA, zAB, zAC]); first | done | rfl | (simp only [zZ, zY]; rfl)) ?_; (with_reducible refine (laws_eqStringS.calls k _ _ l0_1 _ _ l1_1 true _ ?side1 ?side2 ?side3 ?side4 A5.out ⟨rfl⟩).mono ?_); (case side1 => repeat (first | exact (yN HR0_1.out (by repeat (first | (with_reducible first | exact HB.out | apply zH | apply zF | apply zG | refine zI ?_ GE18.out | refine zI ?_ GE19.out) | exact HB.out))) | (with_reducible first | refine zT ?_ _ | refine zU ?_ _ | refine zV ?_))); (case side2 => exact HC0_1.out); (case side3 => repeat (first | exact (yN HR1_1.out (by repeat (first | (with_reducible first | exact HB.out | apply zH | apply zF | apply zG | refine zI ?_ GE18.out | refine zI ?_ GE19.out) | exact HB.out))) | (with_reducible first | refine zT ?_ _ | refine zU ?_ _ | refine zV ?_))); (case side4 => exact HC1_1.out); rintro e w' ⟨rfl, ⟨nd, rfl⟩⟩; refine ⟨_, rfl, ?_⟩) | ((with_reducible refine yB (f := 12) rfl ?_); refine goesL_ (some 21) rfl rfl Try.func12 (by kernel_rfl) rfl #[.slice A0_2 l0_2.length c0_2, .slice A1_2 l1_2.length c1_2] rfl (by (try simp only [zAA, zAB, zAC]); first | done | rfl | (simp only [zZ, zY]; rfl)) ?_; (with_reducible refine (laws_eqStringS.calls k _ _ l0_2 _ _ l1_2 true _ ?side1 ?side2 ?side3 ?side4 A7.out ⟨rfl⟩).mono ?_); (case side1 => repeat (first | exact (yN HR0_2.out (by repeat (first | (with_reducible first | exact HB.out | apply zH | apply zF | apply zG | refine zI ?_ GE18.out | refine zI ?_ GE19.out) | exact HB.out))) | (with_reducible first | refine zT ?_ _ | refine zU ?_ _ | refine zV ?_))); (case side2 => exact HC0_2.out); (case side3 => repeat (first | exact (yN HR1_2.out (by repeat (first | (with_reducible first | exact HB.out | apply zH | apply zF | apply zG | refine zI ?_ GE18.out | refine zI ?_ GE19.out) | exact HB.out))) | (with_reducible first | refine zT ?_ _ | refine zU ?_ _ | refine zV ?_))); (case side4 => exact HC1_2.out); rintro e w' ⟨rfl, ⟨nd, rfl⟩⟩; refine ⟨_, rfl, ?_⟩))
     go_ret; exact ⟨by first | rfl | (simp <;> rfl) | (simp [*] <;> rfl), by repeat (first | (with_reducible first | exact HB.out | apply zH | apply zF | apply zG | refine zI ?_ GE18.out | refine zI ?_ GE19.out) | exact HB.out)⟩
    ·rw [if_neg c9] at H
     have c9b0 : (a0_3 == a1_3) = false := beq_eq_false_iff_ne.mpr c9; have c9b1 : (a0_3 != a1_3) = true := bne_iff_ne.mpr c9; exact absurd ((yM H).trans hr_.out) (by decide)
   ·replace c8 := yO c8
    subst c8; have H1 : (some false) = some r := by rw [if_neg (show ¬ (false = true) by decide)] at H; exact H
    clear H; have H := H1; clear H1; exact absurd ((yM H).trans hr_.out) (by decide)
  ·replace c6 := yO c6
   subst c6; have H1 : (some false) = some r := by rw [if_neg (show ¬ (false = true) by decide)] at H; exact H
   clear H; have H := H1; clear H1; exact absurd ((yM H).trans hr_.out) (by decide)
 ·replace c4 := yO c4
  subst c4; have H1 : (some false) = some r := by rw [if_neg (show ¬ (false = true) by decide)] at H; exact H
  clear H; have H := H1; clear H1; exact absurd ((yM H).trans hr_.out) (by decide)
def laws_eqShownS.l0 : Nat → List (S38) → List (S38) → Int → Option (Bool)
 | 0, _, _, _ => none
 | k + 1, x0, x1, x5 => if x5 < (x0.length : Int) then (if 0 ≤ x5 then (if x5 < (x1.length : Int) then ((laws_eqShown.f k ((rd_T38 x0 x5).f0) ((rd_T38 x0 x5).f1) ((rd_T38 x0 x5).f2) ((rd_T38 x0 x5).f3) ((rd_T38 x1 x5).f0) ((rd_T38 x1 x5).f1) ((rd_T38 x1 x5).f2) ((rd_T38 x1 x5).f3)).bind fun t10 => (if t10 = true then (laws_eqShownS.l0 k x0 x1 (wrap64 (x5 + 1))) else (some false))) else (none)) else (none)) else (some true)
def laws_eqShownS.f (k : Nat) (l0 : List (S38)) (l1 : List (S38)) : Option (Bool) := if (l0.length : Int) = (l1.length : Int) then (laws_eqShownS.l0 k l0 l1 0) else (some false)
def laws_eqShownS.T6 : Bool × List (List Nat × List Nat) := (true, [([], []), ([], []), ([0, 1], [0, 1]), ([2], [2]), ([], []), ([], []), ([4, 5], [4, 5]), ([6], [6]), ([3, 7], [3, 7]), ([8], [8])])
def laws_eqShownS.B6 : List Nat := [0, 0, 3, 7, 0, 0, 48, 112, 255, 511]
theorem laws_eqShownS.tab6 : rtab .any (opsOf Try.f21 6) = laws_eqShownS.T6 := by kernel_rfl
theorem laws_eqShownS.bits6 : waitsOk laws_eqShownS.T6.2 laws_eqShownS.B6 = true := by kernel_rfl
theorem laws_eqShownS.calls (k : Nat) (A0 : Option Addr) (c0 : Nat) (l0 : List (S38)) (A1 : Option Addr) (c1 : Nat) (l1 : List (S38)) (r : Bool) (w : World) (hr0 : Kd.C k38 w A0 l0.length l0) (hc0 : l0.length ≤ c0) (hr1 : Kd.C k38 w A1 l1.length l1) (hc1 : l1.length ≤ c1) (h : laws_eqShownS.f k l0 l1 = some r) (hr_ : Aside0 (r = true)) :
  Calls Try.prog 21 #[.slice A0 l0.length c0, .slice A1 l1.length c1] w fun e w' => e = .returned (.bool r) ∧ Below w.heap.size w w' := by
 have hu38 := Try.underlying38; have HR0 := zA hr0; have HC0 := zA hc0; clear hr0 hc0; have HR1 := zA hr1; have HC1 := zA hc1; clear hr1 hc1; have HB := zA (Below.refl w.heap.size w); have H : (if (l0.length : Int) = (l1.length : Int) then (laws_eqShownS.l0 k l0 l1 0) else (some false)) = some r := h; clear h
 by_cases c3 : (l0.length : Int) = (l1.length : Int)
 ·rw [if_pos c3] at H
  have c3b0 : ((l0.length : Int) == (l1.length : Int)) = true := beq_iff_eq.mpr c3; have c3b1 : ((l0.length : Int) != (l1.length : Int)) = false := bne_eq_false_iff_eq.mpr c3; have c3b2 : (l0.length == l1.length) = true := by first | simpa using c3 | (simp at c3 ⊢; omega)
  clear c3; have H' := zA H; clear H; go_enter Try.func21, Try.ntmps21; go_wp2; go_loopg [5] k (fun kq v5 w' => ∃ (x5_1 : Int), v5 = .int .i64 x5_1 ∧ Aside0 (laws_eqShownS.l0 kq l0 l1 x5_1 = some r) ∧ Aside0 (kq ≤ k) ∧ Aside0 (Below w.heap.size w w'))
  case atStart => exact ⟨(0), (by first | rfl | (simp; done) | (simp [*]; done) | (simp [bne]; done)), H', ⟨Nat.le_refl _⟩, ⟨by (with_reducible repeat first | exact HB.out | apply zH | apply zF | apply zG) <;> exact HB.out⟩⟩
  case round =>
   clear H'
   try clear c1
   try clear c2
   try clear p2
   try clear c3
   try clear c3b0
   try clear c3b1
   try clear c3b2
   obtain ⟨x5_1, rfl, HA, HK1, HB⟩ := hrel
   cases gk with
   | zero => exact absurd HA.out (by simp [laws_eqShownS.l0])
   | succ k1 =>
    have H := HA.out; clear HA; simp only [laws_eqShownS.l0] at H
    by_cases c4 : x5_1 < (l0.length : Int)
    ·rw [if_pos c4] at H
     have c4b0 : decide (x5_1 < (l0.length : Int)) = true := zX c4; clear c4
     by_cases c5 : 0 ≤ x5_1
     ·rw [if_pos c5] at H
      have c5b0 : decide (0 ≤ x5_1) = true := zX c5; clear c5
      by_cases c6 : x5_1 < (l1.length : Int)
      ·rw [if_pos c6] at H
       have c6b0 : decide (x5_1 < (l1.length : Int)) = true := zX c6; clear c6; replace H := zAF H; obtain ⟨t13, A70, H⟩ := H; replace H : (if t13 = true then (laws_eqShownS.l0 k1 l0 l1 (wrap64 (x5_1 + 1))) else (some false)) = some r := H; have A7 := zA A70; clear A70
       by_cases c8 : t13 = true
       ·subst c8
        have H1 : (laws_eqShownS.l0 k1 l0 l1 (wrap64 (x5_1 + 1))) = some r := by rw [if_pos rfl] at H; exact H
        clear H; have H := H1; clear H1; have H' := zA H; clear H
        try go_wp2
        have n0_ := zA (zG HB.out); clear HB; have HB := n0_; clear n0_; have p14 : 0 ≤ (x5_1 : Int) := zW (by first | (with_reducible assumption) | assumption); have q14 : x5_1 < (l0.length : Int) := zW (by first | (with_reducible assumption) | assumption); obtain ⟨ad14, A14_0, c14_0, A14_1, c14_1, A14_2, c14_2, e14, hx14_0, hx14_1, hx14_2, hx14_3, hl14_0, hi14_0, hl14_1, hi14_1, hl14_2, hi14_2⟩ := at_T38 HR0.out x5_1 p14 q14; have hw14_3 := hx14_3; have hw14_2 := hx14_2; have hw14_1 := hx14_1; have hw14_0 := hx14_0
        cases e14
        replace hx14_0 := (HB.out.cell (zB w _ hx14_0)).trans hx14_0; replace hx14_1 := (HB.out.cell (zB w _ hx14_1)).trans hx14_1; replace hx14_2 := (HB.out.cell (zB w _ hx14_2)).trans hx14_2; replace hx14_3 := (HB.out.cell (zB w _ hx14_3)).trans hx14_3; have HR14_0 := zA hi14_0; have HC14_0 := zA hl14_0; clear hi14_0 hl14_0; have HR14_1 := zA hi14_1; have HC14_1 := zA hl14_1; clear hi14_1 hl14_1; have HR14_2 := zA hi14_2; have HC14_2 := zA hl14_2; clear hi14_2 hl14_2; replace p14 := eq_true p14; replace q14 := eq_true q14; have p15 : 0 ≤ (x5_1 : Int) := zW (by first | (with_reducible assumption) | assumption); have q15 : x5_1 < (l1.length : Int) := zW (by first | (with_reducible assumption) | assumption); obtain ⟨ad15, A15_0, c15_0, A15_1, c15_1, A15_2, c15_2, e15, hx15_0, hx15_1, hx15_2, hx15_3, hl15_0, hi15_0, hl15_1, hi15_1, hl15_2, hi15_2⟩ := at_T38 HR1.out x5_1 p15 q15; have hw15_3 := hx15_3; have hw15_2 := hx15_2; have hw15_1 := hx15_1; have hw15_0 := hx15_0
        cases e15
        replace hx15_0 := (HB.out.cell (zB w _ hx15_0)).trans hx15_0; replace hx15_1 := (HB.out.cell (zB w _ hx15_1)).trans hx15_1; replace hx15_2 := (HB.out.cell (zB w _ hx15_2)).trans hx15_2; replace hx15_3 := (HB.out.cell (zB w _ hx15_3)).trans hx15_3; have HR15_0 := zA hi15_0; have HC15_0 := zA hl15_0; clear hi15_0 hl15_0; have HR15_1 := zA hi15_1; have HC15_1 := zA hl15_1; clear hi15_1 hl15_1; have HR15_2 := zA hi15_2; have HC15_2 := zA hl15_2; clear hi15_2 hl15_2; replace p15 := eq_true p15; replace q15 := eq_true q15; refine start_ (n := 10) (S := fun w' => w'.cell? (ad14.add ((x5_1).toNat * 4)) = some (.slice A14_0 ((rd_T38 l0 x5_1).f0).length c14_0) ∧ w'.cell? ⟨(ad14.add ((x5_1).toNat * 4)).block, (ad14.add ((x5_1).toNat * 4)).off + 1, none⟩ = some (.slice A14_1 ((rd_T38 l0 x5_1).f1).length c14_1) ∧ w'.cell? ⟨(ad14.add ((x5_1).toNat * 4)).block, (ad14.add ((x5_1).toNat * 4)).off + 2, none⟩ = some (.slice A14_2 ((rd_T38 l0 x5_1).f2).length c14_2) ∧ w'.cell? ⟨(ad14.add ((x5_1).toNat * 4)).block, (ad14.add ((x5_1).toNat * 4)).off + 3, none⟩ = some (.int .i64 ((rd_T38 l0 x5_1).f3)) ∧ w'.cell? (ad15.add ((x5_1).toNat * 4)) = some (.slice A15_0 ((rd_T38 l1 x5_1).f0).length c15_0) ∧ w'.cell? ⟨(ad15.add ((x5_1).toNat * 4)).block, (ad15.add ((x5_1).toNat * 4)).off + 1, none⟩ = some (.slice A15_1 ((rd_T38 l1 x5_1).f1).length c15_1) ∧ w'.cell? ⟨(ad15.add ((x5_1).toNat * 4)).block, (ad15.add ((x5_1).toNat * 4)).off + 2, none⟩ = some (.slice A15_2 ((rd_T38 l1 x5_1).f2).length c15_2) ∧ w'.cell? ⟨(ad15.add ((x5_1).toNat * 4)).block, (ad15.add ((x5_1).toNat * 4)).off + 3, none⟩ = some (.int .i64 ((rd_T38 l1 x5_1).f3))) (ds := []) (bA 10 0) (by kernel_rfl) rfl rfl ⟨((HB.out.cell (zB w _ hw14_0)).trans hw14_0), ((HB.out.cell (zB w _ hw14_1)).trans hw14_1), ((HB.out.cell (zB w _ hw14_2)).trans hw14_2), ((HB.out.cell (zB w _ hw14_3)).trans hw14_3), ((HB.out.cell (zB w _ hw15_0)).trans hw15_0), ((HB.out.cell (zB w _ hw15_1)).trans hw15_1), ((HB.out.cell (zB w _ hw15_2)).trans hw15_2), ((HB.out.cell (zB w _ hw15_3)).trans hw15_3)⟩ (fun hHeld => ?_); refine with_tabW laws_eqShownS.tab6 laws_eqShownS.bits6 (fun HT_ HW_ => ?_); generalize wr.drew = w9 at HB HR14_0 HR14_1 HR14_2 HR15_0 HR15_1 HR15_2 hx14_0 hx14_1 hx14_2 hx14_3 hx15_0 hx15_1 hx15_2 hx15_3 hHeld ⊢; refine wzP 0 17 (bA 10 1) HT_ ?_
        refine wzP 1 18 (bA 10 3) HT_ ?_
        refine wzP 2 19 (bA 10 7) HT_ ?_
        refine wzP 4 21 (bA 10 23) HT_ ?_
        refine wzP 5 22 (bA 10 55) HT_ ?_
        refine wzP 6 23 (bA 10 119) HT_ ?_
        refine wzT 3 20 (bA 10 127) HT_ HW_ hHeld ?_
        refine wzT 7 24 (bA 10 255) HT_ HW_ hHeld ?_
        refine one_ (i := 8) (N := some 25) (bA 10 511) rfl rfl (one_of HT_.out (by kernel_rfl)) (by decide) (fun K hK => ?_); refine goes_ Try.func20 (by kernel_rfl) rfl #[.agg #[.slice A14_0 ((rd_T38 l0 x5_1).f0).length c14_0, .slice A14_1 ((rd_T38 l0 x5_1).f1).length c14_1, .slice A14_2 ((rd_T38 l0 x5_1).f2).length c14_2, .int .i64 ((rd_T38 l0 x5_1).f3)], .agg #[.slice A15_0 ((rd_T38 l1 x5_1).f0).length c15_0, .slice A15_1 ((rd_T38 l1 x5_1).f1).length c15_1, .slice A15_2 ((rd_T38 l1 x5_1).f2).length c15_2, .int .i64 ((rd_T38 l1 x5_1).f3)]] (by rfl) rfl rfl (by (try simp only [zAA, zAB, zAC]); first | done | rfl | (simp only [zZ, zY]; rfl)) ?_
        with_reducible refine (laws_eqShown.calls k1 _ _ ((rd_T38 l0 x5_1).f0) _ _ ((rd_T38 l0 x5_1).f1) _ _ ((rd_T38 l0 x5_1).f2) ((rd_T38 l0 x5_1).f3) _ _ ((rd_T38 l1 x5_1).f0) _ _ ((rd_T38 l1 x5_1).f1) _ _ ((rd_T38 l1 x5_1).f2) ((rd_T38 l1 x5_1).f3) true _ ?side1 ?side2 ?side3 ?side4 ?side5 ?side6 ?side7 ?side8 ?side9 ?side10 ?side11 ?side12 A7.out ⟨rfl⟩).mono ?_
        (case side1 => repeat (first | exact (yN HR14_0.out HB.out) | (with_reducible first | refine zT ?_ _ | refine zU ?_ _ | refine zV ?_))); (case side2 => exact HC14_0.out); (case side3 => repeat (first | exact (yN HR14_1.out HB.out) | (with_reducible first | refine zT ?_ _ | refine zU ?_ _ | refine zV ?_))); (case side4 => exact HC14_1.out); (case side5 => repeat (first | exact (yN HR14_2.out HB.out) | (with_reducible first | refine zT ?_ _ | refine zU ?_ _ | refine zV ?_))); (case side6 => exact HC14_2.out); (case side7 => repeat (first | exact (yN HR15_0.out HB.out) | (with_reducible first | refine zT ?_ _ | refine zU ?_ _ | refine zV ?_))); (case side8 => exact HC15_0.out); (case side9 => repeat (first | exact (yN HR15_1.out HB.out) | (with_reducible first | refine zT ?_ _ | refine zU ?_ _ | refine zV ?_))); (case side10 => exact HC15_1.out); (case side11 => repeat (first | exact (yN HR15_2.out HB.out) | (with_reducible first | refine zT ?_ _ | refine zU ?_ _ | refine zV ?_))); (case side12 => exact HC15_2.out); rintro e w10 ⟨rfl, hb⟩; refine ⟨_, rfl, ?_⟩; have n0_ := zA (zAD (by (with_reducible repeat first | exact HB.out | apply zH | apply zF | apply zG) <;> exact HB.out) hb); clear HB; have HB := n0_; clear n0_; (try clear hb); refine hK.out _ _ ⟨((HB.out.cell (zB w _ hw14_0)).trans hw14_0), ((HB.out.cell (zB w _ hw14_1)).trans hw14_1), ((HB.out.cell (zB w _ hw14_2)).trans hw14_2), ((HB.out.cell (zB w _ hw14_3)).trans hw14_3), ((HB.out.cell (zB w _ hw15_0)).trans hw15_0), ((HB.out.cell (zB w _ hw15_1)).trans hw15_1), ((HB.out.cell (zB w _ hw15_2)).trans hw15_2), ((HB.out.cell (zB w _ hw15_3)).trans hw15_3)⟩ (fun hHeld => ?_); clear hK K; refine wzN 25 ?_
        refine wzP 9 26 (bA 10 1023) HT_ ?_
        refine done_ (done_of HT_.out (by kernel_rfl)) ?_
        try go_wp2
        go_roundg k1
        case measure => have := HK1.out; omega
        case rel => exact ⟨(wrap64 (x5_1 + 1)), (by first | rfl | (simp; done) | (simp [*]; done) | (simp [bne]; done)), H', ⟨by have := HK1.out; omega⟩, ⟨by (with_reducible repeat first | exact HB.out | apply zH | apply zF | apply zG) <;> exact HB.out⟩⟩
       ·replace c8 := yO c8
        subst c8; have H1 : (some false) = some r := by rw [if_neg (show ¬ (false = true) by decide)] at H; exact H
        clear H; have H := H1; clear H1; exact absurd ((yM H).trans hr_.out) (by decide)
      ·rw [if_neg c6] at H
       exact absurd H (by simp)
     ·rw [if_neg c5] at H
      exact absurd H (by simp)
    ·rw [if_neg c4] at H
     have c4b0 : decide (x5_1 < (l0.length : Int)) = false := decide_eq_false c4; clear c4; obtain rfl := yM H; go_wp2; go_ret; exact ⟨by first | rfl | (simp <;> rfl) | (simp [*] <;> rfl), by (with_reducible repeat first | exact HB.out | apply zH | apply zF | apply zG) <;> exact HB.out⟩
 ·rw [if_neg c3] at H
  have c3b0 : ((l0.length : Int) == (l1.length : Int)) = false := beq_eq_false_iff_ne.mpr c3; have c3b1 : ((l0.length : Int) != (l1.length : Int)) = true := bne_iff_ne.mpr c3; have c3b2 : (l0.length == l1.length) = false := by first | simpa using c3 | (simp at c3 ⊢; omega)
  exact absurd ((yM H).trans hr_.out) (by decide)
def laws_markText.l0 : Nat → Int → ByteArray → Option (ByteArray)
 | 0, _, _ => none
 | k + 1, x0, x3 => if x0 > 0 then ((some (([(wrap64 (48 + (Int.tmod x0 10))) % 256] : List Int) : List Int)).bind fun y10 => (if (strOfNums y10).size + x3.size ≤ 9223372036854775807 then (laws_markText.l0 k (wrap64 (Int.tdiv x0 10)) ((strOfNums y10) ++ x3)) else (none))) else (if 1 + x3.size ≤ 9223372036854775807 then (some ((⟨#[109]⟩ : ByteArray) ++ x3)) else (none))
def laws_markText.f (k : Nat) (a0 : Int) : Option (ByteArray) := if a0 ≤ 0 then (some (⟨#[109, 48]⟩ : ByteArray)) else (laws_markText.l0 k a0 (⟨#[]⟩ : ByteArray))
theorem laws_markText.calls (k : Nat) (a0 : Int) (r : ByteArray) (w : World) (h : laws_markText.f k a0 = some r) :
  Calls Try.prog 36 #[.int .i64 a0] w fun e w' => e = .returned (.string r) ∧ Below w.heap.size w w' := by
 have HB := zA (Below.refl w.heap.size w); have H : (if a0 ≤ 0 then (some (⟨#[109, 48]⟩ : ByteArray)) else (laws_markText.l0 k a0 (⟨#[]⟩ : ByteArray))) = some r := h; clear h
 by_cases c2 : a0 ≤ 0
 ·rw [if_pos c2] at H
  have c2b0 : decide (a0 ≤ 0) = true := zX c2; clear c2; obtain rfl := yM H; go_enter Try.func36, Try.ntmps36; go_wp2; go_ret; exact ⟨by first | rfl | (simp <;> rfl) | (simp [*] <;> rfl), by (with_reducible repeat first | exact HB.out | apply zH | apply zF | apply zG) <;> exact HB.out⟩
 ·rw [if_neg c2] at H
  have c2b0 : decide (a0 ≤ 0) = false := decide_eq_false c2; clear c2; have H' := zA H; clear H; go_enter Try.func36, Try.ntmps36; go_wp2; go_loopg [0, 3] k (fun kq v0 v3 w' => ∃ (x0_1 : Int) (x3_1 : ByteArray), v0 = .int .i64 x0_1 ∧ v3 = .string x3_1 ∧ Aside0 (laws_markText.l0 kq x0_1 x3_1 = some r) ∧ Aside0 (kq ≤ k) ∧ Aside0 (Below w.heap.size w w'))
  case atStart => exact ⟨(a0), ((⟨#[]⟩ : ByteArray)), (by first | rfl | (simp; done) | (simp [*]; done) | (simp [bne]; done)), (by first | rfl | (simp; done) | (simp [*]; done) | (simp [bne]; done)), H', ⟨Nat.le_refl _⟩, ⟨by (with_reducible repeat first | exact HB.out | apply zH | apply zF | apply zG) <;> exact HB.out⟩⟩
  case round =>
   clear H'
   try clear c2
   try clear c2b0
   try clear p2
   obtain ⟨x0_1, x3_1, rfl, rfl, HA, HK1, HB⟩ := hrel
   cases gk with
   | zero => exact absurd HA.out (by simp [laws_markText.l0])
   | succ k1 =>
    have H := HA.out; clear HA; simp only [laws_markText.l0] at H
    by_cases c3 : x0_1 > 0
    ·rw [if_pos c3] at H
     have c3b0 : decide (0 < x0_1) = true := zX c3; clear c3; obtain ⟨y10, hy10⟩ : ∃ y_ : List Int, y_ = (([(wrap64 (48 + (Int.tmod x0_1 10))) % 256] : List Int)) := ⟨_, rfl⟩; replace H : (if (strOfNums y10).size + x3_1.size ≤ 9223372036854775807 then (laws_markText.l0 k1 (wrap64 (Int.tdiv x0_1 10)) ((strOfNums y10) ++ x3_1)) else (none)) = some r := by first | (rw [hy10]; with_reducible exact H) | (have H2_ := (Option.bind_some _ _).symm.trans H; rw [hy10]; with_reducible exact H2_) | (have H2_ := (Option.bind_some _ _).symm.trans H; with_reducible exact H2_) | with_reducible exact H | (rw [hy10]; exact H) | exact H
     have Ny10 := zA hy10; clear hy10
     by_cases c4 : (strOfNums y10).size + x3_1.size ≤ 9223372036854775807
     ·rw [if_pos c4] at H
      have c4b0 := eq_true c4; have c4b1 : decide ((strOfNums y10).size + x3_1.size ≤ 9223372036854775807) = true := zX c4
      try have c4b2 : (9223372036854775807 < (strOfNums y10).size + x3_1.size) = False := eq_false (Nat.not_lt.2 c4)
      have H' := zA H; clear H; go_wp2_with (first | ((with_reducible refine gate_dst (N := 12) rfl ?_); refine Kd.R_lit (Kd.int .u8) _ 5 ?hg (N := 12) ?hd (xs := ([(wrap64 (48 + (Int.tmod x0_1 10))) % 256] : List Int)) (inner := [.int .u8 ((wrap64 (48 + (Int.tmod x0_1 10))) % 256)]) (ok := fun _ => True) (okp := fun _ => True) ?hr ?hp (fun _ hk => hk) trivial (Below.refl _ _) (Nat.le_refl _) (by simp) ?_; (case hd => rfl); (case hg => rfl); (case hr => first | (go_simp; done) | (go_simp; rfl)); (case hp => exact (Reps.one (show Kd.M (Kd.int .u8) _ _ _ ((wrap64 (48 + (Int.tmod x0_1 10))) % 256) [.int .u8 ((wrap64 (48 + (Int.tmod x0_1 10))) % 256)] from rfl) (Reps.none _ _))); intro v11 w5 ho6 hb hg_ hnew_; clear hg_ hnew_; (first | rw [← Ny10.out] at ho6 | (simp only [Int.reduceToNat] at ho6; rw [← Ny10.out] at ho6)); have n0_ := zA (Kd.R_lower ho6 (zAE (by (with_reducible repeat first | exact HB.out | apply zH | apply zF | apply zG) <;> exact HB.out))); have n1_ := zA (zAD (by (with_reducible repeat first | exact HB.out | apply zH | apply zF | apply zG) <;> exact HB.out) hb); clear HB; have HO12 := n0_; have HB := n1_; clear n0_ n1_; clear hb ho6; have hcv7 := own_string (P := Try.prog) Try.underlying73 Try.underlying5 Try.underlying9 (Kd.own_of_R HO12.out))); go_roundg k1
      case measure => have := HK1.out; omega
      case rel => exact ⟨(wrap64 (Int.tdiv x0_1 10)), ((strOfNums y10) ++ x3_1), (by first | rfl | (simp; done) | (simp [*]; done) | (simp [bne]; done)), (by first | rfl | (simp; done) | (simp [*]; done) | (simp [bne]; done)), H', ⟨by have := HK1.out; omega⟩, ⟨by (with_reducible repeat first | exact HB.out | apply zH | apply zF | apply zG) <;> exact HB.out⟩⟩
     ·rw [if_neg c4] at H
      exact absurd H (by simp)
    ·rw [if_neg c3] at H
     have c3b0 : decide (0 < x0_1) = false := decide_eq_false c3; clear c3
     by_cases c8 : 1 + x3_1.size ≤ 9223372036854775807
     ·rw [if_pos c8] at H
      have c8b0 := eq_true c8; have c8b1 : decide (1 + x3_1.size ≤ 9223372036854775807) = true := zX c8
      try have c8b2 : (9223372036854775807 < 1 + x3_1.size) = False := eq_false (Nat.not_lt.2 c8)
      obtain rfl := yM H; go_wp2; go_ret; exact ⟨by first | rfl | (simp <;> rfl) | (simp [*] <;> rfl), by (with_reducible repeat first | exact HB.out | apply zH | apply zF | apply zG) <;> exact HB.out⟩
     ·rw [if_neg c8] at H
      exact absurd H (by simp)
def laws_markStringS.l0 : Nat → List ByteArray → Int → Int → Option (Int × List ByteArray)
 | 0, _, _, _ => none
 | k + 1, x0, x1, x5 => if x5 < (x0.length : Int) then ((laws_markText.f k x1).bind fun t10 => (if 0 ≤ x5 then (laws_markStringS.l0 k (x0.set (x5 : Int).toNat t10) (wrap64 (x1 + 1)) (wrap64 (x5 + 1))) else (none))) else (some (x1, x0))
def laws_markStringS.f (k : Nat) (l0 : List ByteArray) (a1 : Int) : Option (Int × List ByteArray) := laws_markStringS.l0 k l0 a1 0
theorem laws_markStringS.calls (k : Nat) (P0_ : Nat → Prop) (u9000_ : Value) (l0 : List ByteArray) (a1 : Int) (r1 : Int) (r2 : List ByteArray) (w0 w : World) (hB : Below w0.heap.size w0 w) (ho0 : Kd.R Kd.string 9 w w0.heap.size P0_ u9000_ l0) (h : laws_markStringS.f k l0 a1 = some (r1, r2)) :
  Calls Try.prog 14 #[u9000_, .int .i64 a1] w fun e w' => e = .returned (.int .i64 r1) ∧ Kd.R Kd.string 9 w' w0.heap.size (fun k_ => (P0_ k_ ∨ w.heap.size ≤ k_)) u9000_ r2 ∧ Below w0.heap.size w0 w' ∧ Kept w w' (fun k_ => P0_ k_) := by
 have HO0 := zA (show Kd.R Kd.string 9 w w0.heap.size (fun k_ => (P0_ k_ ∨ w.heap.size ≤ k_)) u9000_ l0 from yC ho0 (fun k_ hk => (.inl hk))); have HK := zA (Kept.refl w (fun k_ => P0_ k_)); have HW0 := zA hB.size; have HB := zA hB; clear hB; have H : (laws_markStringS.l0 k l0 a1 0) = some (r1, r2) := h; clear h; have H' := zA H; clear H; go_enter Try.func14, Try.ntmps14; go_wp2; go_loopg [1, 5] k (fun kq v1 v5 w' => ∃ (x0_1 : List ByteArray) (x1_1 : Int) (x5_1 : Int), v1 = .int .i64 x1_1 ∧ v5 = .int .i64 x5_1 ∧ Aside0 (laws_markStringS.l0 kq x0_1 x1_1 x5_1 = some (r1, r2)) ∧ Aside0 (kq ≤ k) ∧ Aside0 (Kd.R Kd.string 9 w' w0.heap.size (fun k_ => (P0_ k_ ∨ w.heap.size ≤ k_)) u9000_ x0_1) ∧ Aside0 (Kept w w' (fun k_ => P0_ k_)) ∧ Aside0 (Below w0.heap.size w0 w'))
 case atStart => exact ⟨(l0), (a1), (0), (by first | rfl | (simp; done) | (simp [*]; done) | (simp [bne]; done)), (by first | rfl | (simp; done) | (simp [*]; done) | (simp [bne]; done)), H', ⟨Nat.le_refl _⟩, ⟨by (with_reducible repeat first | apply zQ | apply zR | apply zS); exact HO0.out⟩, ⟨by repeat (first | (with_reducible first | exact HK.out | apply Kept.alloc | apply Kept.drewN | apply Kept.drew) | exact HK.out)⟩, ⟨by (with_reducible repeat first | exact HB.out | apply zH | apply zF | apply zG) <;> exact HB.out⟩⟩
 case round =>
  clear H'
  try clear c1
  try clear p2
  obtain ⟨x0_1, x1_1, x5_1, rfl, rfl, HA, HK1, HO_0, HK, HB⟩ := hrel
  cases gk with
  | zero => exact absurd HA.out (by simp [laws_markStringS.l0])
  | succ k1 =>
   have H := HA.out; clear HA; simp only [laws_markStringS.l0] at H
   by_cases c3 : x5_1 < (x0_1.length : Int)
   ·rw [if_pos c3] at H
    have c3b0 : decide (x5_1 < (x0_1.length : Int)) = true := zX c3; clear c3; replace H := zAF H; obtain ⟨t12, A40, H⟩ := H; replace H : (if 0 ≤ x5_1 then (laws_markStringS.l0 k1 (x0_1.set (x5_1 : Int).toNat t12) (wrap64 (x1_1 + 1)) (wrap64 (x5_1 + 1))) else (none)) = some (r1, r2) := H; have A4 := zA A40; clear A40
    by_cases c5 : 0 ≤ x5_1
    ·rw [if_pos c5] at H
     have c5b0 : decide (0 ≤ x5_1) = true := zX c5; clear c5; obtain ⟨y13, hy13⟩ : ∃ y_ : List ByteArray, y_ = (x0_1.set (x5_1 : Int).toNat t12) := ⟨_, rfl⟩; replace H : (laws_markStringS.l0 k1 y13 (wrap64 (x1_1 + 1)) (wrap64 (x5_1 + 1))) = some (r1, r2) := by first | (rw [hy13]; with_reducible exact H) | (have H2_ := (Option.bind_some _ _).symm.trans H; rw [hy13]; with_reducible exact H2_) | (have H2_ := (Option.bind_some _ _).symm.trans H; with_reducible exact H2_) | with_reducible exact H | (rw [hy13]; exact H) | exact H
     have Ny13 := zA hy13; clear hy13; have H' := zA H; clear H; obtain ⟨Ao7, co7, eo7⟩ := Kd.R_slice HO_0.out; subst eo7; go_wp2_with (first | ((with_reducible refine yB (f := 36) rfl ?_); refine goesL_ (some 15) rfl rfl Try.func36 (by kernel_rfl) rfl #[.int .i64 x1_1] rfl (by (try simp only [zAA, zAB, zAC]); first | done | rfl) ?_; (with_reducible refine (laws_markText.calls k1 x1_1 t12 _ A4.out).mono ?_); rintro e w8 ⟨rfl, hb⟩; refine ⟨_, rfl, ?_⟩; have n0_ := zA (Kd.R_below (by (with_reducible repeat first | apply zQ | apply zR | apply zS); exact HO_0.out) hb); have n1_ := zA (Kept.below (S := (fun k_ => P0_ k_)) (by repeat (first | (with_reducible first | exact HK.out | apply Kept.alloc | apply Kept.drewN | apply Kept.drew) | exact HK.out)) hb); have n2_ := zA (zAD (by (with_reducible repeat first | exact HB.out | apply zH | apply zF | apply zG) <;> exact HB.out) hb); clear HO_0; clear HK; clear HB; have HO_0 := n0_; have HK := n1_; have HB := n2_; clear n0_ n1_ n2_; (try clear hb); have p6 : 0 ≤ (x5_1 : Int) := zW (by first | (with_reducible assumption) | assumption); have q6 : (x5_1 : Int) < ((x0_1.length : Int) : Int) := zW (by first | (with_reducible assumption) | assumption); obtain ⟨go6, co6, eo6, gb6, gl6, cl6, HG6⟩ := Kd.R_form HO_0.out (by omega); (first | cases eo6 | (injection eo6 with ea_ en_ ec_; (first | subst ea_ | (injection ea_ with ea_; subst ea_)); subst ec_; clear en_)); have GB6 := zA gb6; have GG6 := zA HG6; clear gb6 gl6 HG6; have HMgo6 := zA (show (P0_ go6 ∨ w.heap.size ≤ go6) from (HO_0.out.1 _ rfl)); obtain ⟨hx6_0, hf6_0⟩ := Kd.R_celln (⟨#[]⟩ : ByteArray) HO_0.out (x5_1 : Int) p6 q6; replace p6 := eq_true p6; replace q6 := eq_true q6; obtain ⟨hy9_, hz9_⟩ := Kd.R_celln (⟨#[]⟩ : ByteArray) HO_0.out (x5_1 : Int) (zW (by first | (with_reducible assumption) | assumption)) (zW (by first | (with_reducible assumption) | assumption)); have HP9 := Kd.R_putg HO_0.out (x5_1 : Int) t12) | ((with_reducible refine gate_store (t := 9) (p := 16) rfl ?_); refine store_event (t := 9) (p := 16) (v := ?vo_w10) (w1 := (w8.setCell ⟨go6, (x5_1 : Int).toNat, none⟩ (.string t12))) ?hg ?ho ?hn ?hr ?_; (case ho => rfl); (case hg => rfl); (case hn => rfl); (case hr => first | (go_simp; done) | (go_simp; rfl)); intro w10 hw; have hg : w8.grownBy w10 (some go6) := (by rw [hw]; exact HP9.2); have hp_ : Kd.R Kd.string 9 w10 w0.heap.size (fun k_ => (P0_ k_ ∨ w.heap.size ≤ k_)) (.slice (some ⟨go6, 0, none⟩) x0_1.length co7) y13 := (by rw [hw, Ny13.out]; exact HP9.1); clear HP9; have n0_ := zA (hp_); have n1_ := zA ((by rw [hw]; exact zI (HB.out) GB6.out : Below w0.heap.size w0 w10)); have n2_ := zA (Kept.of_grown (S := (fun k_ => P0_ k_)) hg (by repeat (first | (with_reducible first | exact HK.out | apply Kept.alloc | apply Kept.drewN | apply Kept.drew) | exact HK.out)) (fun k_ e_ => (HO_0.out.1 k_ e_))); clear HO_0; clear HB; clear HK; have HO_0 := n0_; have HB := n1_; have HK := n2_; clear n0_ n1_ n2_; clear hg hw hp_)); go_roundg k1
     case measure => have := HK1.out; omega
     case rel => exact ⟨(y13), (wrap64 (x1_1 + 1)), (wrap64 (x5_1 + 1)), (by first | rfl | (simp; done) | (simp [*]; done) | (simp [bne]; done)), (by first | rfl | (simp; done) | (simp [*]; done) | (simp [bne]; done)), H', ⟨by have := HK1.out; omega⟩, ⟨by (with_reducible repeat first | apply zQ | apply zR | apply zS); exact HO_0.out⟩, ⟨by repeat (first | (with_reducible first | exact HK.out | apply Kept.alloc | apply Kept.drewN | apply Kept.drew) | exact HK.out)⟩, ⟨by (with_reducible repeat first | exact HB.out | apply zH | apply zF | apply zG) <;> exact HB.out⟩⟩
    ·rw [if_neg c5] at H
     exact absurd H (by simp)
   ·rw [if_neg c3] at H
    have c3b0 : decide (x5_1 < (x0_1.length : Int)) = false := decide_eq_false c3; clear c3; simp only [Option.some.injEq, Prod.mk.injEq] at H; obtain ⟨rfl, rfl⟩ := H; obtain ⟨Ao11, co11, eo11⟩ := Kd.R_slice HO_0.out; subst eo11; go_wp2; go_ret; exact ⟨by first | rfl | (simp <;> rfl) | (simp [*] <;> rfl), by (with_reducible repeat first | apply zQ | apply zR | apply zS); exact HO_0.out, by (with_reducible repeat first | exact HB.out | apply zH | apply zF | apply zG) <;> exact HB.out, by repeat (first | (with_reducible first | exact HK.out | apply Kept.alloc | apply Kept.drewN | apply Kept.drew) | exact HK.out)⟩
def laws_markShown.f (k : Nat) (l0_0 : List ByteArray) (l0_1 : List ByteArray) (l0_2 : List ByteArray) (a0_3 : Int) (a1 : Int) : Option (Int × List ByteArray × List ByteArray × List ByteArray) := (laws_markStringS.f k l0_0 a1).bind fun bt10 => ((laws_markStringS.f k l0_1 bt10.1).bind fun bt11 => ((laws_markStringS.f k l0_2 bt11.1).bind fun bt12 => (some (bt12.1, bt10.2, bt11.2, bt12.2))))
theorem laws_markShown.calls (k : Nat) (P0_0_ : Nat → Prop) (u9000_ : Value) (l0_0 : List ByteArray) (P0_1_ : Nat → Prop) (u9001_ : Value) (l0_1 : List ByteArray) (P0_2_ : Nat → Prop) (u9002_ : Value) (l0_2 : List ByteArray) (a0_3 : Int) (a1 : Int) (r1 : Int) (r2 : List ByteArray) (r3 : List ByteArray) (r4 : List ByteArray) (w0 w : World) (hB : Below w0.heap.size w0 w) (ho0_0 : Kd.R Kd.string 9 w w0.heap.size P0_0_ u9000_ l0_0) (hp0_0_0_1 : ∀ k_, P0_0_ k_ → ¬ P0_1_ k_) (hp0_0_0_2 : ∀ k_, P0_0_ k_ → ¬ P0_2_ k_) (ho0_1 : Kd.R Kd.string 9 w w0.heap.size P0_1_ u9001_ l0_1) (hp0_1_0_0 : ∀ k_, P0_1_ k_ → ¬ P0_0_ k_) (hp0_1_0_2 : ∀ k_, P0_1_ k_ → ¬ P0_2_ k_) (ho0_2 : Kd.R Kd.string 9 w w0.heap.size P0_2_ u9002_ l0_2) (hp0_2_0_0 : ∀ k_, P0_2_ k_ → ¬ P0_0_ k_) (hp0_2_0_1 : ∀ k_, P0_2_ k_ → ¬ P0_1_ k_) (h : laws_markShown.f k l0_0 l0_1 l0_2 a0_3 a1 = some (r1, r2, r3, r4)) :
  Calls Try.prog 23 #[.agg #[u9000_, u9001_, u9002_, .int .i64 a0_3], .int .i64 a1] w fun e w' => e = .returned (.int .i64 r1) ∧ Kd.R Kd.string 9 w' w0.heap.size (fun k_ => ((P0_0_ k_ ∨ P0_1_ k_ ∨ P0_2_ k_) ∨ w.heap.size ≤ k_)) u9000_ r2 ∧ Kd.R Kd.string 9 w' w0.heap.size (fun k_ => ((P0_0_ k_ ∨ P0_1_ k_ ∨ P0_2_ k_) ∨ w.heap.size ≤ k_)) u9001_ r3 ∧ Kd.R Kd.string 9 w' w0.heap.size (fun k_ => ((P0_0_ k_ ∨ P0_1_ k_ ∨ P0_2_ k_) ∨ w.heap.size ≤ k_)) u9002_ r4 ∧ Below w0.heap.size w0 w' ∧ Kept w w' (fun k_ => P0_0_ k_ ∨ P0_1_ k_ ∨ P0_2_ k_) := by
 have hu38 := Try.underlying38; have HO0_0 := zA (show Kd.R Kd.string 9 w w0.heap.size (fun k_ => ((P0_0_ k_ ∨ P0_1_ k_ ∨ P0_2_ k_) ∨ w.heap.size ≤ k_) ∧ some k_ ≠ (u9001_ : Value).ownBlock ∧ some k_ ≠ (u9002_ : Value).ownBlock) u9000_ l0_0 from yC ho0_0 (fun k_ hk => ⟨(.inl (.inl hk)), fun e_ => hp0_0_0_1 k_ hk (ho0_1.1 k_ e_.symm), fun e_ => hp0_0_0_2 k_ hk (ho0_2.1 k_ e_.symm)⟩)); have HO0_1 := zA (show Kd.R Kd.string 9 w w0.heap.size (fun k_ => ((P0_0_ k_ ∨ P0_1_ k_ ∨ P0_2_ k_) ∨ w.heap.size ≤ k_) ∧ some k_ ≠ (u9000_ : Value).ownBlock ∧ some k_ ≠ (u9002_ : Value).ownBlock) u9001_ l0_1 from yC ho0_1 (fun k_ hk => ⟨(.inl (.inr (.inl hk))), fun e_ => hp0_1_0_0 k_ hk (ho0_0.1 k_ e_.symm), fun e_ => hp0_1_0_2 k_ hk (ho0_2.1 k_ e_.symm)⟩)); have HO0_2 := zA (show Kd.R Kd.string 9 w w0.heap.size (fun k_ => ((P0_0_ k_ ∨ P0_1_ k_ ∨ P0_2_ k_) ∨ w.heap.size ≤ k_) ∧ some k_ ≠ (u9000_ : Value).ownBlock ∧ some k_ ≠ (u9001_ : Value).ownBlock) u9002_ l0_2 from yC ho0_2 (fun k_ hk => ⟨(.inl (.inr (.inr hk))), fun e_ => hp0_2_0_0 k_ hk (ho0_0.1 k_ e_.symm), fun e_ => hp0_2_0_1 k_ hk (ho0_1.1 k_ e_.symm)⟩)); have HK := zA (Kept.refl w (fun k_ => P0_0_ k_ ∨ P0_1_ k_ ∨ P0_2_ k_)); have HW0 := zA hB.size; have HB := zA hB; clear hB; have H : ((laws_markStringS.f k l0_0 a1).bind fun bt16 => ((laws_markStringS.f k l0_1 bt16.1).bind fun bt17 => ((laws_markStringS.f k l0_2 bt17.1).bind fun bt18 => (some (bt18.1, bt16.2, bt17.2, bt18.2))))) = some (r1, r2, r3, r4) := h; clear h; replace H := zAF H; obtain ⟨⟨t16, t19⟩, A30, H⟩ := H; replace H : ((laws_markStringS.f k l0_1 t16).bind fun bt17 => ((laws_markStringS.f k l0_2 bt17.1).bind fun bt18 => (some (bt18.1, t19, bt17.2, bt18.2)))) = some (r1, r2, r3, r4) := H; have A3 := zA A30; clear A30; replace H := zAF H; obtain ⟨⟨t17, t20⟩, A40, H⟩ := H; replace H : ((laws_markStringS.f k l0_2 t17).bind fun bt18 => (some (bt18.1, t19, t20, bt18.2))) = some (r1, r2, r3, r4) := H; have A4 := zA A40; clear A40; replace H := zAF H; obtain ⟨⟨t18, t21⟩, A50, H⟩ := H; replace H : (some (t18, t19, t20, t21)) = some (r1, r2, r3, r4) := H; have A5 := zA A50; clear A50; simp only [Option.some.injEq, Prod.mk.injEq] at H; obtain ⟨rfl, rfl, rfl, rfl⟩ := H; obtain ⟨Ao6, co6, eo6⟩ := Kd.R_slice HO0_0.out; subst eo6; obtain ⟨Ao7, co7, eo7⟩ := Kd.R_slice HO0_1.out; subst eo7; obtain ⟨Ao8, co8, eo8⟩ := Kd.R_slice HO0_2.out; subst eo8; go_enter Try.func23, Try.ntmps23; go_wp2_with (first | ((with_reducible refine gate_dst (N := 2) rfl ?_); refine box_event ?hg (N := 2) ?hd (cs := #[.slice Ao6 l0_0.length co6, .slice Ao7 l0_1.length co7, .slice Ao8 l0_2.length co8, .int .i64 a0_3]) (t := 38) ?hr ?_; (case hd => rfl); (case hg => rfl); (case hr => first | (go_simp; done) | (go_simp; rfl)); intro gb22 hg w9 hbox hb; have n0_ := zA (Kd.R_below (by (with_reducible repeat first | apply zQ | apply zR | apply zS); exact HO0_0.out) hb); have n1_ := zA (Kd.R_below (by (with_reducible repeat first | apply zQ | apply zR | apply zS); exact HO0_1.out) hb); have n2_ := zA (Kd.R_below (by (with_reducible repeat first | apply zQ | apply zR | apply zS); exact HO0_2.out) hb); have n3_ := zA (Kept.below (S := (fun k_ => P0_0_ k_ ∨ P0_1_ k_ ∨ P0_2_ k_)) (by repeat (first | (with_reducible first | exact HK.out | apply Kept.alloc | apply Kept.drewN | apply Kept.drew) | exact HK.out)) hb); have n4_ := zA (zAD (by (with_reducible repeat first | exact HB.out | apply zH | apply zF | apply zG) <;> exact HB.out) hb); have n5_ := zA (hbox); have n6_ := zA ((by rw [hg]; exact (by first | exact HK.out.1 | exact (show Kept w _ (fun k_ => P0_0_ k_ ∨ P0_1_ k_ ∨ P0_2_ k_) from by repeat (first | (with_reducible first | exact HK.out | apply Kept.alloc | apply Kept.drewN | apply Kept.drew) | exact HK.out)).1) : w.heap.size ≤ gb22)); have n7_ := zA ((by rw [hg]; exact (zAE (by (with_reducible repeat first | exact HB.out | apply zH | apply zF | apply zG) <;> exact HB.out)) : w0.heap.size ≤ gb22)); clear HO0_0; clear HO0_1; clear HO0_2; clear HK; clear HB; have HO0_0 := n0_; have HO0_1 := n1_; have HO0_2 := n2_; have HK := n3_; have HB := n4_; have BK22 := n5_; have GW22 := n6_; have GE22 := n7_; clear n0_ n1_ n2_ n3_ n4_ n5_ n6_ n7_; clear hb hbox hg; have hcz10_0 := yL BK22.out 0 (.slice Ao6 l0_0.length co6) rfl; have hcz10_1 := yL BK22.out 1 (.slice Ao7 l0_1.length co7) rfl; have hcz10_2 := yL BK22.out 2 (.slice Ao8 l0_2.length co8) rfl; have hcz10_3 := yL BK22.out 3 (.int .i64 a0_3) rfl; have hfz10_0 := zO BK22.out 0; have hfz10_1 := zO BK22.out 1; have hfz10_2 := zO BK22.out 2; have hfz10_3 := zO BK22.out 3) | ((with_reducible refine yB (f := 14) rfl ?_); refine goesL_ (some 8) rfl rfl Try.func14 (by kernel_rfl) rfl #[.slice Ao6 l0_0.length co6, .int .i64 a1] rfl (by (try simp only [zAA, zAB, zAC]); first | done | rfl | (simp only [zZ, zY]; rfl)) ?_; (with_reducible refine (laws_markStringS.calls k (fun k_ => some k_ = (.slice Ao6 l0_0.length co6 : Value).ownBlock) (.slice Ao6 l0_0.length co6) l0_0 a1 t16 t19 w0 _ ?side1 ?side2 A3.out).mono ?_); (case side1 => repeat (first | (with_reducible first | exact HB.out | apply zH | apply zF | apply zG | refine zI ?_ GE22.out) | exact HB.out)); (case side2 => exact Kd.R_tight rfl HO0_0.out); rintro e w11 ⟨rfl, hy0, hb, hkp⟩; refine ⟨_, rfl, ?_⟩; have n0_ := zA (Kd.R_reok rfl hy0 (fun k_ e_ => HO0_0.out.1 k_ e_)); have n1_ := zA (yC (ok' := fun k_ => ((P0_0_ k_ ∨ P0_1_ k_ ∨ P0_2_ k_) ∨ w.heap.size ≤ k_) ∧ some k_ ≠ (.slice Ao6 l0_0.length co6 : Value).ownBlock ∧ some k_ ≠ (.slice Ao8 l0_2.length co8 : Value).ownBlock) (Kd.R_keptB (HO0_1.out) hkp (fun k_ hk_ hs_ => (hk_.2.1) hs_)) (fun k_ hk_ => ⟨hk_.1.1, hk_.1.2.1, hk_.1.2.2⟩)); have n2_ := zA (yC (ok' := fun k_ => ((P0_0_ k_ ∨ P0_1_ k_ ∨ P0_2_ k_) ∨ w.heap.size ≤ k_) ∧ some k_ ≠ (.slice Ao6 l0_0.length co6 : Value).ownBlock ∧ some k_ ≠ (.slice Ao7 l0_1.length co7 : Value).ownBlock) (Kd.R_keptB (HO0_2.out) hkp (fun k_ hk_ hs_ => (hk_.2.1) hs_)) (fun k_ hk_ => ⟨hk_.1.1, hk_.1.2.1, hk_.1.2.2⟩)); have n3_ := zA (blk_kept (by (with_reducible repeat (first | refine zL ?_ _ | refine zN ?_ | refine zM ?_ _)); exact BK22.out) hkp (fun hs_ => (fun e_ => (Kd.R_ne HO0_0.out BK22.out (by decide)) e_) hs_)); have n4_ := zA (Kept.then_ (S := (fun k_ => P0_0_ k_ ∨ P0_1_ k_ ∨ P0_2_ k_)) (by repeat (first | (with_reducible first | exact HK.out | apply Kept.alloc | apply Kept.drewN | apply Kept.drew | refine Kept.setCell ?_ (.inr GW22.out) _) | exact HK.out)) hkp (fun k_ hs_ => (fun e_ => (HO0_0.out.1 k_ e_.symm).1) hs_)); have n5_ := zA (hb); clear HO0_0; clear HO0_1; clear HO0_2; clear BK22; clear HK; clear HB; have HO0_0 := n0_; have HO0_1 := n1_; have HO0_2 := n2_; have BK22 := n3_; have HK := n4_; have HB := n5_; clear n0_ n1_ n2_ n3_ n4_ n5_; (try clear hb); (try clear hkp); (try clear hy0); have hcz12_0 := yL BK22.out 0 (.slice Ao6 l0_0.length co6) rfl; have hcz12_1 := yL BK22.out 1 (.slice Ao7 l0_1.length co7) rfl; have hcz12_2 := yL BK22.out 2 (.slice Ao8 l0_2.length co8) rfl; have hcz12_3 := yL BK22.out 3 (.int .i64 a0_3) rfl; have hfz12_0 := zO BK22.out 0; have hfz12_1 := zO BK22.out 1; have hfz12_2 := zO BK22.out 2; have hfz12_3 := zO BK22.out 3) | ((with_reducible refine yB (f := 14) rfl ?_); refine goesL_ (some 12) rfl rfl Try.func14 (by kernel_rfl) rfl #[.slice Ao7 l0_1.length co7, .int .i64 t16] rfl (by (try simp only [zAA, zAB, zAC]); first | done | rfl | (simp only [zZ, zY]; rfl)) ?_; (with_reducible refine (laws_markStringS.calls k (fun k_ => some k_ = (.slice Ao7 l0_1.length co7 : Value).ownBlock) (.slice Ao7 l0_1.length co7) l0_1 t16 t17 t20 w0 _ ?side1 ?side2 A4.out).mono ?_); (case side1 => repeat (first | (with_reducible first | exact HB.out | apply zH | apply zF | apply zG | refine zI ?_ GE22.out) | exact HB.out)); (case side2 => exact Kd.R_tight rfl HO0_1.out); rintro e w13 ⟨rfl, hy0, hb, hkp⟩; refine ⟨_, rfl, ?_⟩; have n0_ := zA (yC (ok' := fun k_ => ((P0_0_ k_ ∨ P0_1_ k_ ∨ P0_2_ k_) ∨ w.heap.size ≤ k_) ∧ some k_ ≠ (.slice Ao7 l0_1.length co7 : Value).ownBlock ∧ some k_ ≠ (.slice Ao8 l0_2.length co8 : Value).ownBlock) (Kd.R_keptB (HO0_0.out) hkp (fun k_ hk_ hs_ => (hk_.2.1) hs_)) (fun k_ hk_ => ⟨hk_.1.1, hk_.1.2.1, hk_.1.2.2⟩)); have n1_ := zA (Kd.R_reok rfl hy0 (fun k_ e_ => HO0_1.out.1 k_ e_)); have n2_ := zA (yC (ok' := fun k_ => ((P0_0_ k_ ∨ P0_1_ k_ ∨ P0_2_ k_) ∨ w.heap.size ≤ k_) ∧ some k_ ≠ (.slice Ao6 l0_0.length co6 : Value).ownBlock ∧ some k_ ≠ (.slice Ao7 l0_1.length co7 : Value).ownBlock) (Kd.R_keptB (HO0_2.out) hkp (fun k_ hk_ hs_ => (hk_.2.2) hs_)) (fun k_ hk_ => ⟨hk_.1.1, hk_.1.2.1, hk_.1.2.2⟩)); have n3_ := zA (blk_kept (by (with_reducible repeat (first | refine zL ?_ _ | refine zN ?_ | refine zM ?_ _)); exact BK22.out) hkp (fun hs_ => (fun e_ => (Kd.R_ne HO0_1.out BK22.out (by decide)) e_) hs_)); have n4_ := zA (Kept.then_ (S := (fun k_ => P0_0_ k_ ∨ P0_1_ k_ ∨ P0_2_ k_)) (by repeat (first | (with_reducible first | exact HK.out | apply Kept.alloc | apply Kept.drewN | apply Kept.drew | refine Kept.setCell ?_ (.inr GW22.out) _) | exact HK.out)) hkp (fun k_ hs_ => (fun e_ => (HO0_1.out.1 k_ e_.symm).1) hs_)); have n5_ := zA (hb); clear HO0_0; clear HO0_1; clear HO0_2; clear BK22; clear HK; clear HB; have HO0_0 := n0_; have HO0_1 := n1_; have HO0_2 := n2_; have BK22 := n3_; have HK := n4_; have HB := n5_; clear n0_ n1_ n2_ n3_ n4_ n5_; (try clear hb); (try clear hkp); (try clear hy0); have hcz14_0 := yL BK22.out 0 (.slice Ao6 l0_0.length co6) rfl; have hcz14_1 := yL BK22.out 1 (.slice Ao7 l0_1.length co7) rfl; have hcz14_2 := yL BK22.out 2 (.slice Ao8 l0_2.length co8) rfl; have hcz14_3 := yL BK22.out 3 (.int .i64 a0_3) rfl; have hfz14_0 := zO BK22.out 0; have hfz14_1 := zO BK22.out 1; have hfz14_2 := zO BK22.out 2; have hfz14_3 := zO BK22.out 3) | ((with_reducible refine yB (f := 14) rfl ?_); refine goesL_ (some 16) rfl rfl Try.func14 (by kernel_rfl) rfl #[.slice Ao8 l0_2.length co8, .int .i64 t17] rfl (by (try simp only [zAA, zAB, zAC]); first | done | rfl | (simp only [zZ, zY]; rfl)) ?_; (with_reducible refine (laws_markStringS.calls k (fun k_ => some k_ = (.slice Ao8 l0_2.length co8 : Value).ownBlock) (.slice Ao8 l0_2.length co8) l0_2 t17 t18 t21 w0 _ ?side1 ?side2 A5.out).mono ?_); (case side1 => repeat (first | (with_reducible first | exact HB.out | apply zH | apply zF | apply zG | refine zI ?_ GE22.out) | exact HB.out)); (case side2 => exact Kd.R_tight rfl HO0_2.out); rintro e w15 ⟨rfl, hy0, hb, hkp⟩; refine ⟨_, rfl, ?_⟩; have n0_ := zA (yC (ok' := fun k_ => ((P0_0_ k_ ∨ P0_1_ k_ ∨ P0_2_ k_) ∨ w.heap.size ≤ k_) ∧ some k_ ≠ (.slice Ao7 l0_1.length co7 : Value).ownBlock ∧ some k_ ≠ (.slice Ao8 l0_2.length co8 : Value).ownBlock) (Kd.R_keptB (HO0_0.out) hkp (fun k_ hk_ hs_ => (hk_.2.2) hs_)) (fun k_ hk_ => ⟨hk_.1.1, hk_.1.2.1, hk_.1.2.2⟩)); have n1_ := zA (yC (ok' := fun k_ => ((P0_0_ k_ ∨ P0_1_ k_ ∨ P0_2_ k_) ∨ w.heap.size ≤ k_) ∧ some k_ ≠ (.slice Ao6 l0_0.length co6 : Value).ownBlock ∧ some k_ ≠ (.slice Ao8 l0_2.length co8 : Value).ownBlock) (Kd.R_keptB (HO0_1.out) hkp (fun k_ hk_ hs_ => (hk_.2.2) hs_)) (fun k_ hk_ => ⟨hk_.1.1, hk_.1.2.1, hk_.1.2.2⟩)); have n2_ := zA (Kd.R_reok rfl hy0 (fun k_ e_ => HO0_2.out.1 k_ e_)); have n3_ := zA (blk_kept (by (with_reducible repeat (first | refine zL ?_ _ | refine zN ?_ | refine zM ?_ _)); exact BK22.out) hkp (fun hs_ => (fun e_ => (Kd.R_ne HO0_2.out BK22.out (by decide)) e_) hs_)); have n4_ := zA (Kept.then_ (S := (fun k_ => P0_0_ k_ ∨ P0_1_ k_ ∨ P0_2_ k_)) (by repeat (first | (with_reducible first | exact HK.out | apply Kept.alloc | apply Kept.drewN | apply Kept.drew | refine Kept.setCell ?_ (.inr GW22.out) _) | exact HK.out)) hkp (fun k_ hs_ => (fun e_ => (HO0_2.out.1 k_ e_.symm).1) hs_)); have n5_ := zA (hb); clear HO0_0; clear HO0_1; clear HO0_2; clear BK22; clear HK; clear HB; have HO0_0 := n0_; have HO0_1 := n1_; have HO0_2 := n2_; have BK22 := n3_; have HK := n4_; have HB := n5_; clear n0_ n1_ n2_ n3_ n4_ n5_; (try clear hb); (try clear hkp); (try clear hy0)))
 go_ret; exact ⟨by first | rfl | (simp <;> rfl) | (simp [*] <;> rfl), by (with_reducible repeat first | apply zQ | apply zR | apply zS); exact yC HO0_0.out (fun _ hk => hk.1), by (with_reducible repeat first | apply zQ | apply zR | apply zS); exact yC HO0_1.out (fun _ hk => hk.1), by (with_reducible repeat first | apply zQ | apply zR | apply zS); exact yC HO0_2.out (fun _ hk => hk.1), by repeat (first | (with_reducible first | exact HB.out | apply zH | apply zF | apply zG | refine zI ?_ GE22.out) | exact HB.out), by repeat (first | (with_reducible first | exact HK.out | apply Kept.alloc | apply Kept.drewN | apply Kept.drew | refine Kept.setCell ?_ (.inr GW22.out) _) | exact HK.out)⟩
def laws_heldStringS.l0 : Nat → List ByteArray → Int → Int → Option (Int)
 | 0, _, _, _ => none
 | k + 1, x0, x1, x5 => if x5 < (x0.length : Int) then (if 0 ≤ x5 then ((laws_markText.f k x1).bind fun t10 => (if (rdOf ByteArray.empty x0 x5).toList = t10.toList then (laws_heldStringS.l0 k x0 (wrap64 (x1 + 1)) (wrap64 (x5 + 1))) else (some (-1)))) else (none)) else (some x1)
def laws_heldStringS.f (k : Nat) (l0 : List ByteArray) (a1 : Int) : Option (Int) := laws_heldStringS.l0 k l0 a1 0
theorem laws_heldStringS.calls (k : Nat) (A0 : Option Addr) (c0 : Nat) (l0 : List ByteArray) (a1 : Int) (r : Int) (w : World) (hr0 : Kd.C Kd.string w A0 l0.length l0) (hc0 : l0.length ≤ c0) (h : laws_heldStringS.f k l0 a1 = some r) :
  Calls Try.prog 37 #[.slice A0 l0.length c0, .int .i64 a1] w fun e w' => e = .returned (.int .i64 r) ∧ Below w.heap.size w w' := by
 have HR0 := zA hr0; have HC0 := zA hc0; clear hr0 hc0; have HB := zA (Below.refl w.heap.size w); have H : (laws_heldStringS.l0 k l0 a1 0) = some r := h; clear h; have H' := zA H; clear H; go_enter Try.func37, Try.ntmps37; go_wp2; go_loopg [1, 5] k (fun kq v1 v5 w' => ∃ (x1_1 : Int) (x5_1 : Int), v1 = .int .i64 x1_1 ∧ v5 = .int .i64 x5_1 ∧ Aside0 (laws_heldStringS.l0 kq l0 x1_1 x5_1 = some r) ∧ Aside0 (kq ≤ k) ∧ Aside0 (Below w.heap.size w w'))
 case atStart => exact ⟨(a1), (0), (by first | rfl | (simp; done) | (simp [*]; done) | (simp [bne]; done)), (by first | rfl | (simp; done) | (simp [*]; done) | (simp [bne]; done)), H', ⟨Nat.le_refl _⟩, ⟨by (with_reducible repeat first | exact HB.out | apply zH | apply zF | apply zG) <;> exact HB.out⟩⟩
 case round =>
  clear H'
  try clear p2
  obtain ⟨x1_1, x5_1, rfl, rfl, HA, HK1, HB⟩ := hrel
  cases gk with
  | zero => exact absurd HA.out (by simp [laws_heldStringS.l0])
  | succ k1 =>
   have H := HA.out; clear HA; simp only [laws_heldStringS.l0] at H
   by_cases c3 : x5_1 < (l0.length : Int)
   ·rw [if_pos c3] at H
    have c3b0 : decide (x5_1 < (l0.length : Int)) = true := zX c3; clear c3
    by_cases c4 : 0 ≤ x5_1
    ·rw [if_pos c4] at H
     have c4b0 : decide (0 ≤ x5_1) = true := zX c4; clear c4; replace H := zAF H; obtain ⟨t11, A50, H⟩ := H; replace H : (if (rdOf ByteArray.empty l0 x5_1).toList = t11.toList then (laws_heldStringS.l0 k1 l0 (wrap64 (x1_1 + 1)) (wrap64 (x5_1 + 1))) else (some (-1))) = some r := H; have A5 := zA A50; clear A50
     by_cases c6 : (rdOf ByteArray.empty l0 x5_1).toList = t11.toList
     ·rw [if_pos c6] at H
      have c6b0 : ((rdOf ByteArray.empty l0 x5_1).toList == t11.toList) = true := beq_iff_eq.mpr c6; have c6b1 : ((rdOf ByteArray.empty l0 x5_1).toList != t11.toList) = false := bne_eq_false_iff_eq.mpr c6; clear c6; have H' := zA H; clear H
      try go_wp2
      have n0_ := zA (zG HB.out); clear HB; have HB := n0_; clear n0_; have p12 : 0 ≤ (x5_1 : Int) := zW (by first | (with_reducible assumption) | assumption); have q12 : x5_1 < (l0.length : Int) := zW (by first | (with_reducible assumption) | assumption); obtain ⟨ad12, e12, hx12_0⟩ := Kd.at_string HR0.out x5_1 p12 q12; have hw12_0 := hx12_0
      cases e12
      replace hx12_0 := (HB.out.cell (zB w _ hx12_0)).trans hx12_0; replace p12 := eq_true p12; replace q12 := eq_true q12; refine start_ (n := 7) (S := fun w' => w'.cell? (ad12.add (x5_1).toNat) = some (.string (rdOf ByteArray.empty l0 x5_1))) (ds := []) (bA 7 0) (by kernel_rfl) rfl rfl (((HB.out.cell (zB w _ hw12_0)).trans hw12_0)) (fun hHeld => ?_); generalize wr.drew = w7 at HB hx12_0 hHeld ⊢; refine pure_ (i := 0) (N := some 12) (v := ?_) (a' := ?_) (bA 7 1) rfl rfl (by kernel_rfl) (fun _ _ _ h => h) (Or.inl ⟨by rfl, ?_⟩) ?_ ?_; rotate_left
      ·intro w'
       go_simp
       with_reducible rfl
      rotate_left
      ·simp only [Act.put, zC, zD, zE, i64_w]
       rfl
      refine pure_ (i := 1) (N := some 13) (v := ?_) (a' := ?_) (bA 7 3) rfl rfl (by kernel_rfl) (fun _ _ _ h => h) (Or.inl ⟨by rfl, ?_⟩) ?_ ?_; rotate_left
      ·intro w'
       go_simp
       with_reducible rfl
      rotate_left
      ·simp only [Act.put, zC, zD, zE, i64_w]
       rfl
      refine pure_ (i := 2) (N := some 14) (v := ?_) (a' := ?_) (bA 7 7) rfl rfl (by kernel_rfl) (fun _ _ _ h => h) (Or.inl ⟨by rfl, ?_⟩) ?_ ?_; rotate_left
      ·intro w'
       go_simp
       with_reducible rfl
      rotate_left
      ·simp only [Act.put, zC, zD, zE, i64_w]
       rfl
      refine pure_ (i := 4) (N := some 16) (v := ?_) (a' := ?_) (bA 7 23) rfl rfl (by kernel_rfl) (fun _ _ _ h => h) (Or.inl ⟨by rfl, ?_⟩) ?_ ?_; rotate_left
      ·intro w'
       go_simp
       with_reducible rfl
      rotate_left
      ·simp only [Act.put, zC, zD, zE, i64_w]
       rfl
      refine take_ (i := 3) (N := some 15) (v := ?_) (a' := ?_) (bA 7 31) rfl rfl (by kernel_rfl) (fun _ _ _ h => h) (Or.inl ⟨by rfl, ?_⟩) hHeld ?_ ?_; rotate_left
      ·intro w' s0
       go_simp
       with_reducible rfl
      rotate_left
      ·simp only [Act.put, zC, zD, zE, i64_w]
       rfl
      refine one_ (i := 5) (N := some 17) (bA 7 63) rfl rfl (by kernel_rfl) (by decide) (fun K hK => ?_); refine goes_ Try.func36 (by kernel_rfl) rfl #[.int .i64 x1_1] (by rfl) rfl rfl (by (try simp only [zAA, zAB, zAC]); first | done | rfl) ?_
      with_reducible refine (laws_markText.calls k1 x1_1 t11 _ A5.out).mono ?_
      rintro e w8 ⟨rfl, hb⟩; refine ⟨_, rfl, ?_⟩; have n0_ := zA (zAD (by (with_reducible repeat first | exact HB.out | apply zH | apply zF | apply zG) <;> exact HB.out) hb); clear HB; have HB := n0_; clear n0_; (try clear hb); refine hK.out _ _ (((HB.out.cell (zB w _ hw12_0)).trans hw12_0)) (fun hHeld => ?_); clear hK K; refine wzN 17 ?_
      refine pure_ (i := 6) (N := some 18) (v := ?_) (a' := ?_) (bA 7 127) rfl rfl (by kernel_rfl) (fun _ _ _ h => h) (Or.inl ⟨by rfl, ?_⟩) ?_ ?_; rotate_left
      ·intro w'
       go_simp
       with_reducible rfl
      rotate_left
      ·simp only [Act.put, zC, zD, zE, i64_w]
       rfl
      refine done_ (by kernel_rfl) ?_
      try go_wp2
      go_roundg k1
      case measure => have := HK1.out; omega
      case rel => exact ⟨(wrap64 (x1_1 + 1)), (wrap64 (x5_1 + 1)), (by first | rfl | (simp; done) | (simp [*]; done) | (simp [bne]; done)), (by first | rfl | (simp; done) | (simp [*]; done) | (simp [bne]; done)), H', ⟨by have := HK1.out; omega⟩, ⟨by (with_reducible repeat first | exact HB.out | apply zH | apply zF | apply zG) <;> exact HB.out⟩⟩
     ·rw [if_neg c6] at H
      have c6b0 : ((rdOf ByteArray.empty l0 x5_1).toList == t11.toList) = false := beq_eq_false_iff_ne.mpr c6; have c6b1 : ((rdOf ByteArray.empty l0 x5_1).toList != t11.toList) = true := bne_iff_ne.mpr c6; obtain rfl := yM H
      try go_wp2
      have n0_ := zA (zG HB.out); clear HB; have HB := n0_; clear n0_; have p12 : 0 ≤ (x5_1 : Int) := zW (by first | (with_reducible assumption) | assumption); have q12 : x5_1 < (l0.length : Int) := zW (by first | (with_reducible assumption) | assumption); obtain ⟨ad12, e12, hx12_0⟩ := Kd.at_string HR0.out x5_1 p12 q12; have hw12_0 := hx12_0
      cases e12
      replace hx12_0 := (HB.out.cell (zB w _ hx12_0)).trans hx12_0; replace p12 := eq_true p12; replace q12 := eq_true q12; refine start_ (n := 7) (S := fun w' => w'.cell? (ad12.add (x5_1).toNat) = some (.string (rdOf ByteArray.empty l0 x5_1))) (ds := []) (bA 7 0) (by kernel_rfl) rfl rfl (((HB.out.cell (zB w _ hw12_0)).trans hw12_0)) (fun hHeld => ?_); generalize wr.drew = w9 at HB hx12_0 hHeld ⊢; refine pure_ (i := 0) (N := some 12) (v := ?_) (a' := ?_) (bA 7 1) rfl rfl (by kernel_rfl) (fun _ _ _ h => h) (Or.inl ⟨by rfl, ?_⟩) ?_ ?_; rotate_left
      ·intro w'
       go_simp
       with_reducible rfl
      rotate_left
      ·simp only [Act.put, zC, zD, zE, i64_w]
       rfl
      refine pure_ (i := 1) (N := some 13) (v := ?_) (a' := ?_) (bA 7 3) rfl rfl (by kernel_rfl) (fun _ _ _ h => h) (Or.inl ⟨by rfl, ?_⟩) ?_ ?_; rotate_left
      ·intro w'
       go_simp
       with_reducible rfl
      rotate_left
      ·simp only [Act.put, zC, zD, zE, i64_w]
       rfl
      refine pure_ (i := 2) (N := some 14) (v := ?_) (a' := ?_) (bA 7 7) rfl rfl (by kernel_rfl) (fun _ _ _ h => h) (Or.inl ⟨by rfl, ?_⟩) ?_ ?_; rotate_left
      ·intro w'
       go_simp
       with_reducible rfl
      rotate_left
      ·simp only [Act.put, zC, zD, zE, i64_w]
       rfl
      refine pure_ (i := 4) (N := some 16) (v := ?_) (a' := ?_) (bA 7 23) rfl rfl (by kernel_rfl) (fun _ _ _ h => h) (Or.inl ⟨by rfl, ?_⟩) ?_ ?_; rotate_left
      ·intro w'
       go_simp
       with_reducible rfl
      rotate_left
      ·simp only [Act.put, zC, zD, zE, i64_w]
       rfl
      refine take_ (i := 3) (N := some 15) (v := ?_) (a' := ?_) (bA 7 31) rfl rfl (by kernel_rfl) (fun _ _ _ h => h) (Or.inl ⟨by rfl, ?_⟩) hHeld ?_ ?_; rotate_left
      ·intro w' s0
       go_simp
       with_reducible rfl
      rotate_left
      ·simp only [Act.put, zC, zD, zE, i64_w]
       rfl
      refine one_ (i := 5) (N := some 17) (bA 7 63) rfl rfl (by kernel_rfl) (by decide) (fun K hK => ?_); refine goes_ Try.func36 (by kernel_rfl) rfl #[.int .i64 x1_1] (by rfl) rfl rfl (by (try simp only [zAA, zAB, zAC]); first | done | rfl) ?_
      with_reducible refine (laws_markText.calls k1 x1_1 t11 _ A5.out).mono ?_
      rintro e w10 ⟨rfl, hb⟩; refine ⟨_, rfl, ?_⟩; have n0_ := zA (zAD (by (with_reducible repeat first | exact HB.out | apply zH | apply zF | apply zG) <;> exact HB.out) hb); clear HB; have HB := n0_; clear n0_; (try clear hb); refine hK.out _ _ (((HB.out.cell (zB w _ hw12_0)).trans hw12_0)) (fun hHeld => ?_); clear hK K; refine wzN 17 ?_
      refine pure_ (i := 6) (N := some 18) (v := ?_) (a' := ?_) (bA 7 127) rfl rfl (by kernel_rfl) (fun _ _ _ h => h) (Or.inl ⟨by rfl, ?_⟩) ?_ ?_; rotate_left
      ·intro w'
       go_simp
       with_reducible rfl
      rotate_left
      ·simp only [Act.put, zC, zD, zE, i64_w]
       rfl
      refine done_ (by kernel_rfl) ?_
      try go_wp2
      go_ret; exact ⟨by first | rfl | (simp <;> rfl) | (simp [*] <;> rfl), by (with_reducible repeat first | exact HB.out | apply zH | apply zF | apply zG) <;> exact HB.out⟩
    ·rw [if_neg c4] at H
     exact absurd H (by simp)
   ·rw [if_neg c3] at H
    have c3b0 : decide (x5_1 < (l0.length : Int)) = false := decide_eq_false c3; clear c3; obtain rfl := yM H; go_wp2; go_ret; exact ⟨by first | rfl | (simp <;> rfl) | (simp [*] <;> rfl), by (with_reducible repeat first | exact HB.out | apply zH | apply zF | apply zG) <;> exact HB.out⟩
def laws_heldShown.f (k : Nat) (l0_0 : List ByteArray) (l0_1 : List ByteArray) (l0_2 : List ByteArray) (a0_3 : Int) (a1 : Int) : Option (Int) := (laws_heldStringS.f k l0_0 a1).bind fun t10 => (if t10 < 0 then (some (-1)) else ((laws_heldStringS.f k l0_1 t10).bind fun t11 => (if t11 < 0 then (some (-1)) else ((laws_heldStringS.f k l0_2 t11).bind fun t12 => (if t12 < 0 then (some (-1)) else (some t12))))))
theorem laws_heldShown.calls (k : Nat) (A0_0 : Option Addr) (c0_0 : Nat) (l0_0 : List ByteArray) (A0_1 : Option Addr) (c0_1 : Nat) (l0_1 : List ByteArray) (A0_2 : Option Addr) (c0_2 : Nat) (l0_2 : List ByteArray) (a0_3 : Int) (a1 : Int) (r : Int) (w : World) (hr0_0 : Kd.C Kd.string w A0_0 l0_0.length l0_0) (hc0_0 : l0_0.length ≤ c0_0) (hr0_1 : Kd.C Kd.string w A0_1 l0_1.length l0_1) (hc0_1 : l0_1.length ≤ c0_1) (hr0_2 : Kd.C Kd.string w A0_2 l0_2.length l0_2) (hc0_2 : l0_2.length ≤ c0_2) (h : laws_heldShown.f k l0_0 l0_1 l0_2 a0_3 a1 = some r) :
  Calls Try.prog 24 #[.agg #[.slice A0_0 l0_0.length c0_0, .slice A0_1 l0_1.length c0_1, .slice A0_2 l0_2.length c0_2, .int .i64 a0_3], .int .i64 a1] w fun e w' => e = .returned (.int .i64 r) ∧ Below w.heap.size w w' := by
 have hu38 := Try.underlying38; have HR0_0 := zA hr0_0; have HC0_0 := zA hc0_0; clear hr0_0 hc0_0; have HR0_1 := zA hr0_1; have HC0_1 := zA hc0_1; clear hr0_1 hc0_1; have HR0_2 := zA hr0_2; have HC0_2 := zA hc0_2; clear hr0_2 hc0_2; have HB := zA (Below.refl w.heap.size w); have H : ((laws_heldStringS.f k l0_0 a1).bind fun t31 => (if t31 < 0 then (some (-1)) else ((laws_heldStringS.f k l0_1 t31).bind fun t32 => (if t32 < 0 then (some (-1)) else ((laws_heldStringS.f k l0_2 t32).bind fun t33 => (if t33 < 0 then (some (-1)) else (some t33))))))) = some r := h; clear h; replace H := zAF H; obtain ⟨t31, A30, H⟩ := H; replace H : (if t31 < 0 then (some (-1)) else ((laws_heldStringS.f k l0_1 t31).bind fun t32 => (if t32 < 0 then (some (-1)) else ((laws_heldStringS.f k l0_2 t32).bind fun t33 => (if t33 < 0 then (some (-1)) else (some t33)))))) = some r := H; have A3 := zA A30; clear A30
 by_cases c4 : t31 < 0
 ·rw [if_pos c4] at H
  have c4b0 : decide (t31 < 0) = true := zX c4; clear c4; obtain rfl := yM H; go_enter Try.func24, Try.ntmps24; go_wp2_with (first | ((with_reducible refine gate_dst (N := 2) rfl ?_); refine box_event ?hg (N := 2) ?hd (cs := #[.slice A0_0 l0_0.length c0_0, .slice A0_1 l0_1.length c0_1, .slice A0_2 l0_2.length c0_2, .int .i64 a0_3]) (t := 38) ?hr ?_; (case hd => rfl); (case hg => rfl); (case hr => first | (go_simp; done) | (go_simp; rfl)); intro gb34 hg w5 hbox hb; have n0_ := zA (zAD (by (with_reducible repeat first | exact HB.out | apply zH | apply zF | apply zG) <;> exact HB.out) hb); have n1_ := zA (hbox); have n2_ := zA ((by rw [hg]; exact (zAE (by (with_reducible repeat first | exact HB.out | apply zH | apply zF | apply zG) <;> exact HB.out)) : w.heap.size ≤ gb34)); have n3_ := zA ((by rw [hg]; exact (zAE (by (with_reducible repeat first | exact HB.out | apply zH | apply zF | apply zG) <;> exact HB.out)) : w.heap.size ≤ gb34)); clear HB; have HB := n0_; have BK34 := n1_; have GW34 := n2_; have GE34 := n3_; clear n0_ n1_ n2_ n3_; clear hb hbox hg; have hcz6_0 := yL BK34.out 0 (.slice A0_0 l0_0.length c0_0) rfl; have hcz6_1 := yL BK34.out 1 (.slice A0_1 l0_1.length c0_1) rfl; have hcz6_2 := yL BK34.out 2 (.slice A0_2 l0_2.length c0_2) rfl; have hcz6_3 := yL BK34.out 3 (.int .i64 a0_3) rfl; have hfz6_0 := zO BK34.out 0; have hfz6_1 := zO BK34.out 1; have hfz6_2 := zO BK34.out 2; have hfz6_3 := zO BK34.out 3) | ((with_reducible refine yB (f := 37) rfl ?_); refine goesL_ (some 8) rfl rfl Try.func37 (by kernel_rfl) rfl #[.slice A0_0 l0_0.length c0_0, .int .i64 a1] rfl (by (try simp only [zAA, zAB, zAC]); first | done | rfl | (simp only [zZ, zY]; rfl)) ?_; (with_reducible refine (laws_heldStringS.calls k _ _ l0_0 a1 t31 _ ?side1 ?side2 A3.out).mono ?_); (case side1 => repeat (first | exact (yN HR0_0.out HB.out) | (with_reducible first | refine zT ?_ _ | refine zU ?_ _ | refine zV ?_))); (case side2 => exact HC0_0.out); rintro e w7 ⟨rfl, hb⟩; refine ⟨_, rfl, ?_⟩; have n0_ := zA (yE (g := gb34) (o := .cells #[.slice A0_0 l0_0.length c0_0, .slice A0_1 l0_1.length c0_1, .slice A0_2 l0_2.length c0_2, .int .i64 a0_3] 38 (0, 0)) (by (with_reducible repeat (first | refine zL ?_ _ | refine zN ?_ | refine zM ?_ _)); exact BK34.out) hb); have n1_ := zA (zAD (by repeat (first | (with_reducible first | exact HB.out | apply zH | apply zF | apply zG | refine zI ?_ GE34.out) | exact HB.out)) hb); clear BK34; clear HB; have BK34 := n0_; have HB := n1_; clear n0_ n1_; (try clear hb))); go_ret; exact ⟨by first | rfl | (simp <;> rfl) | (simp [*] <;> rfl), by repeat (first | (with_reducible first | exact HB.out | apply zH | apply zF | apply zG | refine zI ?_ GE34.out) | exact HB.out)⟩
 ·rw [if_neg c4] at H
  have c4b0 : decide (t31 < 0) = false := decide_eq_false c4; clear c4; replace H := zAF H; obtain ⟨t32, A80, H⟩ := H; replace H : (if t32 < 0 then (some (-1)) else ((laws_heldStringS.f k l0_2 t32).bind fun t33 => (if t33 < 0 then (some (-1)) else (some t33)))) = some r := H; have A8 := zA A80; clear A80
  by_cases c9 : t32 < 0
  ·rw [if_pos c9] at H
   have c9b0 : decide (t32 < 0) = true := zX c9; clear c9; obtain rfl := yM H; go_enter Try.func24, Try.ntmps24; go_wp2_with (first | ((with_reducible refine gate_dst (N := 2) rfl ?_); refine box_event ?hg (N := 2) ?hd (cs := #[.slice A0_0 l0_0.length c0_0, .slice A0_1 l0_1.length c0_1, .slice A0_2 l0_2.length c0_2, .int .i64 a0_3]) (t := 38) ?hr ?_; (case hd => rfl); (case hg => rfl); (case hr => first | (go_simp; done) | (go_simp; rfl)); intro gb34 hg w10 hbox hb; have n0_ := zA (zAD (by (with_reducible repeat first | exact HB.out | apply zH | apply zF | apply zG) <;> exact HB.out) hb); have n1_ := zA (hbox); have n2_ := zA ((by rw [hg]; exact (zAE (by (with_reducible repeat first | exact HB.out | apply zH | apply zF | apply zG) <;> exact HB.out)) : w.heap.size ≤ gb34)); have n3_ := zA ((by rw [hg]; exact (zAE (by (with_reducible repeat first | exact HB.out | apply zH | apply zF | apply zG) <;> exact HB.out)) : w.heap.size ≤ gb34)); clear HB; have HB := n0_; have BK34 := n1_; have GW34 := n2_; have GE34 := n3_; clear n0_ n1_ n2_ n3_; clear hb hbox hg; have hcz11_0 := yL BK34.out 0 (.slice A0_0 l0_0.length c0_0) rfl; have hcz11_1 := yL BK34.out 1 (.slice A0_1 l0_1.length c0_1) rfl; have hcz11_2 := yL BK34.out 2 (.slice A0_2 l0_2.length c0_2) rfl; have hcz11_3 := yL BK34.out 3 (.int .i64 a0_3) rfl; have hfz11_0 := zO BK34.out 0; have hfz11_1 := zO BK34.out 1; have hfz11_2 := zO BK34.out 2; have hfz11_3 := zO BK34.out 3) | ((with_reducible refine yB (f := 37) rfl ?_); refine goesL_ (some 8) rfl rfl Try.func37 (by kernel_rfl) rfl #[.slice A0_0 l0_0.length c0_0, .int .i64 a1] rfl (by (try simp only [zAA, zAB, zAC]); first | done | rfl | (simp only [zZ, zY]; rfl)) ?_; (with_reducible refine (laws_heldStringS.calls k _ _ l0_0 a1 t31 _ ?side1 ?side2 A3.out).mono ?_); (case side1 => repeat (first | exact (yN HR0_0.out HB.out) | (with_reducible first | refine zT ?_ _ | refine zU ?_ _ | refine zV ?_))); (case side2 => exact HC0_0.out); rintro e w12 ⟨rfl, hb⟩; refine ⟨_, rfl, ?_⟩; have n0_ := zA (yE (g := gb34) (o := .cells #[.slice A0_0 l0_0.length c0_0, .slice A0_1 l0_1.length c0_1, .slice A0_2 l0_2.length c0_2, .int .i64 a0_3] 38 (0, 0)) (by (with_reducible repeat (first | refine zL ?_ _ | refine zN ?_ | refine zM ?_ _)); exact BK34.out) hb); have n1_ := zA (zAD (by repeat (first | (with_reducible first | exact HB.out | apply zH | apply zF | apply zG | refine zI ?_ GE34.out) | exact HB.out)) hb); clear BK34; clear HB; have BK34 := n0_; have HB := n1_; clear n0_ n1_; (try clear hb); have hcz13_0 := yL BK34.out 0 (.slice A0_0 l0_0.length c0_0) rfl; have hcz13_1 := yL BK34.out 1 (.slice A0_1 l0_1.length c0_1) rfl; have hcz13_2 := yL BK34.out 2 (.slice A0_2 l0_2.length c0_2) rfl; have hcz13_3 := yL BK34.out 3 (.int .i64 a0_3) rfl; have hfz13_0 := zO BK34.out 0; have hfz13_1 := zO BK34.out 1; have hfz13_2 := zO BK34.out 2; have hfz13_3 := zO BK34.out 3) | ((with_reducible refine yB (f := 37) rfl ?_); refine goesL_ (some 14) rfl rfl Try.func37 (by kernel_rfl) rfl #[.slice A0_1 l0_1.length c0_1, .int .i64 t31] rfl (by (try simp only [zAA, zAB, zAC]); first | done | rfl | (simp only [zZ, zY]; rfl)) ?_; (with_reducible refine (laws_heldStringS.calls k _ _ l0_1 t31 t32 _ ?side1 ?side2 A8.out).mono ?_); (case side1 => repeat (first | exact (yN HR0_1.out HB.out) | (with_reducible first | refine zT ?_ _ | refine zU ?_ _ | refine zV ?_))); (case side2 => exact HC0_1.out); rintro e w14 ⟨rfl, hb⟩; refine ⟨_, rfl, ?_⟩; have n0_ := zA (yE (g := gb34) (o := .cells #[.slice A0_0 l0_0.length c0_0, .slice A0_1 l0_1.length c0_1, .slice A0_2 l0_2.length c0_2, .int .i64 a0_3] 38 (0, 0)) (by (with_reducible repeat (first | refine zL ?_ _ | refine zN ?_ | refine zM ?_ _)); exact BK34.out) hb); have n1_ := zA (zAD (by repeat (first | (with_reducible first | exact HB.out | apply zH | apply zF | apply zG | refine zI ?_ GE34.out) | exact HB.out)) hb); clear BK34; clear HB; have BK34 := n0_; have HB := n1_; clear n0_ n1_; (try clear hb))); go_ret; exact ⟨by first | rfl | (simp <;> rfl) | (simp [*] <;> rfl), by repeat (first | (with_reducible first | exact HB.out | apply zH | apply zF | apply zG | refine zI ?_ GE34.out) | exact HB.out)⟩
  ·rw [if_neg c9] at H
   have c9b0 : decide (t32 < 0) = false := decide_eq_false c9; clear c9; replace H := zAF H; obtain ⟨t33, A35, H⟩ := H; replace H : (if t33 < 0 then (some (-1)) else (some t33)) = some r := H; have A15 := zA A35; clear A35
   by_cases c16 : t33 < 0
   ·rw [if_pos c16] at H
    have c16b0 : decide (t33 < 0) = true := zX c16; clear c16; obtain rfl := yM H; go_enter Try.func24, Try.ntmps24; go_wp2_with (first | ((with_reducible refine gate_dst (N := 2) rfl ?_); refine box_event ?hg (N := 2) ?hd (cs := #[.slice A0_0 l0_0.length c0_0, .slice A0_1 l0_1.length c0_1, .slice A0_2 l0_2.length c0_2, .int .i64 a0_3]) (t := 38) ?hr ?_; (case hd => rfl); (case hg => rfl); (case hr => first | (go_simp; done) | (go_simp; rfl)); intro gb34 hg w17 hbox hb; have n0_ := zA (zAD (by (with_reducible repeat first | exact HB.out | apply zH | apply zF | apply zG) <;> exact HB.out) hb); have n1_ := zA (hbox); have n2_ := zA ((by rw [hg]; exact (zAE (by (with_reducible repeat first | exact HB.out | apply zH | apply zF | apply zG) <;> exact HB.out)) : w.heap.size ≤ gb34)); have n3_ := zA ((by rw [hg]; exact (zAE (by (with_reducible repeat first | exact HB.out | apply zH | apply zF | apply zG) <;> exact HB.out)) : w.heap.size ≤ gb34)); clear HB; have HB := n0_; have BK34 := n1_; have GW34 := n2_; have GE34 := n3_; clear n0_ n1_ n2_ n3_; clear hb hbox hg; have hcz18_0 := yL BK34.out 0 (.slice A0_0 l0_0.length c0_0) rfl; have hcz18_1 := yL BK34.out 1 (.slice A0_1 l0_1.length c0_1) rfl; have hcz18_2 := yL BK34.out 2 (.slice A0_2 l0_2.length c0_2) rfl; have hcz18_3 := yL BK34.out 3 (.int .i64 a0_3) rfl; have hfz18_0 := zO BK34.out 0; have hfz18_1 := zO BK34.out 1; have hfz18_2 := zO BK34.out 2; have hfz18_3 := zO BK34.out 3) | ((with_reducible refine yB (f := 37) rfl ?_); refine goesL_ (some 8) rfl rfl Try.func37 (by kernel_rfl) rfl #[.slice A0_0 l0_0.length c0_0, .int .i64 a1] rfl (by (try simp only [zAA, zAB, zAC]); first | done | rfl | (simp only [zZ, zY]; rfl)) ?_; (with_reducible refine (laws_heldStringS.calls k _ _ l0_0 a1 t31 _ ?side1 ?side2 A3.out).mono ?_); (case side1 => repeat (first | exact (yN HR0_0.out HB.out) | (with_reducible first | refine zT ?_ _ | refine zU ?_ _ | refine zV ?_))); (case side2 => exact HC0_0.out); rintro e w19 ⟨rfl, hb⟩; refine ⟨_, rfl, ?_⟩; have n0_ := zA (yE (g := gb34) (o := .cells #[.slice A0_0 l0_0.length c0_0, .slice A0_1 l0_1.length c0_1, .slice A0_2 l0_2.length c0_2, .int .i64 a0_3] 38 (0, 0)) (by (with_reducible repeat (first | refine zL ?_ _ | refine zN ?_ | refine zM ?_ _)); exact BK34.out) hb); have n1_ := zA (zAD (by repeat (first | (with_reducible first | exact HB.out | apply zH | apply zF | apply zG | refine zI ?_ GE34.out) | exact HB.out)) hb); clear BK34; clear HB; have BK34 := n0_; have HB := n1_; clear n0_ n1_; (try clear hb); have hcz20_0 := yL BK34.out 0 (.slice A0_0 l0_0.length c0_0) rfl; have hcz20_1 := yL BK34.out 1 (.slice A0_1 l0_1.length c0_1) rfl; have hcz20_2 := yL BK34.out 2 (.slice A0_2 l0_2.length c0_2) rfl; have hcz20_3 := yL BK34.out 3 (.int .i64 a0_3) rfl; have hfz20_0 := zO BK34.out 0; have hfz20_1 := zO BK34.out 1; have hfz20_2 := zO BK34.out 2; have hfz20_3 := zO BK34.out 3) | ((with_reducible refine yB (f := 37) rfl ?_); refine goesL_ (some 14) rfl rfl Try.func37 (by kernel_rfl) rfl #[.slice A0_1 l0_1.length c0_1, .int .i64 t31] rfl (by (try simp only [zAA, zAB, zAC]); first | done | rfl | (simp only [zZ, zY]; rfl)) ?_; (with_reducible refine (laws_heldStringS.calls k _ _ l0_1 t31 t32 _ ?side1 ?side2 A8.out).mono ?_); (case side1 => repeat (first | exact (yN HR0_1.out HB.out) | (with_reducible first | refine zT ?_ _ | refine zU ?_ _ | refine zV ?_))); (case side2 => exact HC0_1.out); rintro e w21 ⟨rfl, hb⟩; refine ⟨_, rfl, ?_⟩; have n0_ := zA (yE (g := gb34) (o := .cells #[.slice A0_0 l0_0.length c0_0, .slice A0_1 l0_1.length c0_1, .slice A0_2 l0_2.length c0_2, .int .i64 a0_3] 38 (0, 0)) (by (with_reducible repeat (first | refine zL ?_ _ | refine zN ?_ | refine zM ?_ _)); exact BK34.out) hb); have n1_ := zA (zAD (by repeat (first | (with_reducible first | exact HB.out | apply zH | apply zF | apply zG | refine zI ?_ GE34.out) | exact HB.out)) hb); clear BK34; clear HB; have BK34 := n0_; have HB := n1_; clear n0_ n1_; (try clear hb); have hcz22_0 := yL BK34.out 0 (.slice A0_0 l0_0.length c0_0) rfl; have hcz22_1 := yL BK34.out 1 (.slice A0_1 l0_1.length c0_1) rfl; have hcz22_2 := yL BK34.out 2 (.slice A0_2 l0_2.length c0_2) rfl; have hcz22_3 := yL BK34.out 3 (.int .i64 a0_3) rfl; have hfz22_0 := zO BK34.out 0; have hfz22_1 := zO BK34.out 1; have hfz22_2 := zO BK34.out 2; have hfz22_3 := zO BK34.out 3) | ((with_reducible refine yB (f := 37) rfl ?_); refine goesL_ (some 20) rfl rfl Try.func37 (by kernel_rfl) rfl #[.slice A0_2 l0_2.length c0_2, .int .i64 t32] rfl (by (try simp only [zAA, zAB, zAC]); first | done | rfl | (simp only [zZ, zY]; rfl)) ?_; (with_reducible refine (laws_heldStringS.calls k _ _ l0_2 t32 t33 _ ?side1 ?side2 A15.out).mono ?_); (case side1 => repeat (first | exact (yN HR0_2.out HB.out) | (with_reducible first | refine zT ?_ _ | refine zU ?_ _ | refine zV ?_))); (case side2 => exact HC0_2.out); rintro e w23 ⟨rfl, hb⟩; refine ⟨_, rfl, ?_⟩; have n0_ := zA (yE (g := gb34) (o := .cells #[.slice A0_0 l0_0.length c0_0, .slice A0_1 l0_1.length c0_1, .slice A0_2 l0_2.length c0_2, .int .i64 a0_3] 38 (0, 0)) (by (with_reducible repeat (first | refine zL ?_ _ | refine zN ?_ | refine zM ?_ _)); exact BK34.out) hb); have n1_ := zA (zAD (by repeat (first | (with_reducible first | exact HB.out | apply zH | apply zF | apply zG | refine zI ?_ GE34.out) | exact HB.out)) hb); clear BK34; clear HB; have BK34 := n0_; have HB := n1_; clear n0_ n1_; (try clear hb)))
    go_ret; exact ⟨by first | rfl | (simp <;> rfl) | (simp [*] <;> rfl), by repeat (first | (with_reducible first | exact HB.out | apply zH | apply zF | apply zG | refine zI ?_ GE34.out) | exact HB.out)⟩
   ·rw [if_neg c16] at H
    have c16b0 : decide (t33 < 0) = false := decide_eq_false c16; clear c16; obtain rfl := yM H; go_enter Try.func24, Try.ntmps24; go_wp2_with (first | ((with_reducible refine gate_dst (N := 2) rfl ?_); refine box_event ?hg (N := 2) ?hd (cs := #[.slice A0_0 l0_0.length c0_0, .slice A0_1 l0_1.length c0_1, .slice A0_2 l0_2.length c0_2, .int .i64 a0_3]) (t := 38) ?hr ?_; (case hd => rfl); (case hg => rfl); (case hr => first | (go_simp; done) | (go_simp; rfl)); intro gb34 hg w24 hbox hb; have n0_ := zA (zAD (by (with_reducible repeat first | exact HB.out | apply zH | apply zF | apply zG) <;> exact HB.out) hb); have n1_ := zA (hbox); have n2_ := zA ((by rw [hg]; exact (zAE (by (with_reducible repeat first | exact HB.out | apply zH | apply zF | apply zG) <;> exact HB.out)) : w.heap.size ≤ gb34)); have n3_ := zA ((by rw [hg]; exact (zAE (by (with_reducible repeat first | exact HB.out | apply zH | apply zF | apply zG) <;> exact HB.out)) : w.heap.size ≤ gb34)); clear HB; have HB := n0_; have BK34 := n1_; have GW34 := n2_; have GE34 := n3_; clear n0_ n1_ n2_ n3_; clear hb hbox hg; have hcz25_0 := yL BK34.out 0 (.slice A0_0 l0_0.length c0_0) rfl; have hcz25_1 := yL BK34.out 1 (.slice A0_1 l0_1.length c0_1) rfl; have hcz25_2 := yL BK34.out 2 (.slice A0_2 l0_2.length c0_2) rfl; have hcz25_3 := yL BK34.out 3 (.int .i64 a0_3) rfl; have hfz25_0 := zO BK34.out 0; have hfz25_1 := zO BK34.out 1; have hfz25_2 := zO BK34.out 2; have hfz25_3 := zO BK34.out 3) | ((with_reducible refine yB (f := 37) rfl ?_); refine goesL_ (some 8) rfl rfl Try.func37 (by kernel_rfl) rfl #[.slice A0_0 l0_0.length c0_0, .int .i64 a1] rfl (by (try simp only [zAA, zAB, zAC]); first | done | rfl | (simp only [zZ, zY]; rfl)) ?_; (with_reducible refine (laws_heldStringS.calls k _ _ l0_0 a1 t31 _ ?side1 ?side2 A3.out).mono ?_); (case side1 => repeat (first | exact (yN HR0_0.out HB.out) | (with_reducible first | refine zT ?_ _ | refine zU ?_ _ | refine zV ?_))); (case side2 => exact HC0_0.out); rintro e w26 ⟨rfl, hb⟩; refine ⟨_, rfl, ?_⟩; have n0_ := zA (yE (g := gb34) (o := .cells #[.slice A0_0 l0_0.length c0_0, .slice A0_1 l0_1.length c0_1, .slice A0_2 l0_2.length c0_2, .int .i64 a0_3] 38 (0, 0)) (by (with_reducible repeat (first | refine zL ?_ _ | refine zN ?_ | refine zM ?_ _)); exact BK34.out) hb); have n1_ := zA (zAD (by repeat (first | (with_reducible first | exact HB.out | apply zH | apply zF | apply zG | refine zI ?_ GE34.out) | exact HB.out)) hb); clear BK34; clear HB; have BK34 := n0_; have HB := n1_; clear n0_ n1_; (try clear hb); have hcz27_0 := yL BK34.out 0 (.slice A0_0 l0_0.length c0_0) rfl; have hcz27_1 := yL BK34.out 1 (.slice A0_1 l0_1.length c0_1) rfl; have hcz27_2 := yL BK34.out 2 (.slice A0_2 l0_2.length c0_2) rfl; have hcz27_3 := yL BK34.out 3 (.int .i64 a0_3) rfl; have hfz27_0 := zO BK34.out 0; have hfz27_1 := zO BK34.out 1; have hfz27_2 := zO BK34.out 2; have hfz27_3 := zO BK34.out 3) | ((with_reducible refine yB (f := 37) rfl ?_); refine goesL_ (some 14) rfl rfl Try.func37 (by kernel_rfl) rfl #[.slice A0_1 l0_1.length c0_1, .int .i64 t31] rfl (by (try simp only [zAA, zAB, zAC]); first | done | rfl | (simp only [zZ, zY]; rfl)) ?_; (with_reducible refine (laws_heldStringS.calls k _ _ l0_1 t31 t32 _ ?side1 ?side2 A8.out).mono ?_); (case side1 => repeat (first | exact (yN HR0_1.out HB.out) | (with_reducible first | refine zT ?_ _ | refine zU ?_ _ | refine zV ?_))); (case side2 => exact HC0_1.out); rintro e w28 ⟨rfl, hb⟩; refine ⟨_, rfl, ?_⟩; have n0_ := zA (yE (g := gb34) (o := .cells #[.slice A0_0 l0_0.length c0_0, .slice A0_1 l0_1.length c0_1, .slice A0_2 l0_2.length c0_2, .int .i64 a0_3] 38 (0, 0)) (by (with_reducible repeat (first | refine zL ?_ _ | refine zN ?_ | refine zM ?_ _)); exact BK34.out) hb); have n1_ := zA (zAD (by repeat (first | (with_reducible first | exact HB.out | apply zH | apply zF | apply zG | refine zI ?_ GE34.out) | exact HB.out)) hb); clear BK34; clear HB; have BK34 := n0_; have HB := n1_; clear n0_ n1_; (try clear hb); have hcz29_0 := yL BK34.out 0 (.slice A0_0 l0_0.length c0_0) rfl; have hcz29_1 := yL BK34.out 1 (.slice A0_1 l0_1.length c0_1) rfl; have hcz29_2 := yL BK34.out 2 (.slice A0_2 l0_2.length c0_2) rfl; have hcz29_3 := yL BK34.out 3 (.int .i64 a0_3) rfl; have hfz29_0 := zO BK34.out 0; have hfz29_1 := zO BK34.out 1; have hfz29_2 := zO BK34.out 2; have hfz29_3 := zO BK34.out 3) | ((with_reducible refine yB (f := 37) rfl ?_); refine goesL_ (some 20) rfl rfl Try.func37 (by kernel_rfl) rfl #[.slice A0_2 l0_2.length c0_2, .int .i64 t32] rfl (by (try simp only [zAA, zAB, zAC]); first | done | rfl | (simp only [zZ, zY]; rfl)) ?_; (with_reducible refine (laws_heldStringS.calls k _ _ l0_2 t32 t33 _ ?side1 ?side2 A15.out).mono ?_); (case side1 => repeat (first | exact (yN HR0_2.out HB.out) | (with_reducible first | refine zT ?_ _ | refine zU ?_ _ | refine zV ?_))); (case side2 => exact HC0_2.out); rintro e w30 ⟨rfl, hb⟩; refine ⟨_, rfl, ?_⟩; have n0_ := zA (yE (g := gb34) (o := .cells #[.slice A0_0 l0_0.length c0_0, .slice A0_1 l0_1.length c0_1, .slice A0_2 l0_2.length c0_2, .int .i64 a0_3] 38 (0, 0)) (by (with_reducible repeat (first | refine zL ?_ _ | refine zN ?_ | refine zM ?_ _)); exact BK34.out) hb); have n1_ := zA (zAD (by repeat (first | (with_reducible first | exact HB.out | apply zH | apply zF | apply zG | refine zI ?_ GE34.out) | exact HB.out)) hb); clear BK34; clear HB; have BK34 := n0_; have HB := n1_; clear n0_ n1_; (try clear hb)))
    go_ret; exact ⟨by first | rfl | (simp <;> rfl) | (simp [*] <;> rfl), by repeat (first | (with_reducible first | exact HB.out | apply zH | apply zF | apply zG | refine zI ?_ GE34.out) | exact HB.out)⟩
def impl_areRising.l0 : Nat → List ByteArray → List ByteArray → Int → Int → Option (Bool)
 | 0, _, _, _, _ => none
 | k + 1, x0, x5, x6, x7 => if x7 < x6 then (if 0 ≤ x7 then (if x7 < (x5.length : Int) then ((impl_isKey.f (rdOf ByteArray.empty x5 x7)).bind fun t10 => (if t10 = true then (if x7 > 0 then (if 0 ≤ (wrap64 (x7 - 1)) then (if (wrap64 (x7 - 1)) < (x0.length : Int) then (if ((Op.bytesLess ((rdOf ByteArray.empty x0 (wrap64 (x7 - 1))).toList) ((rdOf ByteArray.empty x5 x7).toList)) = true) then (impl_areRising.l0 k x0 x5 x6 (wrap64 (x7 + 1))) else (some false)) else (none)) else (none)) else (impl_areRising.l0 k x0 x5 x6 (wrap64 (x7 + 1)))) else (some false))) else (none)) else (none)) else (some true)
def impl_areRising.f (k : Nat) (l0 : List ByteArray) : Option (Bool) := impl_areRising.l0 k l0 l0 (l0.length : Int) 0
theorem impl_areRising.calls (k : Nat) (A0 : Option Addr) (c0 : Nat) (l0 : List ByteArray) (r : Bool) (w : World) (hr0 : Kd.C Kd.string w A0 l0.length l0) (hc0 : l0.length ≤ c0) (h : impl_areRising.f k l0 = some r) :
  Calls Try.prog 92 #[.slice A0 l0.length c0] w fun e w' => e = .returned (.bool r) ∧ Drawn0 w w' := by
 have HR0 := zA hr0; have HC0 := zA hc0; clear hr0 hc0; have H : (impl_areRising.l0 k l0 l0 (l0.length : Int) 0) = some r := h; clear h; have H' := zA H; clear H; go_enter Try.func92, Try.ntmps92; go_wp2; go_loopg [7] k (fun kq v7 w' => ∃ (x7_1 : Int), v7 = .int .i64 x7_1 ∧ Aside0 (impl_areRising.l0 kq l0 l0 (l0.length : Int) x7_1 = some r) ∧ Aside0 (kq ≤ k) ∧ Drawn0 w w')
 case atStart => exact ⟨(0), (by first | rfl | (simp; done) | (simp [*]; done) | (simp [bne]; done)), H', ⟨Nat.le_refl _⟩, by repeat (first | exact Drawn0.refl _ | apply Drawn0.step)⟩
 case round =>
  clear H'; obtain ⟨x7_1, rfl, HA, HK1, ⟨m1, rfl⟩⟩ := hrel
  cases gk with
  | zero => exact absurd HA.out (by simp [impl_areRising.l0])
  | succ k1 =>
   have H := HA.out; clear HA; simp only [impl_areRising.l0] at H
   by_cases c2 : x7_1 < (l0.length : Int)
   ·rw [if_pos c2] at H
    have c2b0 : decide (x7_1 < (l0.length : Int)) = true := zX c2; clear c2
    by_cases c3 : 0 ≤ x7_1
    ·rw [if_pos c3] at H
     have c3b0 : decide (0 ≤ x7_1) = true := zX c3; clear c3
     by_cases c4 : x7_1 < (l0.length : Int)
     ·rw [if_pos c4] at H
      have c4b0 : decide (x7_1 < (l0.length : Int)) = true := zX c4; clear c4; replace H := zAF H; obtain ⟨t12, A50, H⟩ := H; replace H : (if t12 = true then (if x7_1 > 0 then (if 0 ≤ (wrap64 (x7_1 - 1)) then (if (wrap64 (x7_1 - 1)) < (l0.length : Int) then (if ((Op.bytesLess ((rdOf ByteArray.empty l0 (wrap64 (x7_1 - 1))).toList) ((rdOf ByteArray.empty l0 x7_1).toList)) = true) then (impl_areRising.l0 k1 l0 l0 (l0.length : Int) (wrap64 (x7_1 + 1))) else (some false)) else (none)) else (none)) else (impl_areRising.l0 k1 l0 l0 (l0.length : Int) (wrap64 (x7_1 + 1)))) else (some false)) = some r := H; have A5 := zA A50; clear A50
      by_cases c6 : t12 = true
      ·subst c6
       have H1 : (if x7_1 > 0 then (if 0 ≤ (wrap64 (x7_1 - 1)) then (if (wrap64 (x7_1 - 1)) < (l0.length : Int) then (if ((Op.bytesLess ((rdOf ByteArray.empty l0 (wrap64 (x7_1 - 1))).toList) ((rdOf ByteArray.empty l0 x7_1).toList)) = true) then (impl_areRising.l0 k1 l0 l0 (l0.length : Int) (wrap64 (x7_1 + 1))) else (some false)) else (none)) else (none)) else (impl_areRising.l0 k1 l0 l0 (l0.length : Int) (wrap64 (x7_1 + 1)))) = some r := by rw [if_pos rfl] at H; exact H
       clear H; have H := H1; clear H1
       by_cases c7 : x7_1 > 0
       ·rw [if_pos c7] at H
        have c7b0 : decide (0 < x7_1) = true := zX c7; clear c7; obtain ⟨ji8, hji8⟩ : ∃ j_ : Int, (wrap64 (x7_1 - 1)) = j_ := ⟨_, rfl⟩; replace H : (if 0 ≤ (ji8) then (if (ji8) < (l0.length : Int) then (if ((Op.bytesLess ((rdOf ByteArray.empty l0 (ji8)).toList) ((rdOf ByteArray.empty l0 x7_1).toList)) = true) then (impl_areRising.l0 k1 l0 l0 (l0.length : Int) (wrap64 (x7_1 + 1))) else (some false)) else (none)) else (none)) = some r := by first | (rw [hji8] at H; exact H) | (simp only [hji8] at H ⊢; exact H)
        (try rw [hji8] at A5); have hji8w : (IntKind.i64.wrap (x7_1 - 1)) = ji8 := (i64_w _).trans hji8
        by_cases c9 : 0 ≤ (ji8)
        ·rw [if_pos c9] at H
         have c9b0 : decide (0 ≤ (ji8)) = true := zX c9; clear c9
         by_cases c10 : (ji8) < (l0.length : Int)
         ·rw [if_pos c10] at H
          have c10b0 : decide ((ji8) < (l0.length : Int)) = true := zX c10; clear c10
          by_cases c11 : ((Op.bytesLess ((rdOf ByteArray.empty l0 (ji8)).toList) ((rdOf ByteArray.empty l0 x7_1).toList)) = true)
          ·rw [if_pos c11] at H
           have c11b0 : (Op.bytesLess ((rdOf ByteArray.empty l0 (ji8)).toList) ((rdOf ByteArray.empty l0 x7_1).toList)) = true := c11; clear c11; have H' := zA H; clear H; have p13 : 0 ≤ (x7_1 : Int) := zW (by first | (with_reducible assumption) | assumption); have q13 : x7_1 < (l0.length : Int) := zW (by first | (with_reducible assumption) | assumption); obtain ⟨ad13, e13, hx13_0⟩ := Kd.at_string HR0.out x7_1 p13 q13
           cases e13
           replace p13 := eq_true p13; replace q13 := eq_true q13; go_wp2_with (first | ((with_reducible refine yB (f := 61) rfl ?_); refine goesL_ (some 13) rfl rfl Try.func61 (by kernel_rfl) rfl #[.string (rdOf ByteArray.empty l0 x7_1)] rfl (by (try simp only [zAA, zAB, zAC]); first | done | rfl) ?_; (with_reducible refine (impl_isKey.calls (rdOf ByteArray.empty l0 x7_1) true _ A5.out).mono ?_); rintro e w' ⟨rfl, ⟨nd, rfl⟩⟩; refine ⟨_, rfl, ?_⟩; have p14 : 0 ≤ ((ji8) : Int) := zW (by first | (with_reducible assumption) | assumption); have q14 : (ji8) < (l0.length : Int) := zW (by first | (with_reducible assumption) | assumption); obtain ⟨ad14, e14, hx14_0⟩ := Kd.at_string HR0.out (ji8) p14 q14; obtain rfl : ad13 = ad14 := (by injection e14); replace p14 := eq_true p14; replace q14 := eq_true q14)); go_roundg k1
           case measure => have := HK1.out; omega
           case rel => exact ⟨(wrap64 (x7_1 + 1)), (by first | rfl | (simp; done) | (simp [*]; done) | (simp [bne]; done)), H', ⟨by have := HK1.out; omega⟩, by repeat (first | exact Drawn0.refl _ | apply Drawn0.step)⟩
          ·rw [if_neg c11] at H
           have c11b0 : (Op.bytesLess ((rdOf ByteArray.empty l0 (ji8)).toList) ((rdOf ByteArray.empty l0 x7_1).toList)) = false := by simpa using c11
           clear c11; obtain rfl := yM H; have p13 : 0 ≤ (x7_1 : Int) := zW (by first | (with_reducible assumption) | assumption); have q13 : x7_1 < (l0.length : Int) := zW (by first | (with_reducible assumption) | assumption); obtain ⟨ad13, e13, hx13_0⟩ := Kd.at_string HR0.out x7_1 p13 q13
           cases e13
           replace p13 := eq_true p13; replace q13 := eq_true q13; go_wp2_with (first | ((with_reducible refine yB (f := 61) rfl ?_); refine goesL_ (some 13) rfl rfl Try.func61 (by kernel_rfl) rfl #[.string (rdOf ByteArray.empty l0 x7_1)] rfl (by (try simp only [zAA, zAB, zAC]); first | done | rfl) ?_; (with_reducible refine (impl_isKey.calls (rdOf ByteArray.empty l0 x7_1) true _ A5.out).mono ?_); rintro e w' ⟨rfl, ⟨nd, rfl⟩⟩; refine ⟨_, rfl, ?_⟩; have p14 : 0 ≤ ((ji8) : Int) := zW (by first | (with_reducible assumption) | assumption); have q14 : (ji8) < (l0.length : Int) := zW (by first | (with_reducible assumption) | assumption); obtain ⟨ad14, e14, hx14_0⟩ := Kd.at_string HR0.out (ji8) p14 q14; obtain rfl : ad13 = ad14 := (by injection e14); replace p14 := eq_true p14; replace q14 := eq_true q14)); go_ret; exact ⟨by first | rfl | (simp; done) | (simp only [← hji8] <;> (first | rfl | simp)) | (simp [*]; done), by repeat (first | exact Drawn0.refl _ | apply Drawn0.step)⟩
         ·rw [if_neg c10] at H
          exact absurd H (by simp)
        ·rw [if_neg c9] at H
         exact absurd H (by simp)
       ·rw [if_neg c7] at H
        have c7b0 : decide (0 < x7_1) = false := decide_eq_false c7; clear c7; have H' := zA H; clear H; have p13 : 0 ≤ (x7_1 : Int) := zW (by first | (with_reducible assumption) | assumption); have q13 : x7_1 < (l0.length : Int) := zW (by first | (with_reducible assumption) | assumption); obtain ⟨ad13, e13, hx13_0⟩ := Kd.at_string HR0.out x7_1 p13 q13
        cases e13
        replace p13 := eq_true p13; replace q13 := eq_true q13; go_wp2_with (first | ((with_reducible refine yB (f := 61) rfl ?_); refine goesL_ (some 13) rfl rfl Try.func61 (by kernel_rfl) rfl #[.string (rdOf ByteArray.empty l0 x7_1)] rfl (by (try simp only [zAA, zAB, zAC]); first | done | rfl) ?_; (with_reducible refine (impl_isKey.calls (rdOf ByteArray.empty l0 x7_1) true _ A5.out).mono ?_); rintro e w' ⟨rfl, ⟨nd, rfl⟩⟩; refine ⟨_, rfl, ?_⟩)); go_roundg k1
        case measure => have := HK1.out; omega
        case rel => exact ⟨(wrap64 (x7_1 + 1)), (by first | rfl | (simp; done) | (simp [*]; done) | (simp [bne]; done)), H', ⟨by have := HK1.out; omega⟩, by repeat (first | exact Drawn0.refl _ | apply Drawn0.step)⟩
      ·replace c6 := yO c6
       subst c6; have H1 : (some false) = some r := by rw [if_neg (show ¬ (false = true) by decide)] at H; exact H
       clear H; have H := H1; clear H1; obtain rfl := yM H; have p13 : 0 ≤ (x7_1 : Int) := zW (by first | (with_reducible assumption) | assumption); have q13 : x7_1 < (l0.length : Int) := zW (by first | (with_reducible assumption) | assumption); obtain ⟨ad13, e13, hx13_0⟩ := Kd.at_string HR0.out x7_1 p13 q13
       cases e13
       replace p13 := eq_true p13; replace q13 := eq_true q13; go_wp2_with (first | ((with_reducible refine yB (f := 61) rfl ?_); refine goesL_ (some 13) rfl rfl Try.func61 (by kernel_rfl) rfl #[.string (rdOf ByteArray.empty l0 x7_1)] rfl (by (try simp only [zAA, zAB, zAC]); first | done | rfl) ?_; (with_reducible refine (impl_isKey.calls (rdOf ByteArray.empty l0 x7_1) false _ A5.out).mono ?_); rintro e w' ⟨rfl, ⟨nd, rfl⟩⟩; refine ⟨_, rfl, ?_⟩)); go_ret; exact ⟨by first | rfl | (simp; done) | (simp [*]; done) | (simp [bne]; done), by repeat (first | exact Drawn0.refl _ | apply Drawn0.step)⟩
     ·rw [if_neg c4] at H
      exact absurd H (by simp)
    ·rw [if_neg c3] at H
     exact absurd H (by simp)
   ·rw [if_neg c2] at H
    have c2b0 : decide (x7_1 < (l0.length : Int)) = false := decide_eq_false c2; clear c2; obtain rfl := yM H; go_wp2; go_ret; exact ⟨by first | rfl | (simp; done) | (simp [*]; done) | (simp [bne]; done), by repeat (first | exact Drawn0.refl _ | apply Drawn0.step)⟩
def impl_isVal.f (a0 : ByteArray) : Option (Bool) := some (decide ((a0.size : Int) ≤ 12))
theorem impl_isVal.calls (a0 : ByteArray) (r : Bool) (w : World) (h : impl_isVal.f a0 = some r) :
  Calls Try.prog 94 #[.string a0] w fun e w' => e = .returned (.bool r) ∧ Drawn0 w w' := by
 have H : (some (decide ((a0.size : Int) ≤ 12))) = some r := h; clear h; obtain rfl := yM H; go_enter Try.func94, Try.ntmps94; go_wp2; go_ret; exact ⟨by first | rfl | (simp; done) | (simp [*]; done) | (simp [bne]; done), by repeat (first | exact Drawn0.refl _ | apply Drawn0.step)⟩
def impl_arePairs_1.f (a0 : ByteArray) : Option (Bool) := (impl_isVal.f a0).bind fun t10 => (some (!t10))
theorem impl_arePairs_1.calls (a0 : ByteArray) (r : Bool) (w : World) (h : impl_arePairs_1.f a0 = some r) :
  Calls Try.prog 93 #[.string a0] w fun e w' => e = .returned (.bool r) ∧ Drawn0 w w' := by
 have H : ((impl_isVal.f a0).bind fun t10 => (some (!t10))) = some r := h; clear h; replace H := zAF H; obtain ⟨t10, A20, H⟩ := H; replace H : (some (!t10)) = some r := H; have A2 := zA A20; clear A20; obtain rfl := yM H; go_enter Try.func93, Try.ntmps93; go_wp2_with (first | ((with_reducible refine yB (f := 94) rfl ?_); refine goesL_ (some 4) rfl rfl Try.func94 (by kernel_rfl) rfl #[.string a0] rfl (by (try simp only [zAA, zAB, zAC]); first | done | rfl) ?_; (with_reducible refine (impl_isVal.calls a0 t10 _ A2.out).mono ?_); rintro e w' ⟨rfl, ⟨nd, rfl⟩⟩; refine ⟨_, rfl, ?_⟩)); go_ret; exact ⟨by first | rfl | (simp; done) | (simp [*]; done) | (simp [bne]; done), by repeat (first | exact Drawn0.refl _ | apply Drawn0.step)⟩
def slices_IndexFunc_impl_arePairs_1.l0 : Nat → List ByteArray → Int → Int → Option (Int)
 | 0, _, _, _ => none
 | k + 1, x0, x7, x8 => if x8 < x7 then (if 0 ≤ x8 then (if x8 < (x0.length : Int) then ((impl_arePairs_1.f (rdOf ByteArray.empty x0 x8)).bind fun t10 => (if t10 = true then (some x8) else (slices_IndexFunc_impl_arePairs_1.l0 k x0 x7 (wrap64 (x8 + 1))))) else (none)) else (none)) else (some (-1))
def slices_IndexFunc_impl_arePairs_1.f (k : Nat) (l0 : List ByteArray)  : Option (Int) := slices_IndexFunc_impl_arePairs_1.l0 k l0 (l0.length : Int) 0
theorem slices_IndexFunc_impl_arePairs_1.calls (k : Nat) (A0 : Option Addr) (c0 : Nat) (l0 : List ByteArray)  (r : Int) (w : World) (hr0 : Kd.C Kd.string w A0 l0.length l0) (hc0 : l0.length ≤ c0) (h : slices_IndexFunc_impl_arePairs_1.f k l0 = some r) :
  Calls Try.prog 75 #[.slice A0 l0.length c0, .func (.func 93) #[] #[]] w fun e w' => e = .returned (.int .i64 r) ∧ Drawn0 w w' := by
 have HR0 := zA hr0; have HC0 := zA hc0; clear hr0 hc0; have H : (slices_IndexFunc_impl_arePairs_1.l0 k l0 (l0.length : Int) 0) = some r := h; clear h; have H' := zA H; clear H; go_enter Try.func75, Try.ntmps75; go_wp2; go_loopg [8] k (fun kq v8 w' => ∃ (x8_1 : Int), v8 = .int .i64 x8_1 ∧ Aside0 (slices_IndexFunc_impl_arePairs_1.l0 kq l0 (l0.length : Int) x8_1 = some r) ∧ Aside0 (kq ≤ k) ∧ Drawn0 w w')
 case atStart => exact ⟨(0), (by first | rfl | (simp; done) | (simp [*]; done) | (simp [bne]; done)), H', ⟨Nat.le_refl _⟩, by repeat (first | exact Drawn0.refl _ | apply Drawn0.step)⟩
 case round =>
  clear H'
  try clear p2
  obtain ⟨x8_1, rfl, HA, HK1, ⟨m1, rfl⟩⟩ := hrel
  cases gk with
  | zero => exact absurd HA.out (by simp [slices_IndexFunc_impl_arePairs_1.l0])
  | succ k1 =>
   have H := HA.out; clear HA; simp only [slices_IndexFunc_impl_arePairs_1.l0] at H
   by_cases c3 : x8_1 < (l0.length : Int)
   ·rw [if_pos c3] at H
    have c3b0 : decide (x8_1 < (l0.length : Int)) = true := zX c3; clear c3
    by_cases c4 : 0 ≤ x8_1
    ·rw [if_pos c4] at H
     have c4b0 : decide (0 ≤ x8_1) = true := zX c4; clear c4
     by_cases c5 : x8_1 < (l0.length : Int)
     ·rw [if_pos c5] at H
      have c5b0 : decide (x8_1 < (l0.length : Int)) = true := zX c5; clear c5; replace H := zAF H; obtain ⟨t10, A60, H⟩ := H; replace H : (if t10 = true then (some x8_1) else (slices_IndexFunc_impl_arePairs_1.l0 k1 l0 (l0.length : Int) (wrap64 (x8_1 + 1)))) = some r := H; have A6 := zA A60; clear A60
      by_cases c7 : t10 = true
      ·subst c7
       have H1 : (some x8_1) = some r := by rw [if_pos rfl] at H; exact H
       clear H; have H := H1; clear H1; obtain rfl := yM H; have p11 : 0 ≤ (x8_1 : Int) := zW (by first | (with_reducible assumption) | assumption); have q11 : x8_1 < (l0.length : Int) := zW (by first | (with_reducible assumption) | assumption); obtain ⟨ad11, e11, hx11_0⟩ := Kd.at_string HR0.out x8_1 p11 q11
       cases e11
       replace p11 := eq_true p11; replace q11 := eq_true q11; go_wp2_with (first | (go_at_call 93; (with_reducible refine (impl_arePairs_1.calls (rdOf ByteArray.empty l0 x8_1) true _ A6.out).mono ?_); rintro e w' ⟨rfl, ⟨nd, rfl⟩⟩)); go_ret; exact ⟨by first | rfl | (simp; done) | (simp [*]; done) | (simp [bne]; done), by repeat (first | exact Drawn0.refl _ | apply Drawn0.step)⟩
      ·replace c7 := yO c7
       subst c7; have H1 : (slices_IndexFunc_impl_arePairs_1.l0 k1 l0 (l0.length : Int) (wrap64 (x8_1 + 1))) = some r := by rw [if_neg (show ¬ (false = true) by decide)] at H; exact H
       clear H; have H := H1; clear H1; have H' := zA H; clear H; have p11 : 0 ≤ (x8_1 : Int) := zW (by first | (with_reducible assumption) | assumption); have q11 : x8_1 < (l0.length : Int) := zW (by first | (with_reducible assumption) | assumption); obtain ⟨ad11, e11, hx11_0⟩ := Kd.at_string HR0.out x8_1 p11 q11
       cases e11
       replace p11 := eq_true p11; replace q11 := eq_true q11; go_wp2_with (first | (go_at_call 93; (with_reducible refine (impl_arePairs_1.calls (rdOf ByteArray.empty l0 x8_1) false _ A6.out).mono ?_); rintro e w' ⟨rfl, ⟨nd, rfl⟩⟩)); go_roundg k1
       case measure => have := HK1.out; omega
       case rel => exact ⟨(wrap64 (x8_1 + 1)), (by first | rfl | (simp; done) | (simp [*]; done) | (simp [bne]; done)), H', ⟨by have := HK1.out; omega⟩, by repeat (first | exact Drawn0.refl _ | apply Drawn0.step)⟩
     ·rw [if_neg c5] at H
      exact absurd H (by simp)
    ·rw [if_neg c4] at H
     exact absurd H (by simp)
   ·rw [if_neg c3] at H
    have c3b0 : decide (x8_1 < (l0.length : Int)) = false := decide_eq_false c3; clear c3; obtain rfl := yM H; go_wp2; go_ret; exact ⟨by first | rfl | (simp; done) | (simp [*]; done) | (simp [bne]; done), by repeat (first | exact Drawn0.refl _ | apply Drawn0.step)⟩
def slices_ContainsFunc_impl_arePairs_1.f (k : Nat) (l0 : List ByteArray)  : Option (Bool) := (slices_IndexFunc_impl_arePairs_1.f k l0).bind fun t10 => (some (decide (t10 ≥ 0)))
theorem slices_ContainsFunc_impl_arePairs_1.calls (k : Nat) (A0 : Option Addr) (c0 : Nat) (l0 : List ByteArray)  (r : Bool) (w : World) (hr0 : Kd.C Kd.string w A0 l0.length l0) (hc0 : l0.length ≤ c0) (h : slices_ContainsFunc_impl_arePairs_1.f k l0 = some r) :
  Calls Try.prog 53 #[.slice A0 l0.length c0, .func (.func 93) #[] #[]] w fun e w' => e = .returned (.bool r) ∧ Drawn0 w w' := by
 have HR0 := zA hr0; have HC0 := zA hc0; clear hr0 hc0; have H : ((slices_IndexFunc_impl_arePairs_1.f k l0).bind fun t10 => (some (decide (t10 ≥ 0)))) = some r := h; clear h; replace H := zAF H; obtain ⟨t10, A30, H⟩ := H; replace H : (some (decide (t10 ≥ 0))) = some r := H; have A3 := zA A30; clear A30; obtain rfl := yM H; go_enter Try.func53, Try.ntmps53; go_wp2_with (first | ((with_reducible refine yB (f := 75) rfl ?_); refine goesL_ (some 7) rfl rfl Try.func75 (by kernel_rfl) rfl #[.slice A0 l0.length c0, .func (.func 93) #[] #[]] rfl (by (try simp only [zAA, zAB, zAC]); first | done | rfl) ?_; (with_reducible refine (slices_IndexFunc_impl_arePairs_1.calls k _ _ l0  t10 _ ?side1 ?side2 A3.out).mono ?_); (case side1 => repeat (first | exact HR0.out | (with_reducible first | refine zT ?_ _ | refine zU ?_ _ | refine zV ?_))); (case side2 => exact HC0.out); rintro e w' ⟨rfl, ⟨nd, rfl⟩⟩; refine ⟨_, rfl, ?_⟩)); go_ret; exact ⟨by first | rfl | (simp; done) | (simp [*]; done) | (simp [bne]; done), by repeat (first | exact Drawn0.refl _ | apply Drawn0.step)⟩
def impl_arePairs.f (k : Nat) (l0 : List ByteArray) (l1 : List ByteArray) : Option (Bool) := if (l0.length : Int) ≤ 40 then (if (l0.length : Int) = (l1.length : Int) then ((impl_areRising.f k l0).bind fun t10 => (if t10 = true then ((slices_ContainsFunc_impl_arePairs_1.f k l1).bind fun t11 => (some (!t11))) else (some false))) else (some false)) else (some false)
theorem impl_arePairs.calls (k : Nat) (A0 : Option Addr) (c0 : Nat) (l0 : List ByteArray) (A1 : Option Addr) (c1 : Nat) (l1 : List ByteArray) (r : Bool) (w : World) (hr0 : Kd.C Kd.string w A0 l0.length l0) (hc0 : l0.length ≤ c0) (hr1 : Kd.C Kd.string w A1 l1.length l1) (hc1 : l1.length ≤ c1) (h : impl_arePairs.f k l0 l1 = some r) :
  Calls Try.prog 82 #[.slice A0 l0.length c0, .slice A1 l1.length c1] w fun e w' => e = .returned (.bool r) ∧ Drawn0 w w' := by
 have HR0 := zA hr0; have HC0 := zA hc0; clear hr0 hc0; have HR1 := zA hr1; have HC1 := zA hc1; clear hr1 hc1; have H : (if (l0.length : Int) ≤ 40 then (if (l0.length : Int) = (l1.length : Int) then ((impl_areRising.f k l0).bind fun t10 => (if t10 = true then ((slices_ContainsFunc_impl_arePairs_1.f k l1).bind fun t11 => (some (!t11))) else (some false))) else (some false)) else (some false)) = some r := h; clear h
 by_cases c3 : (l0.length : Int) ≤ 40
 ·rw [if_pos c3] at H
  have c3b0 : decide ((l0.length : Int) ≤ 40) = true := zX c3; have c3b1 : decide (l0.length ≤ 40) = true := zX (by omega); clear c3
  by_cases c4 : (l0.length : Int) = (l1.length : Int)
  ·rw [if_pos c4] at H
   have c4b0 : ((l0.length : Int) == (l1.length : Int)) = true := beq_iff_eq.mpr c4; have c4b1 : ((l0.length : Int) != (l1.length : Int)) = false := bne_eq_false_iff_eq.mpr c4; have c4b2 : (l0.length == l1.length) = true := by first | simpa using c4 | (simp at c4 ⊢; omega)
   clear c4; replace H := zAF H; obtain ⟨t10, A50, H⟩ := H; replace H : (if t10 = true then ((slices_ContainsFunc_impl_arePairs_1.f k l1).bind fun t11 => (some (!t11))) else (some false)) = some r := H; have A5 := zA A50; clear A50
   by_cases c6 : t10 = true
   ·subst c6
    have H1 : ((slices_ContainsFunc_impl_arePairs_1.f k l1).bind fun t11 => (some (!t11))) = some r := by rw [if_pos rfl] at H; exact H
    clear H; have H := H1; clear H1; replace H := zAF H; obtain ⟨t11, A70, H⟩ := H; replace H : (some (!t11)) = some r := H; have A7 := zA A70; clear A70; obtain rfl := yM H; go_enter Try.func82, Try.ntmps82; go_wp2_with (first | (go_at_call 92; (with_reducible refine (impl_areRising.calls k _ _ l0 true _ ?side1 ?side2 A5.out).mono ?_); (case side1 => repeat (first | exact HR0.out | (with_reducible first | refine zT ?_ _ | refine zU ?_ _ | refine zV ?_))); (case side2 => exact HC0.out); rintro e w' ⟨rfl, ⟨nd, rfl⟩⟩) | (go_at_call 53; (with_reducible refine (slices_ContainsFunc_impl_arePairs_1.calls k _ _ l1  t11 _ ?side1 ?side2 A7.out).mono ?_); (case side1 => repeat (first | exact HR1.out | (with_reducible first | refine zT ?_ _ | refine zU ?_ _ | refine zV ?_))); (case side2 => exact HC1.out); rintro e w' ⟨rfl, ⟨nd, rfl⟩⟩)); go_ret; exact ⟨by first | rfl | (simp; done) | (simp [*]; done) | (simp [bne]; done), by repeat (first | exact Drawn0.refl _ | apply Drawn0.step)⟩
   ·replace c6 := yO c6
    subst c6; have H1 : (some false) = some r := by rw [if_neg (show ¬ (false = true) by decide)] at H; exact H
    clear H; have H := H1; clear H1; obtain rfl := yM H; go_enter Try.func82, Try.ntmps82; go_wp2_with (first | (go_at_call 92; (with_reducible refine (impl_areRising.calls k _ _ l0 false _ ?side1 ?side2 A5.out).mono ?_); (case side1 => repeat (first | exact HR0.out | (with_reducible first | refine zT ?_ _ | refine zU ?_ _ | refine zV ?_))); (case side2 => exact HC0.out); rintro e w' ⟨rfl, ⟨nd, rfl⟩⟩)); go_ret; exact ⟨by first | rfl | (simp; done) | (simp [*]; done) | (simp [bne]; done), by repeat (first | exact Drawn0.refl _ | apply Drawn0.step)⟩
  ·rw [if_neg c4] at H
   have c4b0 : ((l0.length : Int) == (l1.length : Int)) = false := beq_eq_false_iff_ne.mpr c4; have c4b1 : ((l0.length : Int) != (l1.length : Int)) = true := bne_iff_ne.mpr c4; have c4b2 : (l0.length == l1.length) = false := by first | simpa using c4 | (simp at c4 ⊢; omega)
   obtain rfl := yM H; go_enter Try.func82, Try.ntmps82; go_wp2; go_ret; exact ⟨by first | rfl | (simp; done) | (simp [*]; done) | (simp [bne]; done), by repeat (first | exact Drawn0.refl _ | apply Drawn0.step)⟩
 ·rw [if_neg c3] at H
  have c3b0 : decide ((l0.length : Int) ≤ 40) = false := decide_eq_false c3; have c3b1 : decide (l0.length ≤ 40) = false := decide_eq_false (by omega); clear c3; obtain rfl := yM H; go_enter Try.func82, Try.ntmps82; go_wp2; go_ret; exact ⟨by first | rfl | (simp; done) | (simp [*]; done) | (simp [bne]; done), by repeat (first | exact Drawn0.refl _ | apply Drawn0.step)⟩
def impl_areDigests_1.f (a0 : ByteArray) : Option (Bool) := (impl_isDigest.f a0).bind fun t10 => (some (!t10))
theorem impl_areDigests_1.calls (a0 : ByteArray) (r : Bool) (w : World) (h : impl_areDigests_1.f a0 = some r) :
  Calls Try.prog 95 #[.string a0] w fun e w' => e = .returned (.bool r) ∧ Drawn0 w w' := by
 have H : ((impl_isDigest.f a0).bind fun t10 => (some (!t10))) = some r := h; clear h; replace H := zAF H; obtain ⟨t10, A20, H⟩ := H; replace H : (some (!t10)) = some r := H; have A2 := zA A20; clear A20; obtain rfl := yM H; go_enter Try.func95, Try.ntmps95; go_wp2_with (first | ((with_reducible refine yB (f := 52) rfl ?_); refine goesL_ (some 4) rfl rfl Try.func52 (by kernel_rfl) rfl #[.string a0] rfl (by (try simp only [zAA, zAB, zAC]); first | done | rfl) ?_; (with_reducible refine (impl_isDigest.calls a0 t10 _ A2.out).mono ?_); rintro e w' ⟨rfl, ⟨nd, rfl⟩⟩; refine ⟨_, rfl, ?_⟩)); go_ret; exact ⟨by first | rfl | (simp; done) | (simp [*]; done) | (simp [bne]; done), by repeat (first | exact Drawn0.refl _ | apply Drawn0.step)⟩
def slices_IndexFunc_impl_areDigests_1.l0 : Nat → List ByteArray → Int → Int → Option (Int)
 | 0, _, _, _ => none
 | k + 1, x0, x7, x8 => if x8 < x7 then (if 0 ≤ x8 then (if x8 < (x0.length : Int) then ((impl_areDigests_1.f (rdOf ByteArray.empty x0 x8)).bind fun t10 => (if t10 = true then (some x8) else (slices_IndexFunc_impl_areDigests_1.l0 k x0 x7 (wrap64 (x8 + 1))))) else (none)) else (none)) else (some (-1))
def slices_IndexFunc_impl_areDigests_1.f (k : Nat) (l0 : List ByteArray)  : Option (Int) := slices_IndexFunc_impl_areDigests_1.l0 k l0 (l0.length : Int) 0
theorem slices_IndexFunc_impl_areDigests_1.calls (k : Nat) (A0 : Option Addr) (c0 : Nat) (l0 : List ByteArray)  (r : Int) (w : World) (hr0 : Kd.C Kd.string w A0 l0.length l0) (hc0 : l0.length ≤ c0) (h : slices_IndexFunc_impl_areDigests_1.f k l0 = some r) :
  Calls Try.prog 75 #[.slice A0 l0.length c0, .func (.func 95) #[] #[]] w fun e w' => e = .returned (.int .i64 r) ∧ Drawn0 w w' := by
 have HR0 := zA hr0; have HC0 := zA hc0; clear hr0 hc0; have H : (slices_IndexFunc_impl_areDigests_1.l0 k l0 (l0.length : Int) 0) = some r := h; clear h; have H' := zA H; clear H; go_enter Try.func75, Try.ntmps75; go_wp2; go_loopg [8] k (fun kq v8 w' => ∃ (x8_1 : Int), v8 = .int .i64 x8_1 ∧ Aside0 (slices_IndexFunc_impl_areDigests_1.l0 kq l0 (l0.length : Int) x8_1 = some r) ∧ Aside0 (kq ≤ k) ∧ Drawn0 w w')
 case atStart => exact ⟨(0), (by first | rfl | (simp; done) | (simp [*]; done) | (simp [bne]; done)), H', ⟨Nat.le_refl _⟩, by repeat (first | exact Drawn0.refl _ | apply Drawn0.step)⟩
 case round =>
  clear H'
  try clear p2
  obtain ⟨x8_1, rfl, HA, HK1, ⟨m1, rfl⟩⟩ := hrel
  cases gk with
  | zero => exact absurd HA.out (by simp [slices_IndexFunc_impl_areDigests_1.l0])
  | succ k1 =>
   have H := HA.out; clear HA; simp only [slices_IndexFunc_impl_areDigests_1.l0] at H
   by_cases c3 : x8_1 < (l0.length : Int)
   ·rw [if_pos c3] at H
    have c3b0 : decide (x8_1 < (l0.length : Int)) = true := zX c3; clear c3
    by_cases c4 : 0 ≤ x8_1
    ·rw [if_pos c4] at H
     have c4b0 : decide (0 ≤ x8_1) = true := zX c4; clear c4
     by_cases c5 : x8_1 < (l0.length : Int)
     ·rw [if_pos c5] at H
      have c5b0 : decide (x8_1 < (l0.length : Int)) = true := zX c5; clear c5; replace H := zAF H; obtain ⟨t10, A60, H⟩ := H; replace H : (if t10 = true then (some x8_1) else (slices_IndexFunc_impl_areDigests_1.l0 k1 l0 (l0.length : Int) (wrap64 (x8_1 + 1)))) = some r := H; have A6 := zA A60; clear A60
      by_cases c7 : t10 = true
      ·subst c7
       have H1 : (some x8_1) = some r := by rw [if_pos rfl] at H; exact H
       clear H; have H := H1; clear H1; obtain rfl := yM H; have p11 : 0 ≤ (x8_1 : Int) := zW (by first | (with_reducible assumption) | assumption); have q11 : x8_1 < (l0.length : Int) := zW (by first | (with_reducible assumption) | assumption); obtain ⟨ad11, e11, hx11_0⟩ := Kd.at_string HR0.out x8_1 p11 q11
       cases e11
       replace p11 := eq_true p11; replace q11 := eq_true q11; go_wp2_with (first | (go_at_call 95; (with_reducible refine (impl_areDigests_1.calls (rdOf ByteArray.empty l0 x8_1) true _ A6.out).mono ?_); rintro e w' ⟨rfl, ⟨nd, rfl⟩⟩)); go_ret; exact ⟨by first | rfl | (simp; done) | (simp [*]; done) | (simp [bne]; done), by repeat (first | exact Drawn0.refl _ | apply Drawn0.step)⟩
      ·replace c7 := yO c7
       subst c7; have H1 : (slices_IndexFunc_impl_areDigests_1.l0 k1 l0 (l0.length : Int) (wrap64 (x8_1 + 1))) = some r := by rw [if_neg (show ¬ (false = true) by decide)] at H; exact H
       clear H; have H := H1; clear H1; have H' := zA H; clear H; have p11 : 0 ≤ (x8_1 : Int) := zW (by first | (with_reducible assumption) | assumption); have q11 : x8_1 < (l0.length : Int) := zW (by first | (with_reducible assumption) | assumption); obtain ⟨ad11, e11, hx11_0⟩ := Kd.at_string HR0.out x8_1 p11 q11
       cases e11
       replace p11 := eq_true p11; replace q11 := eq_true q11; go_wp2_with (first | (go_at_call 95; (with_reducible refine (impl_areDigests_1.calls (rdOf ByteArray.empty l0 x8_1) false _ A6.out).mono ?_); rintro e w' ⟨rfl, ⟨nd, rfl⟩⟩)); go_roundg k1
       case measure => have := HK1.out; omega
       case rel => exact ⟨(wrap64 (x8_1 + 1)), (by first | rfl | (simp; done) | (simp [*]; done) | (simp [bne]; done)), H', ⟨by have := HK1.out; omega⟩, by repeat (first | exact Drawn0.refl _ | apply Drawn0.step)⟩
     ·rw [if_neg c5] at H
      exact absurd H (by simp)
    ·rw [if_neg c4] at H
     exact absurd H (by simp)
   ·rw [if_neg c3] at H
    have c3b0 : decide (x8_1 < (l0.length : Int)) = false := decide_eq_false c3; clear c3; obtain rfl := yM H; go_wp2; go_ret; exact ⟨by first | rfl | (simp; done) | (simp [*]; done) | (simp [bne]; done), by repeat (first | exact Drawn0.refl _ | apply Drawn0.step)⟩
def slices_ContainsFunc_impl_areDigests_1.f (k : Nat) (l0 : List ByteArray)  : Option (Bool) := (slices_IndexFunc_impl_areDigests_1.f k l0).bind fun t10 => (some (decide (t10 ≥ 0)))
theorem slices_ContainsFunc_impl_areDigests_1.calls (k : Nat) (A0 : Option Addr) (c0 : Nat) (l0 : List ByteArray)  (r : Bool) (w : World) (hr0 : Kd.C Kd.string w A0 l0.length l0) (hc0 : l0.length ≤ c0) (h : slices_ContainsFunc_impl_areDigests_1.f k l0 = some r) :
  Calls Try.prog 53 #[.slice A0 l0.length c0, .func (.func 95) #[] #[]] w fun e w' => e = .returned (.bool r) ∧ Drawn0 w w' := by
 have HR0 := zA hr0; have HC0 := zA hc0; clear hr0 hc0; have H : ((slices_IndexFunc_impl_areDigests_1.f k l0).bind fun t10 => (some (decide (t10 ≥ 0)))) = some r := h; clear h; replace H := zAF H; obtain ⟨t10, A30, H⟩ := H; replace H : (some (decide (t10 ≥ 0))) = some r := H; have A3 := zA A30; clear A30; obtain rfl := yM H; go_enter Try.func53, Try.ntmps53; go_wp2_with (first | ((with_reducible refine yB (f := 75) rfl ?_); refine goesL_ (some 7) rfl rfl Try.func75 (by kernel_rfl) rfl #[.slice A0 l0.length c0, .func (.func 95) #[] #[]] rfl (by (try simp only [zAA, zAB, zAC]); first | done | rfl) ?_; (with_reducible refine (slices_IndexFunc_impl_areDigests_1.calls k _ _ l0  t10 _ ?side1 ?side2 A3.out).mono ?_); (case side1 => repeat (first | exact HR0.out | (with_reducible first | refine zT ?_ _ | refine zU ?_ _ | refine zV ?_))); (case side2 => exact HC0.out); rintro e w' ⟨rfl, ⟨nd, rfl⟩⟩; refine ⟨_, rfl, ?_⟩)); go_ret; exact ⟨by first | rfl | (simp; done) | (simp [*]; done) | (simp [bne]; done), by repeat (first | exact Drawn0.refl _ | apply Drawn0.step)⟩
def impl_areDigests.f (k : Nat) (l0 : List ByteArray) (a1 : Int) : Option (Bool) := if (l0.length : Int) = a1 then ((slices_ContainsFunc_impl_areDigests_1.f k l0).bind fun t10 => (some (!t10))) else (some false)
theorem impl_areDigests.calls (k : Nat) (A0 : Option Addr) (c0 : Nat) (l0 : List ByteArray) (a1 : Int) (r : Bool) (w : World) (hr0 : Kd.C Kd.string w A0 l0.length l0) (hc0 : l0.length ≤ c0) (h : impl_areDigests.f k l0 a1 = some r) :
  Calls Try.prog 83 #[.slice A0 l0.length c0, .int .i64 a1] w fun e w' => e = .returned (.bool r) ∧ Drawn0 w w' := by
 have HR0 := zA hr0; have HC0 := zA hc0; clear hr0 hc0; have H : (if (l0.length : Int) = a1 then ((slices_ContainsFunc_impl_areDigests_1.f k l0).bind fun t10 => (some (!t10))) else (some false)) = some r := h; clear h
 by_cases c3 : (l0.length : Int) = a1
 ·rw [if_pos c3] at H
  have c3b0 : ((l0.length : Int) == a1) = true := beq_iff_eq.mpr c3; have c3b1 : ((l0.length : Int) != a1) = false := bne_eq_false_iff_eq.mpr c3; clear c3; replace H := zAF H; obtain ⟨t10, A40, H⟩ := H; replace H : (some (!t10)) = some r := H; have A4 := zA A40; clear A40; obtain rfl := yM H; go_enter Try.func83, Try.ntmps83; go_wp2_with (first | (go_at_call 53; (with_reducible refine (slices_ContainsFunc_impl_areDigests_1.calls k _ _ l0  t10 _ ?side1 ?side2 A4.out).mono ?_); (case side1 => repeat (first | exact HR0.out | (with_reducible first | refine zT ?_ _ | refine zU ?_ _ | refine zV ?_))); (case side2 => exact HC0.out); rintro e w' ⟨rfl, ⟨nd, rfl⟩⟩)); go_ret; exact ⟨by first | rfl | (simp; done) | (simp [*]; done) | (simp [bne]; done), by repeat (first | exact Drawn0.refl _ | apply Drawn0.step)⟩
 ·rw [if_neg c3] at H
  have c3b0 : ((l0.length : Int) == a1) = false := beq_eq_false_iff_ne.mpr c3; have c3b1 : ((l0.length : Int) != a1) = true := bne_iff_ne.mpr c3; obtain rfl := yM H; go_enter Try.func83, Try.ntmps83; go_wp2; go_ret; exact ⟨by first | rfl | (simp; done) | (simp [*]; done) | (simp [bne]; done), by repeat (first | exact Drawn0.refl _ | apply Drawn0.step)⟩
def impl_GoodShown.f (k : Nat) (l0_0 : List ByteArray) (l0_1 : List ByteArray) (l0_2 : List ByteArray) (a0_3 : Int) : Option (Bool) := if (l0_0.length : Int) ≤ 4 then ((impl_arePairs.f k l0_0 l0_1).bind fun t10 => (if t10 = true then (if (l0_2.length : Int) = 0 then ((impl_within.f a0_3 0 (l0_0.length : Int)).bind fun t11 => (some t11)) else ((impl_areDigests.f k l0_2 (wrap64 ((l0_0.length : Int) + 1))).bind fun t12 => (if t12 = true then ((impl_within.f a0_3 0 (l0_0.length : Int)).bind fun t13 => (some t13)) else (some false)))) else (some false))) else (some false)
theorem impl_GoodShown.calls (k : Nat) (A0_0 : Option Addr) (c0_0 : Nat) (l0_0 : List ByteArray) (A0_1 : Option Addr) (c0_1 : Nat) (l0_1 : List ByteArray) (A0_2 : Option Addr) (c0_2 : Nat) (l0_2 : List ByteArray) (a0_3 : Int) (r : Bool) (w : World) (hr0_0 : Kd.C Kd.string w A0_0 l0_0.length l0_0) (hc0_0 : l0_0.length ≤ c0_0) (hr0_1 : Kd.C Kd.string w A0_1 l0_1.length l0_1) (hc0_1 : l0_1.length ≤ c0_1) (hr0_2 : Kd.C Kd.string w A0_2 l0_2.length l0_2) (hc0_2 : l0_2.length ≤ c0_2) (h : impl_GoodShown.f k l0_0 l0_1 l0_2 a0_3 = some r) :
  Calls Try.prog 65 #[.agg #[.slice A0_0 l0_0.length c0_0, .slice A0_1 l0_1.length c0_1, .slice A0_2 l0_2.length c0_2, .int .i64 a0_3]] w fun e w' => e = .returned (.bool r) ∧ Below w.heap.size w w' := by
 have hu38 := Try.underlying38; have HR0_0 := zA hr0_0; have HC0_0 := zA hc0_0; clear hr0_0 hc0_0; have HR0_1 := zA hr0_1; have HC0_1 := zA hc0_1; clear hr0_1 hc0_1; have HR0_2 := zA hr0_2; have HC0_2 := zA hc0_2; clear hr0_2 hc0_2; have HB := zA (Below.refl w.heap.size w); have H : (if (l0_0.length : Int) ≤ 4 then ((impl_arePairs.f k l0_0 l0_1).bind fun t20 => (if t20 = true then (if (l0_2.length : Int) = 0 then ((impl_within.f a0_3 0 (l0_0.length : Int)).bind fun t21 => (some t21)) else ((impl_areDigests.f k l0_2 (wrap64 ((l0_0.length : Int) + 1))).bind fun t22 => (if t22 = true then ((impl_within.f a0_3 0 (l0_0.length : Int)).bind fun t23 => (some t23)) else (some false)))) else (some false))) else (some false)) = some r := h; clear h
 by_cases c2 : (l0_0.length : Int) ≤ 4
 ·rw [if_pos c2] at H
  have c2b0 : decide ((l0_0.length : Int) ≤ 4) = true := zX c2; have c2b1 : decide (l0_0.length ≤ 4) = true := zX (by omega); clear c2; replace H := zAF H; obtain ⟨t20, A30, H⟩ := H; replace H : (if t20 = true then (if (l0_2.length : Int) = 0 then ((impl_within.f a0_3 0 (l0_0.length : Int)).bind fun t21 => (some t21)) else ((impl_areDigests.f k l0_2 (wrap64 ((l0_0.length : Int) + 1))).bind fun t22 => (if t22 = true then ((impl_within.f a0_3 0 (l0_0.length : Int)).bind fun t23 => (some t23)) else (some false)))) else (some false)) = some r := H; have A3 := zA A30; clear A30
  by_cases c4 : t20 = true
  ·subst c4
   have H1 : (if (l0_2.length : Int) = 0 then ((impl_within.f a0_3 0 (l0_0.length : Int)).bind fun t21 => (some t21)) else ((impl_areDigests.f k l0_2 (wrap64 ((l0_0.length : Int) + 1))).bind fun t22 => (if t22 = true then ((impl_within.f a0_3 0 (l0_0.length : Int)).bind fun t23 => (some t23)) else (some false)))) = some r := by rw [if_pos rfl] at H; exact H
   clear H; have H := H1; clear H1
   by_cases c5 : (l0_2.length : Int) = 0
   ·rw [if_pos c5] at H
    have c5b0 : ((l0_2.length : Int) == 0) = true := beq_iff_eq.mpr c5; have c5b1 : ((l0_2.length : Int) != 0) = false := bne_eq_false_iff_eq.mpr c5; clear c5; replace H := zAF H; obtain ⟨t21, A60, H⟩ := H; replace H : (some t21) = some r := H; have A6 := zA A60; clear A60; obtain rfl := yM H; go_enter Try.func65, Try.ntmps65; go_wp2_with (first | ((with_reducible refine gate_dst (N := 1) rfl ?_); (try (refine gate_guard (by rfl) ?_; dsimp only)); refine box_event ?hg (N := 1) ?hd (cs := #[.slice A0_0 l0_0.length c0_0, .slice A0_1 l0_1.length c0_1, .slice A0_2 l0_2.length c0_2, .int .i64 a0_3]) (t := 38) ?hr ?_; (case hd => rfl); (case hg => rfl); (case hr => first | (go_simp; done) | (go_simp; rfl)); intro gb24 hg w7 hbox hb; have n0_ := zA (zAD (by (with_reducible repeat first | exact HB.out | apply zH | apply zF | apply zG) <;> exact HB.out) hb); have n1_ := zA (hbox); have n2_ := zA ((by rw [hg]; exact (zAE (by (with_reducible repeat first | exact HB.out | apply zH | apply zF | apply zG) <;> exact HB.out)) : w.heap.size ≤ gb24)); have n3_ := zA ((by rw [hg]; exact (zAE (by (with_reducible repeat first | exact HB.out | apply zH | apply zF | apply zG) <;> exact HB.out)) : w.heap.size ≤ gb24)); clear HB; have HB := n0_; have BK24 := n1_; have GW24 := n2_; have GE24 := n3_; clear n0_ n1_ n2_ n3_; clear hb hbox hg; have hcz8_0 := yL BK24.out 0 (.slice A0_0 l0_0.length c0_0) rfl; have hcz8_1 := yL BK24.out 1 (.slice A0_1 l0_1.length c0_1) rfl; have hcz8_2 := yL BK24.out 2 (.slice A0_2 l0_2.length c0_2) rfl; have hcz8_3 := yL BK24.out 3 (.int .i64 a0_3) rfl; have hfz8_0 := zO BK24.out 0; have hfz8_1 := zO BK24.out 1; have hfz8_2 := zO BK24.out 2; have hfz8_3 := zO BK24.out 3) | (go_at_call 82; (with_reducible refine (impl_arePairs.calls k _ _ l0_0 _ _ l0_1 true _ ?side1 ?side2 ?side3 ?side4 A3.out).mono ?_); (case side1 => repeat (first | exact (yN HR0_0.out HB.out) | (with_reducible first | refine zT ?_ _ | refine zU ?_ _ | refine zV ?_))); (case side2 => exact HC0_0.out); (case side3 => repeat (first | exact (yN HR0_1.out HB.out) | (with_reducible first | refine zT ?_ _ | refine zU ?_ _ | refine zV ?_))); (case side4 => exact HC0_1.out); rintro e w' ⟨rfl, ⟨nd, rfl⟩⟩) | (go_at_call 62; (with_reducible refine (impl_within.calls a0_3 0 (l0_0.length : Int) t21 _ A6.out).mono ?_); rintro e w' ⟨rfl, ⟨nd, rfl⟩⟩)); go_ret; exact ⟨by first | rfl | (simp <;> rfl) | (simp [*] <;> rfl), by repeat (first | (with_reducible first | exact HB.out | apply zH | apply zF | apply zG | refine zI ?_ GE24.out) | exact HB.out)⟩
   ·rw [if_neg c5] at H
    have c5b0 : ((l0_2.length : Int) == 0) = false := beq_eq_false_iff_ne.mpr c5; have c5b1 : ((l0_2.length : Int) != 0) = true := bne_iff_ne.mpr c5; have c5b2 : ¬ (l0_2 = []) := fun h_ => c5 (by rw [h_]; rfl)
    replace H := zAF H; obtain ⟨t22, A90, H⟩ := H; replace H : (if t22 = true then ((impl_within.f a0_3 0 (l0_0.length : Int)).bind fun t23 => (some t23)) else (some false)) = some r := H; have A9 := zA A90; clear A90
    by_cases c10 : t22 = true
    ·subst c10
     have H1 : ((impl_within.f a0_3 0 (l0_0.length : Int)).bind fun t23 => (some t23)) = some r := by rw [if_pos rfl] at H; exact H
     clear H; have H := H1; clear H1; replace H := zAF H; obtain ⟨t23, A25, H⟩ := H; replace H : (some t23) = some r := H; have A11 := zA A25; clear A25; obtain rfl := yM H; go_enter Try.func65, Try.ntmps65; go_wp2_with (first | ((with_reducible refine gate_dst (N := 1) rfl ?_); (try (refine gate_guard (by rfl) ?_; dsimp only)); refine box_event ?hg (N := 1) ?hd (cs := #[.slice A0_0 l0_0.length c0_0, .slice A0_1 l0_1.length c0_1, .slice A0_2 l0_2.length c0_2, .int .i64 a0_3]) (t := 38) ?hr ?_; (case hd => rfl); (case hg => rfl); (case hr => first | (go_simp; done) | (go_simp; rfl)); intro gb24 hg w12 hbox hb; have n0_ := zA (zAD (by (with_reducible repeat first | exact HB.out | apply zH | apply zF | apply zG) <;> exact HB.out) hb); have n1_ := zA (hbox); have n2_ := zA ((by rw [hg]; exact (zAE (by (with_reducible repeat first | exact HB.out | apply zH | apply zF | apply zG) <;> exact HB.out)) : w.heap.size ≤ gb24)); have n3_ := zA ((by rw [hg]; exact (zAE (by (with_reducible repeat first | exact HB.out | apply zH | apply zF | apply zG) <;> exact HB.out)) : w.heap.size ≤ gb24)); clear HB; have HB := n0_; have BK24 := n1_; have GW24 := n2_; have GE24 := n3_; clear n0_ n1_ n2_ n3_; clear hb hbox hg; have hcz13_0 := yL BK24.out 0 (.slice A0_0 l0_0.length c0_0) rfl; have hcz13_1 := yL BK24.out 1 (.slice A0_1 l0_1.length c0_1) rfl; have hcz13_2 := yL BK24.out 2 (.slice A0_2 l0_2.length c0_2) rfl; have hcz13_3 := yL BK24.out 3 (.int .i64 a0_3) rfl; have hfz13_0 := zO BK24.out 0; have hfz13_1 := zO BK24.out 1; have hfz13_2 := zO BK24.out 2; have hfz13_3 := zO BK24.out 3) | (go_at_call 82; (with_reducible refine (impl_arePairs.calls k _ _ l0_0 _ _ l0_1 true _ ?side1 ?side2 ?side3 ?side4 A3.out).mono ?_); (case side1 => repeat (first | exact (yN HR0_0.out HB.out) | (with_reducible first | refine zT ?_ _ | refine zU ?_ _ | refine zV ?_))); (case side2 => exact HC0_0.out); (case side3 => repeat (first | exact (yN HR0_1.out HB.out) | (with_reducible first | refine zT ?_ _ | refine zU ?_ _ | refine zV ?_))); (case side4 => exact HC0_1.out); rintro e w' ⟨rfl, ⟨nd, rfl⟩⟩) | (go_at_call 83; (with_reducible refine (impl_areDigests.calls k _ _ l0_2 (wrap64 ((l0_0.length : Int) + 1)) true _ ?side1 ?side2 A9.out).mono ?_); (case side1 => repeat (first | exact (yN HR0_2.out (by repeat (first | (with_reducible first | exact HB.out | apply zH | apply zF | apply zG | refine zI ?_ GE24.out) | exact HB.out))) | (with_reducible first | refine zT ?_ _ | refine zU ?_ _ | refine zV ?_))); (case side2 => exact HC0_2.out); rintro e w' ⟨rfl, ⟨nd, rfl⟩⟩) | (go_at_call 62; (with_reducible refine (impl_within.calls a0_3 0 (l0_0.length : Int) t23 _ A11.out).mono ?_); rintro e w' ⟨rfl, ⟨nd, rfl⟩⟩)); go_ret; exact ⟨by first | rfl | (simp <;> rfl) | (simp [*] <;> rfl), by repeat (first | (with_reducible first | exact HB.out | apply zH | apply zF | apply zG | refine zI ?_ GE24.out) | exact HB.out)⟩
    ·replace c10 := yO c10
     subst c10; have H1 : (some false) = some r := by rw [if_neg (show ¬ (false = true) by decide)] at H; exact H
     clear H; have H := H1; clear H1; obtain rfl := yM H; go_enter Try.func65, Try.ntmps65; go_wp2_with (first | ((with_reducible refine gate_dst (N := 1) rfl ?_); (try (refine gate_guard (by rfl) ?_; dsimp only)); refine box_event ?hg (N := 1) ?hd (cs := #[.slice A0_0 l0_0.length c0_0, .slice A0_1 l0_1.length c0_1, .slice A0_2 l0_2.length c0_2, .int .i64 a0_3]) (t := 38) ?hr ?_; (case hd => rfl); (case hg => rfl); (case hr => first | (go_simp; done) | (go_simp; rfl)); intro gb24 hg w14 hbox hb; have n0_ := zA (zAD (by (with_reducible repeat first | exact HB.out | apply zH | apply zF | apply zG) <;> exact HB.out) hb); have n1_ := zA (hbox); have n2_ := zA ((by rw [hg]; exact (zAE (by (with_reducible repeat first | exact HB.out | apply zH | apply zF | apply zG) <;> exact HB.out)) : w.heap.size ≤ gb24)); have n3_ := zA ((by rw [hg]; exact (zAE (by (with_reducible repeat first | exact HB.out | apply zH | apply zF | apply zG) <;> exact HB.out)) : w.heap.size ≤ gb24)); clear HB; have HB := n0_; have BK24 := n1_; have GW24 := n2_; have GE24 := n3_; clear n0_ n1_ n2_ n3_; clear hb hbox hg; have hcz15_0 := yL BK24.out 0 (.slice A0_0 l0_0.length c0_0) rfl; have hcz15_1 := yL BK24.out 1 (.slice A0_1 l0_1.length c0_1) rfl; have hcz15_2 := yL BK24.out 2 (.slice A0_2 l0_2.length c0_2) rfl; have hcz15_3 := yL BK24.out 3 (.int .i64 a0_3) rfl; have hfz15_0 := zO BK24.out 0; have hfz15_1 := zO BK24.out 1; have hfz15_2 := zO BK24.out 2; have hfz15_3 := zO BK24.out 3) | (go_at_call 82; (with_reducible refine (impl_arePairs.calls k _ _ l0_0 _ _ l0_1 true _ ?side1 ?side2 ?side3 ?side4 A3.out).mono ?_); (case side1 => repeat (first | exact (yN HR0_0.out HB.out) | (with_reducible first | refine zT ?_ _ | refine zU ?_ _ | refine zV ?_))); (case side2 => exact HC0_0.out); (case side3 => repeat (first | exact (yN HR0_1.out HB.out) | (with_reducible first | refine zT ?_ _ | refine zU ?_ _ | refine zV ?_))); (case side4 => exact HC0_1.out); rintro e w' ⟨rfl, ⟨nd, rfl⟩⟩) | (go_at_call 83; (with_reducible refine (impl_areDigests.calls k _ _ l0_2 (wrap64 ((l0_0.length : Int) + 1)) false _ ?side1 ?side2 A9.out).mono ?_); (case side1 => repeat (first | exact (yN HR0_2.out (by repeat (first | (with_reducible first | exact HB.out | apply zH | apply zF | apply zG | refine zI ?_ GE24.out) | exact HB.out))) | (with_reducible first | refine zT ?_ _ | refine zU ?_ _ | refine zV ?_))); (case side2 => exact HC0_2.out); rintro e w' ⟨rfl, ⟨nd, rfl⟩⟩)); go_ret; exact ⟨by first | rfl | (simp <;> rfl) | (simp [*] <;> rfl), by repeat (first | (with_reducible first | exact HB.out | apply zH | apply zF | apply zG | refine zI ?_ GE24.out) | exact HB.out)⟩
  ·replace c4 := yO c4
   subst c4; have H1 : (some false) = some r := by rw [if_neg (show ¬ (false = true) by decide)] at H; exact H
   clear H; have H := H1; clear H1; obtain rfl := yM H; go_enter Try.func65, Try.ntmps65; go_wp2_with (first | ((with_reducible refine gate_dst (N := 1) rfl ?_); (try (refine gate_guard (by rfl) ?_; dsimp only)); refine box_event ?hg (N := 1) ?hd (cs := #[.slice A0_0 l0_0.length c0_0, .slice A0_1 l0_1.length c0_1, .slice A0_2 l0_2.length c0_2, .int .i64 a0_3]) (t := 38) ?hr ?_; (case hd => rfl); (case hg => rfl); (case hr => first | (go_simp; done) | (go_simp; rfl)); intro gb24 hg w16 hbox hb; have n0_ := zA (zAD (by (with_reducible repeat first | exact HB.out | apply zH | apply zF | apply zG) <;> exact HB.out) hb); have n1_ := zA (hbox); have n2_ := zA ((by rw [hg]; exact (zAE (by (with_reducible repeat first | exact HB.out | apply zH | apply zF | apply zG) <;> exact HB.out)) : w.heap.size ≤ gb24)); have n3_ := zA ((by rw [hg]; exact (zAE (by (with_reducible repeat first | exact HB.out | apply zH | apply zF | apply zG) <;> exact HB.out)) : w.heap.size ≤ gb24)); clear HB; have HB := n0_; have BK24 := n1_; have GW24 := n2_; have GE24 := n3_; clear n0_ n1_ n2_ n3_; clear hb hbox hg; have hcz17_0 := yL BK24.out 0 (.slice A0_0 l0_0.length c0_0) rfl; have hcz17_1 := yL BK24.out 1 (.slice A0_1 l0_1.length c0_1) rfl; have hcz17_2 := yL BK24.out 2 (.slice A0_2 l0_2.length c0_2) rfl; have hcz17_3 := yL BK24.out 3 (.int .i64 a0_3) rfl; have hfz17_0 := zO BK24.out 0; have hfz17_1 := zO BK24.out 1; have hfz17_2 := zO BK24.out 2; have hfz17_3 := zO BK24.out 3) | (go_at_call 82; (with_reducible refine (impl_arePairs.calls k _ _ l0_0 _ _ l0_1 false _ ?side1 ?side2 ?side3 ?side4 A3.out).mono ?_); (case side1 => repeat (first | exact (yN HR0_0.out HB.out) | (with_reducible first | refine zT ?_ _ | refine zU ?_ _ | refine zV ?_))); (case side2 => exact HC0_0.out); (case side3 => repeat (first | exact (yN HR0_1.out HB.out) | (with_reducible first | refine zT ?_ _ | refine zU ?_ _ | refine zV ?_))); (case side4 => exact HC0_1.out); rintro e w' ⟨rfl, ⟨nd, rfl⟩⟩)); go_ret; exact ⟨by first | rfl | (simp <;> rfl) | (simp [*] <;> rfl), by repeat (first | (with_reducible first | exact HB.out | apply zH | apply zF | apply zG | refine zI ?_ GE24.out) | exact HB.out)⟩
 ·rw [if_neg c2] at H
  have c2b0 : decide ((l0_0.length : Int) ≤ 4) = false := decide_eq_false c2; have c2b1 : decide (l0_0.length ≤ 4) = false := decide_eq_false (by omega); clear c2; obtain rfl := yM H; go_enter Try.func65, Try.ntmps65; go_wp2_with (first | ((with_reducible refine gate_dst (N := 1) rfl ?_); (try (refine gate_guard (by rfl) ?_; dsimp only)); refine box_event ?hg (N := 1) ?hd (cs := #[.slice A0_0 l0_0.length c0_0, .slice A0_1 l0_1.length c0_1, .slice A0_2 l0_2.length c0_2, .int .i64 a0_3]) (t := 38) ?hr ?_; (case hd => rfl); (case hg => rfl); (case hr => first | (go_simp; done) | (go_simp; rfl)); intro gb24 hg w18 hbox hb; have n0_ := zA (zAD (by (with_reducible repeat first | exact HB.out | apply zH | apply zF | apply zG) <;> exact HB.out) hb); have n1_ := zA (hbox); have n2_ := zA ((by rw [hg]; exact (zAE (by (with_reducible repeat first | exact HB.out | apply zH | apply zF | apply zG) <;> exact HB.out)) : w.heap.size ≤ gb24)); have n3_ := zA ((by rw [hg]; exact (zAE (by (with_reducible repeat first | exact HB.out | apply zH | apply zF | apply zG) <;> exact HB.out)) : w.heap.size ≤ gb24)); clear HB; have HB := n0_; have BK24 := n1_; have GW24 := n2_; have GE24 := n3_; clear n0_ n1_ n2_ n3_; clear hb hbox hg; have hcz19_0 := yL BK24.out 0 (.slice A0_0 l0_0.length c0_0) rfl; have hcz19_1 := yL BK24.out 1 (.slice A0_1 l0_1.length c0_1) rfl; have hcz19_2 := yL BK24.out 2 (.slice A0_2 l0_2.length c0_2) rfl; have hcz19_3 := yL BK24.out 3 (.int .i64 a0_3) rfl; have hfz19_0 := zO BK24.out 0; have hfz19_1 := zO BK24.out 1; have hfz19_2 := zO BK24.out 2; have hfz19_3 := zO BK24.out 3)); go_ret; exact ⟨by first | rfl | (simp <;> rfl) | (simp [*] <;> rfl), by repeat (first | (with_reducible first | exact HB.out | apply zH | apply zF | apply zG | refine zI ?_ GE24.out) | exact HB.out)⟩
def impl_CheckKey_1.f (k : Nat) (l0_0 : List ByteArray) (l0_1 : List ByteArray) (l0_2 : List ByteArray) (a0_3 : Int) : Option (Bool) := (impl_GoodShown.f k l0_0 l0_1 l0_2 a0_3).bind fun t10 => (some (!t10))
theorem impl_CheckKey_1.calls (k : Nat) (A0_0 : Option Addr) (c0_0 : Nat) (l0_0 : List ByteArray) (A0_1 : Option Addr) (c0_1 : Nat) (l0_1 : List ByteArray) (A0_2 : Option Addr) (c0_2 : Nat) (l0_2 : List ByteArray) (a0_3 : Int) (r : Bool) (w : World) (hr0_0 : Kd.C Kd.string w A0_0 l0_0.length l0_0) (hc0_0 : l0_0.length ≤ c0_0) (hr0_1 : Kd.C Kd.string w A0_1 l0_1.length l0_1) (hc0_1 : l0_1.length ≤ c0_1) (hr0_2 : Kd.C Kd.string w A0_2 l0_2.length l0_2) (hc0_2 : l0_2.length ≤ c0_2) (h : impl_CheckKey_1.f k l0_0 l0_1 l0_2 a0_3 = some r) :
  Calls Try.prog 64 #[.agg #[.slice A0_0 l0_0.length c0_0, .slice A0_1 l0_1.length c0_1, .slice A0_2 l0_2.length c0_2, .int .i64 a0_3]] w fun e w' => e = .returned (.bool r) ∧ Below w.heap.size w w' := by
 have hu38 := Try.underlying38; have HR0_0 := zA hr0_0; have HC0_0 := zA hc0_0; clear hr0_0 hc0_0; have HR0_1 := zA hr0_1; have HC0_1 := zA hc0_1; clear hr0_1 hc0_1; have HR0_2 := zA hr0_2; have HC0_2 := zA hc0_2; clear hr0_2 hc0_2; have HB := zA (Below.refl w.heap.size w); have H : ((impl_GoodShown.f k l0_0 l0_1 l0_2 a0_3).bind fun t10 => (some (!t10))) = some r := h; clear h; replace H := zAF H; obtain ⟨t10, A20, H⟩ := H; replace H : (some (!t10)) = some r := H; have A2 := zA A20; clear A20; obtain rfl := yM H; go_enter Try.func64, Try.ntmps64; go_wp2_with (first | ((with_reducible refine gate_dst (N := 1) rfl ?_); refine box_event ?hg (N := 1) ?hd (cs := #[.slice A0_0 l0_0.length c0_0, .slice A0_1 l0_1.length c0_1, .slice A0_2 l0_2.length c0_2, .int .i64 a0_3]) (t := 38) ?hr ?_; (case hd => rfl); (case hg => rfl); (case hr => first | (go_simp; done) | (go_simp; rfl)); intro gb11 hg w3 hbox hb; have n0_ := zA (zAD (by (with_reducible repeat first | exact HB.out | apply zH | apply zF | apply zG) <;> exact HB.out) hb); have n1_ := zA (hbox); have n2_ := zA ((by rw [hg]; exact (zAE (by (with_reducible repeat first | exact HB.out | apply zH | apply zF | apply zG) <;> exact HB.out)) : w.heap.size ≤ gb11)); have n3_ := zA ((by rw [hg]; exact (zAE (by (with_reducible repeat first | exact HB.out | apply zH | apply zF | apply zG) <;> exact HB.out)) : w.heap.size ≤ gb11)); clear HB; have HB := n0_; have BK11 := n1_; have GW11 := n2_; have GE11 := n3_; clear n0_ n1_ n2_ n3_; clear hb hbox hg; have hcz4_0 := yL BK11.out 0 (.slice A0_0 l0_0.length c0_0) rfl; have hcz4_1 := yL BK11.out 1 (.slice A0_1 l0_1.length c0_1) rfl; have hcz4_2 := yL BK11.out 2 (.slice A0_2 l0_2.length c0_2) rfl; have hcz4_3 := yL BK11.out 3 (.int .i64 a0_3) rfl; have hfz4_0 := zO BK11.out 0; have hfz4_1 := zO BK11.out 1; have hfz4_2 := zO BK11.out 2; have hfz4_3 := zO BK11.out 3) | ((with_reducible refine yB (f := 65) rfl ?_); refine goesL_ (some 4) rfl rfl Try.func65 (by kernel_rfl) rfl #[.agg #[.slice A0_0 l0_0.length c0_0, .slice A0_1 l0_1.length c0_1, .slice A0_2 l0_2.length c0_2, .int .i64 a0_3]] rfl (by (try simp only [zAA, zAB, zAC]); first | done | rfl | (simp only [zZ, zY]; rfl)) ?_; (with_reducible refine (impl_GoodShown.calls k _ _ l0_0 _ _ l0_1 _ _ l0_2 a0_3 t10 _ ?side1 ?side2 ?side3 ?side4 ?side5 ?side6 A2.out).mono ?_); (case side1 => repeat (first | exact (yN HR0_0.out HB.out) | (with_reducible first | refine zT ?_ _ | refine zU ?_ _ | refine zV ?_))); (case side2 => exact HC0_0.out); (case side3 => repeat (first | exact (yN HR0_1.out HB.out) | (with_reducible first | refine zT ?_ _ | refine zU ?_ _ | refine zV ?_))); (case side4 => exact HC0_1.out); (case side5 => repeat (first | exact (yN HR0_2.out HB.out) | (with_reducible first | refine zT ?_ _ | refine zU ?_ _ | refine zV ?_))); (case side6 => exact HC0_2.out); rintro e w5 ⟨rfl, hb⟩; refine ⟨_, rfl, ?_⟩; have n0_ := zA (yE (g := gb11) (o := .cells #[.slice A0_0 l0_0.length c0_0, .slice A0_1 l0_1.length c0_1, .slice A0_2 l0_2.length c0_2, .int .i64 a0_3] 38 (0, 0)) (by (with_reducible repeat (first | refine zL ?_ _ | refine zN ?_ | refine zM ?_ _)); exact BK11.out) hb); have n1_ := zA (zAD (by repeat (first | (with_reducible first | exact HB.out | apply zH | apply zF | apply zG | refine zI ?_ GE11.out) | exact HB.out)) hb); clear BK11; clear HB; have BK11 := n0_; have HB := n1_; clear n0_ n1_; (try clear hb))); go_ret; exact ⟨by first | rfl | (simp <;> rfl) | (simp [*] <;> rfl), by repeat (first | (with_reducible first | exact HB.out | apply zH | apply zF | apply zG | refine zI ?_ GE11.out) | exact HB.out)⟩
def impl_hasAt.f (l0 : List ByteArray) (a1 : Int) (a2 : ByteArray) : Option (Bool) := if a1 < (l0.length : Int) then (if 0 ≤ a1 then (some ((rdOf ByteArray.empty l0 a1).toList == a2.toList)) else (none)) else (some false)
theorem impl_hasAt.calls (A0 : Option Addr) (c0 : Nat) (l0 : List ByteArray) (a1 : Int) (a2 : ByteArray) (r : Bool) (w : World) (hr0 : Kd.C Kd.string w A0 l0.length l0) (hc0 : l0.length ≤ c0) (h : impl_hasAt.f l0 a1 a2 = some r) :
  Calls Try.prog 66 #[.slice A0 l0.length c0, .int .i64 a1, .string a2] w fun e w' => e = .returned (.bool r) ∧ Drawn0 w w' := by
 have HR0 := zA hr0; have HC0 := zA hc0; clear hr0 hc0; have H : (if a1 < (l0.length : Int) then (if 0 ≤ a1 then (some ((rdOf ByteArray.empty l0 a1).toList == a2.toList)) else (none)) else (some false)) = some r := h; clear h
 by_cases c4 : a1 < (l0.length : Int)
 ·rw [if_pos c4] at H
  have c4b0 : decide (a1 < (l0.length : Int)) = true := zX c4; clear c4
  by_cases c5 : 0 ≤ a1
  ·rw [if_pos c5] at H
   have c5b0 : decide (0 ≤ a1) = true := zX c5; clear c5; obtain rfl := yM H; have p10 : 0 ≤ (a1 : Int) := zW (by first | (with_reducible assumption) | assumption); have q10 : a1 < (l0.length : Int) := zW (by first | (with_reducible assumption) | assumption); obtain ⟨ad10, e10, hx10_0⟩ := Kd.at_string HR0.out a1 p10 q10
   cases e10
   replace p10 := eq_true p10; replace q10 := eq_true q10; go_enter Try.func66, Try.ntmps66; go_wp2; go_ret; exact ⟨by first | rfl | (simp; done) | (simp [*]; done) | (simp [bne]; done), by repeat (first | exact Drawn0.refl _ | apply Drawn0.step)⟩
  ·rw [if_neg c5] at H
   exact absurd H (by simp)
 ·rw [if_neg c4] at H
  have c4b0 : decide (a1 < (l0.length : Int)) = false := decide_eq_false c4; clear c4; obtain rfl := yM H; go_enter Try.func66, Try.ntmps66; go_wp2; go_ret; exact ⟨by first | rfl | (simp; done) | (simp [*]; done) | (simp [bne]; done), by repeat (first | exact Drawn0.refl _ | apply Drawn0.step)⟩
def cmp_isNaN_string.f (a0 : ByteArray) : Option (Bool) := some (a0.toList != a0.toList)
theorem cmp_isNaN_string.calls (a0 : ByteArray) (r : Bool) (w : World) (h : cmp_isNaN_string.f a0 = some r) :
  Calls Try.prog 98 #[.string a0] w fun e w' => e = .returned (.bool r) ∧ Drawn0 w w' := by
 have H : (some (a0.toList != a0.toList)) = some r := h; clear h; obtain rfl := yM H; go_enter Try.func98, Try.ntmps98; go_wp2; go_ret; exact ⟨by first | rfl | (simp; done) | (simp [*]; done) | (simp [bne]; done), by repeat (first | exact Drawn0.refl _ | apply Drawn0.step)⟩
def cmp_Less_string.f (a0 : ByteArray) (a1 : ByteArray) : Option (Bool) := (cmp_isNaN_string.f a0).bind fun t10 => (if t10 = true then ((cmp_isNaN_string.f a1).bind fun t11 => (if t11 = true then (some (Op.bytesLess a0.toList a1.toList)) else (some true))) else (some (Op.bytesLess a0.toList a1.toList)))
theorem cmp_Less_string.calls (a0 : ByteArray) (a1 : ByteArray) (r : Bool) (w : World) (h : cmp_Less_string.f a0 a1 = some r) :
  Calls Try.prog 96 #[.string a0, .string a1] w fun e w' => e = .returned (.bool r) ∧ Drawn0 w w' := by
 have H : ((cmp_isNaN_string.f a0).bind fun t10 => (if t10 = true then ((cmp_isNaN_string.f a1).bind fun t11 => (if t11 = true then (some (Op.bytesLess a0.toList a1.toList)) else (some true))) else (some (Op.bytesLess a0.toList a1.toList)))) = some r := h; clear h; replace H := zAF H; obtain ⟨t10, A30, H⟩ := H; replace H : (if t10 = true then ((cmp_isNaN_string.f a1).bind fun t11 => (if t11 = true then (some (Op.bytesLess a0.toList a1.toList)) else (some true))) else (some (Op.bytesLess a0.toList a1.toList))) = some r := H; have A3 := zA A30; clear A30
 by_cases c4 : t10 = true
 ·subst c4
  have H1 : ((cmp_isNaN_string.f a1).bind fun t11 => (if t11 = true then (some (Op.bytesLess a0.toList a1.toList)) else (some true))) = some r := by rw [if_pos rfl] at H; exact H
  clear H; have H := H1; clear H1; replace H := zAF H; obtain ⟨t11, A50, H⟩ := H; replace H : (if t11 = true then (some (Op.bytesLess a0.toList a1.toList)) else (some true)) = some r := H; have A5 := zA A50; clear A50
  by_cases c6 : t11 = true
  ·subst c6
   have H1 : (some (Op.bytesLess a0.toList a1.toList)) = some r := by rw [if_pos rfl] at H; exact H
   clear H; have H := H1; clear H1; obtain rfl := yM H; go_enter Try.func96, Try.ntmps96; go_wp2_with (first | ((with_reducible refine yB (f := 98) rfl ?_); refine goesL_ (some 6) rfl rfl Try.func98 (by kernel_rfl) rfl #[.string a0] rfl (by (try simp only [zAA, zAB, zAC]); first | done | rfl) ?_; (with_reducible refine (cmp_isNaN_string.calls a0 true _ A3.out).mono ?_); rintro e w' ⟨rfl, ⟨nd, rfl⟩⟩; refine ⟨_, rfl, ?_⟩) | (go_at_call 98; (with_reducible refine (cmp_isNaN_string.calls a1 true _ A5.out).mono ?_); rintro e w' ⟨rfl, ⟨nd, rfl⟩⟩)); go_ret; exact ⟨by first | rfl | (simp; done) | (simp [*]; done) | (simp [bne]; done), by repeat (first | exact Drawn0.refl _ | apply Drawn0.step)⟩
  ·replace c6 := yO c6
   subst c6; have H1 : (some true) = some r := by rw [if_neg (show ¬ (false = true) by decide)] at H; exact H
   clear H; have H := H1; clear H1; obtain rfl := yM H; go_enter Try.func96, Try.ntmps96; go_wp2_with (first | ((with_reducible refine yB (f := 98) rfl ?_); refine goesL_ (some 6) rfl rfl Try.func98 (by kernel_rfl) rfl #[.string a0] rfl (by (try simp only [zAA, zAB, zAC]); first | done | rfl) ?_; (with_reducible refine (cmp_isNaN_string.calls a0 true _ A3.out).mono ?_); rintro e w' ⟨rfl, ⟨nd, rfl⟩⟩; refine ⟨_, rfl, ?_⟩) | (go_at_call 98; (with_reducible refine (cmp_isNaN_string.calls a1 false _ A5.out).mono ?_); rintro e w' ⟨rfl, ⟨nd, rfl⟩⟩)); go_ret; exact ⟨by first | rfl | (simp; done) | (simp [*]; done) | (simp [bne]; done), by repeat (first | exact Drawn0.refl _ | apply Drawn0.step)⟩
 ·replace c4 := yO c4
  subst c4; have H1 : (some (Op.bytesLess a0.toList a1.toList)) = some r := by rw [if_neg (show ¬ (false = true) by decide)] at H; exact H
  clear H; have H := H1; clear H1; obtain rfl := yM H; go_enter Try.func96, Try.ntmps96; go_wp2_with (first | ((with_reducible refine yB (f := 98) rfl ?_); refine goesL_ (some 6) rfl rfl Try.func98 (by kernel_rfl) rfl #[.string a0] rfl (by (try simp only [zAA, zAB, zAC]); first | done | rfl) ?_; (with_reducible refine (cmp_isNaN_string.calls a0 false _ A3.out).mono ?_); rintro e w' ⟨rfl, ⟨nd, rfl⟩⟩; refine ⟨_, rfl, ?_⟩)); go_ret; exact ⟨by first | rfl | (simp; done) | (simp [*]; done) | (simp [bne]; done), by repeat (first | exact Drawn0.refl _ | apply Drawn0.step)⟩
def slices_isNaN_string.f (a0 : ByteArray) : Option (Bool) := some (a0.toList != a0.toList)
theorem slices_isNaN_string.calls (a0 : ByteArray) (r : Bool) (w : World) (h : slices_isNaN_string.f a0 = some r) :
  Calls Try.prog 97 #[.string a0] w fun e w' => e = .returned (.bool r) ∧ Drawn0 w w' := by
 have H : (some (a0.toList != a0.toList)) = some r := h; clear h; obtain rfl := yM H; go_enter Try.func97, Try.ntmps97; go_wp2; go_ret; exact ⟨by first | rfl | (simp; done) | (simp [*]; done) | (simp [bne]; done), by repeat (first | exact Drawn0.refl _ | apply Drawn0.step)⟩
def slices_BinarySearch_string_string.l0 : Nat → List ByteArray → ByteArray → Int → Int → Int → Option (Int × Bool)
 | 0, _, _, _, _, _ => none
 | k + 1, x0, x1, x6, x7, x8 => if x7 < x8 then (if 0 ≤ (wrap64 ((IntKind.u64.wrap (wrap64 (x7 + x8))) / 2)) then (if (wrap64 ((IntKind.u64.wrap (wrap64 (x7 + x8))) / 2)) < (x0.length : Int) then ((cmp_Less_string.f (rdOf ByteArray.empty x0 (wrap64 ((IntKind.u64.wrap (wrap64 (x7 + x8))) / 2))) x1).bind fun t10 => (if t10 = true then (slices_BinarySearch_string_string.l0 k x0 x1 x6 (wrap64 ((wrap64 ((IntKind.u64.wrap (wrap64 (x7 + x8))) / 2)) + 1)) x8) else (slices_BinarySearch_string_string.l0 k x0 x1 x6 x7 (wrap64 ((IntKind.u64.wrap (wrap64 (x7 + x8))) / 2))))) else (none)) else (none)) else (if x7 < x6 then (if 0 ≤ x7 then (if x7 < (x0.length : Int) then (if (rdOf ByteArray.empty x0 x7).toList = x1.toList then (some (x7, true)) else ((slices_isNaN_string.f (rdOf ByteArray.empty x0 x7)).bind fun t11 => (if t11 = true then ((slices_isNaN_string.f x1).bind fun t12 => (some (x7, t12))) else (some (x7, false))))) else (none)) else (none)) else (some (x7, false)))
def slices_BinarySearch_string_string.f (k : Nat) (l0 : List ByteArray) (a1 : ByteArray) : Option (Int × Bool) := slices_BinarySearch_string_string.l0 k l0 a1 (l0.length : Int) 0 (l0.length : Int)
theorem slices_BinarySearch_string_string.calls (k : Nat) (A0 : Option Addr) (c0 : Nat) (l0 : List ByteArray) (a1 : ByteArray) (r1 : Int) (r2 : Bool) (w : World) (hr0 : Kd.C Kd.string w A0 l0.length l0) (hc0 : l0.length ≤ c0) (h : slices_BinarySearch_string_string.f k l0 a1 = some (r1, r2)) :
  Calls Try.prog 84 #[.slice A0 l0.length c0, .string a1] w fun e w' => e = .returned (.tuple #[.int .i64 r1, .bool r2]) ∧ Drawn0 w w' := by
 have HR0 := zA hr0; have HC0 := zA hc0; clear hr0 hc0; have H : (slices_BinarySearch_string_string.l0 k l0 a1 (l0.length : Int) 0 (l0.length : Int)) = some (r1, r2) := h; clear h; have H' := zA H; clear H; go_enter Try.func84, Try.ntmps84; go_wp2; go_loopg [7, 8] k (fun kq v7 v8 w' => ∃ (x7_1 : Int) (x8_1 : Int), v7 = .int .i64 x7_1 ∧ v8 = .int .i64 x8_1 ∧ Aside0 (slices_BinarySearch_string_string.l0 kq l0 a1 (l0.length : Int) x7_1 x8_1 = some (r1, r2)) ∧ Aside0 (kq ≤ k) ∧ Drawn0 w w')
 case atStart => exact ⟨(0), ((l0.length : Int)), (by first | rfl | (simp; done) | (simp [*]; done) | (simp [bne]; done)), (by first | rfl | (simp; done) | (simp [*]; done) | (simp [bne]; done)), H', ⟨Nat.le_refl _⟩, by repeat (first | exact Drawn0.refl _ | apply Drawn0.step)⟩
 case round =>
  clear H'
  try clear p2
  obtain ⟨x7_1, x8_1, rfl, rfl, HA, HK1, ⟨m1, rfl⟩⟩ := hrel
  cases gk with
  | zero => exact absurd HA.out (by simp [slices_BinarySearch_string_string.l0])
  | succ k1 =>
   have H := HA.out; clear HA; simp only [slices_BinarySearch_string_string.l0] at H
   by_cases c3 : x7_1 < x8_1
   ·rw [if_pos c3] at H
    have c3b0 : decide (x7_1 < x8_1) = true := zX c3; clear c3; obtain ⟨ji4, hji4⟩ : ∃ j_ : Int, (wrap64 ((IntKind.u64.wrap (wrap64 (x7_1 + x8_1))) / 2)) = j_ := ⟨_, rfl⟩; replace H : (if 0 ≤ (ji4) then (if (ji4) < (l0.length : Int) then ((cmp_Less_string.f (rdOf ByteArray.empty l0 (ji4)) a1).bind fun t16 => (if t16 = true then (slices_BinarySearch_string_string.l0 k1 l0 a1 (l0.length : Int) (wrap64 ((ji4) + 1)) x8_1) else (slices_BinarySearch_string_string.l0 k1 l0 a1 (l0.length : Int) x7_1 ji4))) else (none)) else (none)) = some (r1, r2) := by first | (rw [hji4] at H; exact H) | (simp only [hji4] at H ⊢; exact H)
    have hji4w : (IntKind.i64.wrap ((IntKind.u64.wrap (wrap64 (x7_1 + x8_1))) / 2)) = ji4 := (i64_w _).trans hji4
    by_cases c5 : 0 ≤ (ji4)
    ·rw [if_pos c5] at H
     have c5b0 : decide (0 ≤ (ji4)) = true := zX c5; clear c5
     by_cases c6 : (ji4) < (l0.length : Int)
     ·rw [if_pos c6] at H
      have c6b0 : decide ((ji4) < (l0.length : Int)) = true := zX c6; clear c6; replace H := zAF H; obtain ⟨t16, A70, H⟩ := H; replace H : (if t16 = true then (slices_BinarySearch_string_string.l0 k1 l0 a1 (l0.length : Int) (wrap64 ((ji4) + 1)) x8_1) else (slices_BinarySearch_string_string.l0 k1 l0 a1 (l0.length : Int) x7_1 ji4)) = some (r1, r2) := H; have A7 := zA A70; clear A70
      by_cases c8 : t16 = true
      ·subst c8
       have H1 : (slices_BinarySearch_string_string.l0 k1 l0 a1 (l0.length : Int) (wrap64 ((ji4) + 1)) x8_1) = some (r1, r2) := by rw [if_pos rfl] at H; exact H
       clear H; have H := H1; clear H1; have H' := zA H; clear H; have p17 : 0 ≤ ((ji4) : Int) := zW (by first | (with_reducible assumption) | assumption); have q17 : (ji4) < (l0.length : Int) := zW (by first | (with_reducible assumption) | assumption); obtain ⟨ad17, e17, hx17_0⟩ := Kd.at_string HR0.out (ji4) p17 q17
       cases e17
       replace p17 := eq_true p17; replace q17 := eq_true q17; go_wp2_with (first | ((with_reducible refine yB (f := 96) rfl ?_); refine goesL_ (some 27) rfl rfl Try.func96 (by kernel_rfl) rfl #[.string (rdOf ByteArray.empty l0 (ji4)), .string a1] rfl (by (try simp only [zAA, zAB, zAC]); first | done | (simp only [hji4]; rfl) | rfl | (simp only [zZ, zY]; rfl)) ?_; (with_reducible refine (cmp_Less_string.calls (rdOf ByteArray.empty l0 (ji4)) a1 true _ A7.out).mono ?_); rintro e w' ⟨rfl, ⟨nd, rfl⟩⟩; refine ⟨_, rfl, ?_⟩)); go_roundg k1
       case measure => have := HK1.out; omega
       case rel => exact ⟨(wrap64 ((ji4) + 1)), (x8_1), (by first | rfl | (simp; done) | (simp only [← hji4] <;> (first | rfl | simp)) | (simp [*]; done)), (by first | rfl | (simp; done) | (simp [*]; done) | (simp [bne]; done)), ⟨by first | exact H'.out | (rw [hji4]; exact H'.out) | (simp only [hji4]; exact H'.out)⟩, ⟨by have := HK1.out; omega⟩, by repeat (first | exact Drawn0.refl _ | apply Drawn0.step)⟩
      ·replace c8 := yO c8
       subst c8; have H1 : (slices_BinarySearch_string_string.l0 k1 l0 a1 (l0.length : Int) x7_1 ji4) = some (r1, r2) := by rw [if_neg (show ¬ (false = true) by decide)] at H; exact H
       clear H; have H := H1; clear H1; have H' := zA H; clear H; have p17 : 0 ≤ ((ji4) : Int) := zW (by first | (with_reducible assumption) | assumption); have q17 : (ji4) < (l0.length : Int) := zW (by first | (with_reducible assumption) | assumption); obtain ⟨ad17, e17, hx17_0⟩ := Kd.at_string HR0.out (ji4) p17 q17
       cases e17
       replace p17 := eq_true p17; replace q17 := eq_true q17; go_wp2_with (first | ((with_reducible refine yB (f := 96) rfl ?_); refine goesL_ (some 27) rfl rfl Try.func96 (by kernel_rfl) rfl #[.string (rdOf ByteArray.empty l0 (ji4)), .string a1] rfl (by (try simp only [zAA, zAB, zAC]); first | done | (simp only [hji4]; rfl) | rfl | (simp only [zZ, zY]; rfl)) ?_; (with_reducible refine (cmp_Less_string.calls (rdOf ByteArray.empty l0 (ji4)) a1 false _ A7.out).mono ?_); rintro e w' ⟨rfl, ⟨nd, rfl⟩⟩; refine ⟨_, rfl, ?_⟩)); go_roundg k1
       case measure => have := HK1.out; omega
       case rel => exact ⟨(x7_1), (ji4), (by first | rfl | (simp; done) | (simp [*]; done) | (simp [bne]; done)), (by first | rfl | (simp; done) | (simp only [← hji4] <;> (first | rfl | simp)) | (simp [*]; done)), ⟨by first | exact H'.out | (rw [hji4]; exact H'.out) | (simp only [hji4]; exact H'.out)⟩, ⟨by have := HK1.out; omega⟩, by repeat (first | exact Drawn0.refl _ | apply Drawn0.step)⟩
     ·rw [if_neg c6] at H
      exact absurd H (by simp)
    ·rw [if_neg c5] at H
     exact absurd H (by simp)
   ·rw [if_neg c3] at H
    have c3b0 : decide (x7_1 < x8_1) = false := decide_eq_false c3; clear c3
    by_cases c9 : x7_1 < (l0.length : Int)
    ·rw [if_pos c9] at H
     have c9b0 : decide (x7_1 < (l0.length : Int)) = true := zX c9; clear c9
     by_cases c10 : 0 ≤ x7_1
     ·rw [if_pos c10] at H
      have c10b0 : decide (0 ≤ x7_1) = true := zX c10; clear c10
      by_cases c11 : x7_1 < (l0.length : Int)
      ·rw [if_pos c11] at H
       have c11b0 : decide (x7_1 < (l0.length : Int)) = true := zX c11; clear c11
       by_cases c12 : (rdOf ByteArray.empty l0 x7_1).toList = a1.toList
       ·rw [if_pos c12] at H
        have c12b0 : ((rdOf ByteArray.empty l0 x7_1).toList == a1.toList) = true := beq_iff_eq.mpr c12; have c12b1 : ((rdOf ByteArray.empty l0 x7_1).toList != a1.toList) = false := bne_eq_false_iff_eq.mpr c12; clear c12; simp only [Option.some.injEq, Prod.mk.injEq] at H; obtain ⟨rfl, rfl⟩ := H; have p18 : 0 ≤ (x7_1 : Int) := zW (by first | (with_reducible assumption) | assumption); have q18 : x7_1 < (l0.length : Int) := zW (by first | (with_reducible assumption) | assumption); obtain ⟨ad18, e18, hx18_0⟩ := Kd.at_string HR0.out x7_1 p18 q18
        cases e18
        replace p18 := eq_true p18; replace q18 := eq_true q18; go_wp2; go_ret2; exact ⟨by first | rfl | (simp; done) | (simp [*]; done) | (simp [bne]; done), by repeat (first | exact Drawn0.refl _ | apply Drawn0.step)⟩
       ·rw [if_neg c12] at H
        have c12b0 : ((rdOf ByteArray.empty l0 x7_1).toList == a1.toList) = false := beq_eq_false_iff_ne.mpr c12; have c12b1 : ((rdOf ByteArray.empty l0 x7_1).toList != a1.toList) = true := bne_iff_ne.mpr c12; replace H := zAF H; obtain ⟨t19, A20, H⟩ := H; replace H : (if t19 = true then ((slices_isNaN_string.f a1).bind fun t21 => (some (x7_1, t21))) else (some (x7_1, false))) = some (r1, r2) := H; have A13 := zA A20; clear A20
        by_cases c14 : t19 = true
        ·subst c14
         have H1 : ((slices_isNaN_string.f a1).bind fun t21 => (some (x7_1, t21))) = some (r1, r2) := by rw [if_pos rfl] at H; exact H
         clear H; have H := H1; clear H1; replace H := zAF H; obtain ⟨t21, A22, H⟩ := H; replace H : (some (x7_1, t21)) = some (r1, r2) := H; have A15 := zA A22; clear A22; simp only [Option.some.injEq, Prod.mk.injEq] at H; obtain ⟨rfl, rfl⟩ := H; have p18 : 0 ≤ (x7_1 : Int) := zW (by first | (with_reducible assumption) | assumption); have q18 : x7_1 < (l0.length : Int) := zW (by first | (with_reducible assumption) | assumption); obtain ⟨ad18, e18, hx18_0⟩ := Kd.at_string HR0.out x7_1 p18 q18
         cases e18
         replace p18 := eq_true p18; replace q18 := eq_true q18; have p23 : 0 ≤ (x7_1 : Int) := zW (by first | (with_reducible assumption) | assumption); have q23 : x7_1 < (l0.length : Int) := zW (by first | (with_reducible assumption) | assumption); obtain ⟨ad23, e23, hx23_0⟩ := Kd.at_string HR0.out x7_1 p23 q23; obtain rfl : ad18 = ad23 := (by injection e23); replace p23 := eq_true p23; replace q23 := eq_true q23; go_wp2_with (first | (go_at_call 97; (with_reducible refine (slices_isNaN_string.calls (rdOf ByteArray.empty l0 x7_1) true _ A13.out).mono ?_); rintro e w' ⟨rfl, ⟨nd, rfl⟩⟩) | (go_at_call 97; (with_reducible refine (slices_isNaN_string.calls a1 t21 _ A15.out).mono ?_); rintro e w' ⟨rfl, ⟨nd, rfl⟩⟩)); go_ret2; exact ⟨by first | rfl | (simp; done) | (simp [*]; done) | (simp [bne]; done), by repeat (first | exact Drawn0.refl _ | apply Drawn0.step)⟩
        ·replace c14 := yO c14
         subst c14; have H1 : (some (x7_1, false)) = some (r1, r2) := by rw [if_neg (show ¬ (false = true) by decide)] at H; exact H
         clear H; have H := H1; clear H1; simp only [Option.some.injEq, Prod.mk.injEq] at H; obtain ⟨rfl, rfl⟩ := H; have p18 : 0 ≤ (x7_1 : Int) := zW (by first | (with_reducible assumption) | assumption); have q18 : x7_1 < (l0.length : Int) := zW (by first | (with_reducible assumption) | assumption); obtain ⟨ad18, e18, hx18_0⟩ := Kd.at_string HR0.out x7_1 p18 q18
         cases e18
         replace p18 := eq_true p18; replace q18 := eq_true q18; have p23 : 0 ≤ (x7_1 : Int) := zW (by first | (with_reducible assumption) | assumption); have q23 : x7_1 < (l0.length : Int) := zW (by first | (with_reducible assumption) | assumption); obtain ⟨ad23, e23, hx23_0⟩ := Kd.at_string HR0.out x7_1 p23 q23; obtain rfl : ad18 = ad23 := (by injection e23); replace p23 := eq_true p23; replace q23 := eq_true q23; go_wp2_with (first | (go_at_call 97; (with_reducible refine (slices_isNaN_string.calls (rdOf ByteArray.empty l0 x7_1) false _ A13.out).mono ?_); rintro e w' ⟨rfl, ⟨nd, rfl⟩⟩)); go_ret2; exact ⟨by first | rfl | (simp; done) | (simp [*]; done) | (simp [bne]; done), by repeat (first | exact Drawn0.refl _ | apply Drawn0.step)⟩
      ·rw [if_neg c11] at H
       exact absurd H (by simp)
     ·rw [if_neg c10] at H
      exact absurd H (by simp)
    ·rw [if_neg c9] at H
     have c9b0 : decide (x7_1 < (l0.length : Int)) = false := decide_eq_false c9; clear c9; simp only [Option.some.injEq, Prod.mk.injEq] at H; obtain ⟨rfl, rfl⟩ := H; go_wp2; go_ret2; exact ⟨by first | rfl | (simp; done) | (simp [*]; done) | (simp [bne]; done), by repeat (first | exact Drawn0.refl _ | apply Drawn0.step)⟩
def impl_less.f (k : Nat) (l0 : List ByteArray) (a1 : ByteArray) : Option (Int) := (slices_BinarySearch_string_string.f k l0 a1).bind fun bt10 => (some bt10.1)
theorem impl_less.calls (k : Nat) (A0 : Option Addr) (c0 : Nat) (l0 : List ByteArray) (a1 : ByteArray) (r : Int) (w : World) (hr0 : Kd.C Kd.string w A0 l0.length l0) (hc0 : l0.length ≤ c0) (h : impl_less.f k l0 a1 = some r) :
  Calls Try.prog 67 #[.slice A0 l0.length c0, .string a1] w fun e w' => e = .returned (.int .i64 r) ∧ Drawn0 w w' := by
 have HR0 := zA hr0; have HC0 := zA hc0; clear hr0 hc0; have H : ((slices_BinarySearch_string_string.f k l0 a1).bind fun bt10 => (some bt10.1)) = some r := h; clear h; replace H := zAF H; obtain ⟨⟨t10, t11⟩, A30, H⟩ := H; replace H : (some t10) = some r := H; have A3 := zA A30; clear A30; obtain rfl := yM H; go_enter Try.func67, Try.ntmps67; go_wp2_with (first | ((with_reducible refine yB (f := 84) rfl ?_); refine goesL_ (some 10) rfl rfl Try.func84 (by kernel_rfl) rfl #[.slice A0 l0.length c0, .string a1] rfl (by (try simp only [zAA, zAB, zAC]); first | done | rfl | (simp only [zZ, zY]; rfl)) ?_; (with_reducible refine (slices_BinarySearch_string_string.calls k _ _ l0 a1 t10 t11 _ ?side1 ?side2 A3.out).mono ?_); (case side1 => repeat (first | exact HR0.out | (with_reducible first | refine zT ?_ _ | refine zU ?_ _ | refine zV ?_))); (case side2 => exact HC0.out); rintro e w' ⟨rfl, ⟨nd, rfl⟩⟩; refine ⟨_, rfl, ?_⟩)); go_ret; exact ⟨by first | rfl | (simp; done) | (simp [*]; done) | (simp [bne]; done), by repeat (first | exact Drawn0.refl _ | apply Drawn0.step)⟩
def slices_IndexFunc_impl_CheckKey_1.l0 : Nat → List (S38) → Int → Int → Option (Int)
 | 0, _, _, _ => none
 | k + 1, x0, x7, x8 => if x8 < x7 then (if 0 ≤ x8 then (if x8 < (x0.length : Int) then ((impl_CheckKey_1.f k ((rd_T38 x0 x8).f0) ((rd_T38 x0 x8).f1) ((rd_T38 x0 x8).f2) ((rd_T38 x0 x8).f3)).bind fun t10 => (if t10 = true then (some x8) else (slices_IndexFunc_impl_CheckKey_1.l0 k x0 x7 (wrap64 (x8 + 1))))) else (none)) else (none)) else (some (-1))
def slices_IndexFunc_impl_CheckKey_1.f (k : Nat) (l0 : List (S38))  : Option (Int) := slices_IndexFunc_impl_CheckKey_1.l0 k l0 (l0.length : Int) 0
theorem slices_IndexFunc_impl_CheckKey_1.calls (k : Nat) (A0 : Option Addr) (c0 : Nat) (l0 : List (S38))  (r : Int) (w : World) (hr0 : Kd.C k38 w A0 l0.length l0) (hc0 : l0.length ≤ c0) (h : slices_IndexFunc_impl_CheckKey_1.f k l0 = some r) :
  Calls Try.prog 81 #[.slice A0 l0.length c0, .func (.func 64) #[] #[]] w fun e w' => e = .returned (.int .i64 r) ∧ Below w.heap.size w w' := by
 have hu38 := Try.underlying38; have HR0 := zA hr0; have HC0 := zA hc0; clear hr0 hc0; have HB := zA (Below.refl w.heap.size w); have H : (slices_IndexFunc_impl_CheckKey_1.l0 k l0 (l0.length : Int) 0) = some r := h; clear h; have H' := zA H; clear H; go_enter Try.func81, Try.ntmps81; go_wp2; go_loopg [8] k (fun kq v8 w' => ∃ (x8_1 : Int), v8 = .int .i64 x8_1 ∧ Aside0 (slices_IndexFunc_impl_CheckKey_1.l0 kq l0 (l0.length : Int) x8_1 = some r) ∧ Aside0 (kq ≤ k) ∧ Aside0 (Below w.heap.size w w'))
 case atStart => exact ⟨(0), (by first | rfl | (simp; done) | (simp [*]; done) | (simp [bne]; done)), H', ⟨Nat.le_refl _⟩, ⟨by (with_reducible repeat first | exact HB.out | apply zH | apply zF | apply zG) <;> exact HB.out⟩⟩
 case round =>
  clear H'
  try clear p2
  obtain ⟨x8_1, rfl, HA, HK1, HB⟩ := hrel
  cases gk with
  | zero => exact absurd HA.out (by simp [slices_IndexFunc_impl_CheckKey_1.l0])
  | succ k1 =>
   have H := HA.out; clear HA; simp only [slices_IndexFunc_impl_CheckKey_1.l0] at H
   by_cases c3 : x8_1 < (l0.length : Int)
   ·rw [if_pos c3] at H
    have c3b0 : decide (x8_1 < (l0.length : Int)) = true := zX c3; clear c3
    by_cases c4 : 0 ≤ x8_1
    ·rw [if_pos c4] at H
     have c4b0 : decide (0 ≤ x8_1) = true := zX c4; clear c4
     by_cases c5 : x8_1 < (l0.length : Int)
     ·rw [if_pos c5] at H
      have c5b0 : decide (x8_1 < (l0.length : Int)) = true := zX c5; clear c5; replace H := zAF H; obtain ⟨t10, A60, H⟩ := H; replace H : (if t10 = true then (some x8_1) else (slices_IndexFunc_impl_CheckKey_1.l0 k1 l0 (l0.length : Int) (wrap64 (x8_1 + 1)))) = some r := H; have A6 := zA A60; clear A60
      by_cases c7 : t10 = true
      ·subst c7
       have H1 : (some x8_1) = some r := by rw [if_pos rfl] at H; exact H
       clear H; have H := H1; clear H1; obtain rfl := yM H; have p11 : 0 ≤ (x8_1 : Int) := zW (by first | (with_reducible assumption) | assumption); have q11 : x8_1 < (l0.length : Int) := zW (by first | (with_reducible assumption) | assumption); obtain ⟨ad11, A11_0, c11_0, A11_1, c11_1, A11_2, c11_2, e11, hx11_0, hx11_1, hx11_2, hx11_3, hl11_0, hi11_0, hl11_1, hi11_1, hl11_2, hi11_2⟩ := at_T38 HR0.out x8_1 p11 q11
       cases e11
       replace hx11_0 := (HB.out.cell (zB w _ hx11_0)).trans hx11_0; replace hx11_1 := (HB.out.cell (zB w _ hx11_1)).trans hx11_1; replace hx11_2 := (HB.out.cell (zB w _ hx11_2)).trans hx11_2; replace hx11_3 := (HB.out.cell (zB w _ hx11_3)).trans hx11_3; have HR11_0 := zA hi11_0; have HC11_0 := zA hl11_0; clear hi11_0 hl11_0; have HR11_1 := zA hi11_1; have HC11_1 := zA hl11_1; clear hi11_1 hl11_1; have HR11_2 := zA hi11_2; have HC11_2 := zA hl11_2; clear hi11_2 hl11_2; replace p11 := eq_true p11; replace q11 := eq_true q11; go_wp2_with (first | (go_at_call 64; (with_reducible refine (impl_CheckKey_1.calls k1 _ _ ((rd_T38 l0 x8_1).f0) _ _ ((rd_T38 l0 x8_1).f1) _ _ ((rd_T38 l0 x8_1).f2) ((rd_T38 l0 x8_1).f3) true _ ?side1 ?side2 ?side3 ?side4 ?side5 ?side6 A6.out).mono ?_); (case side1 => repeat (first | exact (yN HR11_0.out HB.out) | (with_reducible first | refine zT ?_ _ | refine zU ?_ _ | refine zV ?_))); (case side2 => exact HC11_0.out); (case side3 => repeat (first | exact (yN HR11_1.out HB.out) | (with_reducible first | refine zT ?_ _ | refine zU ?_ _ | refine zV ?_))); (case side4 => exact HC11_1.out); (case side5 => repeat (first | exact (yN HR11_2.out HB.out) | (with_reducible first | refine zT ?_ _ | refine zU ?_ _ | refine zV ?_))); (case side6 => exact HC11_2.out); rintro e w8 ⟨rfl, hb⟩; have n0_ := zA (zAD (by (with_reducible repeat first | exact HB.out | apply zH | apply zF | apply zG) <;> exact HB.out) hb); clear HB; have HB := n0_; clear n0_; (try clear hb))); go_ret; exact ⟨by first | rfl | (simp <;> rfl) | (simp [*] <;> rfl), by (with_reducible repeat first | exact HB.out | apply zH | apply zF | apply zG) <;> exact HB.out⟩
      ·replace c7 := yO c7
       subst c7; have H1 : (slices_IndexFunc_impl_CheckKey_1.l0 k1 l0 (l0.length : Int) (wrap64 (x8_1 + 1))) = some r := by rw [if_neg (show ¬ (false = true) by decide)] at H; exact H
       clear H; have H := H1; clear H1; have H' := zA H; clear H; have p11 : 0 ≤ (x8_1 : Int) := zW (by first | (with_reducible assumption) | assumption); have q11 : x8_1 < (l0.length : Int) := zW (by first | (with_reducible assumption) | assumption); obtain ⟨ad11, A11_0, c11_0, A11_1, c11_1, A11_2, c11_2, e11, hx11_0, hx11_1, hx11_2, hx11_3, hl11_0, hi11_0, hl11_1, hi11_1, hl11_2, hi11_2⟩ := at_T38 HR0.out x8_1 p11 q11
       cases e11
       replace hx11_0 := (HB.out.cell (zB w _ hx11_0)).trans hx11_0; replace hx11_1 := (HB.out.cell (zB w _ hx11_1)).trans hx11_1; replace hx11_2 := (HB.out.cell (zB w _ hx11_2)).trans hx11_2; replace hx11_3 := (HB.out.cell (zB w _ hx11_3)).trans hx11_3; have HR11_0 := zA hi11_0; have HC11_0 := zA hl11_0; clear hi11_0 hl11_0; have HR11_1 := zA hi11_1; have HC11_1 := zA hl11_1; clear hi11_1 hl11_1; have HR11_2 := zA hi11_2; have HC11_2 := zA hl11_2; clear hi11_2 hl11_2; replace p11 := eq_true p11; replace q11 := eq_true q11; go_wp2_with (first | (go_at_call 64; (with_reducible refine (impl_CheckKey_1.calls k1 _ _ ((rd_T38 l0 x8_1).f0) _ _ ((rd_T38 l0 x8_1).f1) _ _ ((rd_T38 l0 x8_1).f2) ((rd_T38 l0 x8_1).f3) false _ ?side1 ?side2 ?side3 ?side4 ?side5 ?side6 A6.out).mono ?_); (case side1 => repeat (first | exact (yN HR11_0.out HB.out) | (with_reducible first | refine zT ?_ _ | refine zU ?_ _ | refine zV ?_))); (case side2 => exact HC11_0.out); (case side3 => repeat (first | exact (yN HR11_1.out HB.out) | (with_reducible first | refine zT ?_ _ | refine zU ?_ _ | refine zV ?_))); (case side4 => exact HC11_1.out); (case side5 => repeat (first | exact (yN HR11_2.out HB.out) | (with_reducible first | refine zT ?_ _ | refine zU ?_ _ | refine zV ?_))); (case side6 => exact HC11_2.out); rintro e w9 ⟨rfl, hb⟩; have n0_ := zA (zAD (by (with_reducible repeat first | exact HB.out | apply zH | apply zF | apply zG) <;> exact HB.out) hb); clear HB; have HB := n0_; clear n0_; (try clear hb))); go_roundg k1
       case measure => have := HK1.out; omega
       case rel => exact ⟨(wrap64 (x8_1 + 1)), (by first | rfl | (simp; done) | (simp [*]; done) | (simp [bne]; done)), H', ⟨by have := HK1.out; omega⟩, ⟨by (with_reducible repeat first | exact HB.out | apply zH | apply zF | apply zG) <;> exact HB.out⟩⟩
     ·rw [if_neg c5] at H
      exact absurd H (by simp)
    ·rw [if_neg c4] at H
     exact absurd H (by simp)
   ·rw [if_neg c3] at H
    have c3b0 : decide (x8_1 < (l0.length : Int)) = false := decide_eq_false c3; clear c3; obtain rfl := yM H; go_wp2; go_ret; exact ⟨by first | rfl | (simp <;> rfl) | (simp [*] <;> rfl), by (with_reducible repeat first | exact HB.out | apply zH | apply zF | apply zG) <;> exact HB.out⟩
def slices_ContainsFunc_impl_CheckKey_1.f (k : Nat) (l0 : List (S38))  : Option (Bool) := (slices_IndexFunc_impl_CheckKey_1.f k l0).bind fun t10 => (some (decide (t10 ≥ 0)))
theorem slices_ContainsFunc_impl_CheckKey_1.calls (k : Nat) (A0 : Option Addr) (c0 : Nat) (l0 : List (S38))  (r : Bool) (w : World) (hr0 : Kd.C k38 w A0 l0.length l0) (hc0 : l0.length ≤ c0) (h : slices_ContainsFunc_impl_CheckKey_1.f k l0 = some r) :
  Calls Try.prog 63 #[.slice A0 l0.length c0, .func (.func 64) #[] #[]] w fun e w' => e = .returned (.bool r) ∧ Below w.heap.size w w' := by
 have HR0 := zA hr0; have HC0 := zA hc0; clear hr0 hc0; have HB := zA (Below.refl w.heap.size w); have H : ((slices_IndexFunc_impl_CheckKey_1.f k l0).bind fun t10 => (some (decide (t10 ≥ 0)))) = some r := h; clear h; replace H := zAF H; obtain ⟨t10, A30, H⟩ := H; replace H : (some (decide (t10 ≥ 0))) = some r := H; have A3 := zA A30; clear A30; obtain rfl := yM H; go_enter Try.func63, Try.ntmps63; go_wp2_with (first | ((with_reducible refine yB (f := 81) rfl ?_); refine goesL_ (some 7) rfl rfl Try.func81 (by kernel_rfl) rfl #[.slice A0 l0.length c0, .func (.func 64) #[] #[]] rfl (by (try simp only [zAA, zAB, zAC]); first | done | rfl) ?_; (with_reducible refine (slices_IndexFunc_impl_CheckKey_1.calls k _ _ l0  t10 _ ?side1 ?side2 A3.out).mono ?_); (case side1 => repeat (first | exact HR0.out | (with_reducible first | refine zT ?_ _ | refine zU ?_ _ | refine zV ?_))); (case side2 => exact HC0.out); rintro e w4 ⟨rfl, hb⟩; refine ⟨_, rfl, ?_⟩; have n0_ := zA (zAD (by (with_reducible repeat first | exact HB.out | apply zH | apply zF | apply zG) <;> exact HB.out) hb); clear HB; have HB := n0_; clear n0_; (try clear hb))); go_ret; exact ⟨by first | rfl | (simp <;> rfl) | (simp [*] <;> rfl), by (with_reducible repeat first | exact HB.out | apply zH | apply zF | apply zG) <;> exact HB.out⟩
mutual
def impl_CheckKey.j0 : Nat → ByteArray → ByteArray → List (S38) → Bool → Option (ByteArray × Bool × Bool)
 | 0, _, _, _, _ => none
 | k + 1, x0, x1, x2, x29 => if x29 = true then (some ((⟨#[]⟩ : ByteArray), false, false)) else (impl_CheckKey.l0 k x0 x1 x2 x2 (x2.length : Int) 0)
def impl_CheckKey.l0 : Nat → ByteArray → ByteArray → List (S38) → List (S38) → Int → Int → Option (ByteArray × Bool × Bool)
 | 0, _, _, _, _, _, _ => none
 | k + 1, x0, x1, x2, x30, x31, x32 => if x32 < x31 then (if 0 ≤ x32 then (if x32 < (x30.length : Int) then ((impl_hasAt.f ((rd_T38 x30 x32).f0) ((rd_T38 x30 x32).f3) x1).bind fun t10 => ((impl_Shown_digest.f k ((rd_T38 x30 x32).f0) ((rd_T38 x30 x32).f1) ((rd_T38 x30 x32).f2) ((rd_T38 x30 x32).f3)).bind fun t12 => (if t12.toList = x0.toList then ((impl_less.f k ((rd_T38 x30 x32).f0) x1).bind fun t13 => (impl_CheckKey.j2 k x1 x2 x32 t10 x30 x31 x32 (((rd_T38 x30 x32).f3) != t13) ((rd_T38 x30 x32).f0) ((rd_T38 x30 x32).f1) ((rd_T38 x30 x32).f2) ((rd_T38 x30 x32).f3))) else (impl_CheckKey.j2 k x1 x2 x32 t10 x30 x31 x32 true ((rd_T38 x30 x32).f0) ((rd_T38 x30 x32).f1) ((rd_T38 x30 x32).f2) ((rd_T38 x30 x32).f3))))) else (none)) else (none)) else (some ((⟨#[]⟩ : ByteArray), false, false))
def impl_CheckKey.j2 : Nat → ByteArray → List (S38) → Int → Bool → List (S38) → Int → Int → Bool → List ByteArray → List ByteArray → List ByteArray → Int → Option (ByteArray × Bool × Bool)
 | 0, _, _, _, _, _, _, _, _, _, _, _, _ => none
 | k + 1, x1, x2, x9, x11, x30, x31, x32, x43, x14, x15, x16, x17 => if x43 = true then (some ((⟨#[]⟩ : ByteArray), false, false)) else (if x9 = (wrap64 ((x2.length : Int) - 1)) then (impl_CheckKey.j3 k x1 x2 x9 x11 x30 x31 x32 x11 x14 x15 x16 x17) else (impl_CheckKey.j3 k x1 x2 x9 x11 x30 x31 x32 false x14 x15 x16 x17))
def impl_CheckKey.j3 : Nat → ByteArray → List (S38) → Int → Bool → List (S38) → Int → Int → Bool → List ByteArray → List ByteArray → List ByteArray → Int → Option (ByteArray × Bool × Bool)
 | 0, _, _, _, _, _, _, _, _, _, _, _, _ => none
 | k + 1, x1, x2, x9, x11, x30, x31, x32, x57, x14, x15, x16, x17 => if x57 = true then (if 0 ≤ x17 then (if x17 < (x15.length : Int) then (some (rdOf ByteArray.empty x15 x17, true, true)) else (none)) else (none)) else (if x9 = (wrap64 ((x2.length : Int) - 1)) then (some ((⟨#[]⟩ : ByteArray), false, ((x16.length : Int) == 0))) else (if x11 = true then (some ((⟨#[]⟩ : ByteArray), false, false)) else (if (x16.length : Int) = 0 then (some ((⟨#[]⟩ : ByteArray), false, false)) else (if 0 ≤ x17 then (if x17 < (x16.length : Int) then (impl_CheckKey.l0 k (rdOf ByteArray.empty x16 x17) x1 x2 x30 x31 (wrap64 (x32 + 1))) else (none)) else (none)))))
end
def impl_CheckKey.f (k : Nat) (a0 : ByteArray) (a1 : ByteArray) (l2 : List (S38)) : Option (ByteArray × Bool × Bool) := (impl_isDigest.f a0).bind fun t10 => (if t10 = true then ((impl_isKey.f a1).bind fun t11 => (if t11 = true then ((impl_within.f (l2.length : Int) 1 10).bind fun t12 => (if t12 = true then ((slices_ContainsFunc_impl_CheckKey_1.f k l2).bind fun t13 => (impl_CheckKey.j0 k a0 a1 l2 t13)) else (impl_CheckKey.j0 k a0 a1 l2 true))) else (impl_CheckKey.j0 k a0 a1 l2 true))) else (impl_CheckKey.j0 k a0 a1 l2 true))
def impl_CheckKey.T7 : Bool × List (List Nat × List Nat) := (true, [([], []), ([0], [0]), ([], []), ([1, 2], [1, 2]), ([3, 1], [3]), ([4], [4]), ([5, 4], [4, 5]), ([4], [4]), ([7, 4], [4, 7]), ([4], [4]), ([8, 9, 4, 4], [4, 8, 9]), ([6, 10, 4], [4, 6, 10]), ([4, 11], [4, 11]), ([12, 10], [12])])
def impl_CheckKey.B7 : List Nat := [0, 1, 0, 7, 15, 31, 63, 31, 159, 31, 927, 2047, 4095, 8191]
theorem impl_CheckKey.tab7 : rtab .any (opsOf Try.f44 7) = impl_CheckKey.T7 := by kernel_rfl
theorem impl_CheckKey.bits7 : waitsOk impl_CheckKey.T7.2 impl_CheckKey.B7 = true := by kernel_rfl
theorem impl_CheckKey.calls (k : Nat) (a0 : ByteArray) (a1 : ByteArray) (A2 : Option Addr) (c2 : Nat) (l2 : List (S38)) (r1 : ByteArray) (r2 : Bool) (r3 : Bool) (w : World) (hr2 : Kd.C k38 w A2 l2.length l2) (hc2 : l2.length ≤ c2) (h : impl_CheckKey.f k a0 a1 l2 = some (r1, r2, r3)) :
  Calls Try.prog 44 #[.string a0, .string a1, .slice A2 l2.length c2] w fun e w' => e = .returned (.tuple #[.string r1, .bool r2, .bool r3]) ∧ Below w.heap.size w w' := by
 have hu38 := Try.underlying38; have HR2 := zA hr2; have HC2 := zA hc2; clear hr2 hc2; have HB := zA (Below.refl w.heap.size w); have H : ((impl_isDigest.f a0).bind fun t45 => (if t45 = true then ((impl_isKey.f a1).bind fun t46 => (if t46 = true then ((impl_within.f (l2.length : Int) 1 10).bind fun t47 => (if t47 = true then ((slices_ContainsFunc_impl_CheckKey_1.f k l2).bind fun t48 => (impl_CheckKey.j0 k a0 a1 l2 t48)) else (impl_CheckKey.j0 k a0 a1 l2 true))) else (impl_CheckKey.j0 k a0 a1 l2 true))) else (impl_CheckKey.j0 k a0 a1 l2 true))) = some (r1, r2, r3) := h; clear h; have HC4 := zA H; clear H; go_enter Try.func44, Try.ntmps44; go_upto_region 1 with (fail)
 go_cut [29] (fun v29 wc => ∃ (kq : Nat) (x29_3 : Bool), v29 = .bool x29_3 ∧ Aside0 (impl_CheckKey.j0 kq a0 a1 l2 x29_3 = some (r1, r2, r3)) ∧ Aside0 (kq ≤ k) ∧ Aside0 (Below w.heap.size w wc))
 case first =>
  have H := HC4.out; clear HC4; replace H := zAF H; obtain ⟨t45, A50, H⟩ := H; replace H : (if t45 = true then ((impl_isKey.f a1).bind fun t46 => (if t46 = true then ((impl_within.f (l2.length : Int) 1 10).bind fun t47 => (if t47 = true then ((slices_ContainsFunc_impl_CheckKey_1.f k l2).bind fun t48 => (impl_CheckKey.j0 k a0 a1 l2 t48)) else (impl_CheckKey.j0 k a0 a1 l2 true))) else (impl_CheckKey.j0 k a0 a1 l2 true))) else (impl_CheckKey.j0 k a0 a1 l2 true)) = some (r1, r2, r3) := H; have A5 := zA A50; clear A50
  by_cases c6 : t45 = true
  ·subst c6
   have H1 : ((impl_isKey.f a1).bind fun t46 => (if t46 = true then ((impl_within.f (l2.length : Int) 1 10).bind fun t47 => (if t47 = true then ((slices_ContainsFunc_impl_CheckKey_1.f k l2).bind fun t48 => (impl_CheckKey.j0 k a0 a1 l2 t48)) else (impl_CheckKey.j0 k a0 a1 l2 true))) else (impl_CheckKey.j0 k a0 a1 l2 true))) = some (r1, r2, r3) := by rw [if_pos rfl] at H; exact H
   clear H; have H := H1; clear H1; replace H := zAF H; obtain ⟨t46, A70, H⟩ := H; replace H : (if t46 = true then ((impl_within.f (l2.length : Int) 1 10).bind fun t47 => (if t47 = true then ((slices_ContainsFunc_impl_CheckKey_1.f k l2).bind fun t48 => (impl_CheckKey.j0 k a0 a1 l2 t48)) else (impl_CheckKey.j0 k a0 a1 l2 true))) else (impl_CheckKey.j0 k a0 a1 l2 true)) = some (r1, r2, r3) := H; have A7 := zA A70; clear A70
   by_cases c8 : t46 = true
   ·subst c8
    have H1 : ((impl_within.f (l2.length : Int) 1 10).bind fun t47 => (if t47 = true then ((slices_ContainsFunc_impl_CheckKey_1.f k l2).bind fun t48 => (impl_CheckKey.j0 k a0 a1 l2 t48)) else (impl_CheckKey.j0 k a0 a1 l2 true))) = some (r1, r2, r3) := by rw [if_pos rfl] at H; exact H
    clear H; have H := H1; clear H1; replace H := zAF H; obtain ⟨t47, A90, H⟩ := H; replace H : (if t47 = true then ((slices_ContainsFunc_impl_CheckKey_1.f k l2).bind fun t48 => (impl_CheckKey.j0 k a0 a1 l2 t48)) else (impl_CheckKey.j0 k a0 a1 l2 true)) = some (r1, r2, r3) := H; have A9 := zA A90; clear A90
    by_cases c10 : t47 = true
    ·subst c10
     have H1 : ((slices_ContainsFunc_impl_CheckKey_1.f k l2).bind fun t48 => (impl_CheckKey.j0 k a0 a1 l2 t48)) = some (r1, r2, r3) := by rw [if_pos rfl] at H; exact H
     clear H; have H := H1; clear H1; replace H := zAF H; obtain ⟨t48, A49, H⟩ := H; replace H : (impl_CheckKey.j0 k a0 a1 l2 t48) = some (r1, r2, r3) := H; have A11 := zA A49; clear A49; have H' := zA H; clear H; go_wp2_with (first | ((with_reducible refine yB (f := 52) rfl ?_); refine goesL_ (some 13) rfl rfl Try.func52 (by kernel_rfl) rfl #[.string a0] rfl (by (try simp only [zAA, zAB, zAC]); first | done | rfl) ?_; (with_reducible refine (impl_isDigest.calls a0 true _ A5.out).mono ?_); rintro e w' ⟨rfl, ⟨nd, rfl⟩⟩; refine ⟨_, rfl, ?_⟩) | (go_at_call 61; (with_reducible refine (impl_isKey.calls a1 true _ A7.out).mono ?_); rintro e w' ⟨rfl, ⟨nd, rfl⟩⟩) | (go_at_call 62; (with_reducible refine (impl_within.calls (l2.length : Int) 1 10 true _ A9.out).mono ?_); rintro e w' ⟨rfl, ⟨nd, rfl⟩⟩) | (go_at_call 63; (with_reducible refine (slices_ContainsFunc_impl_CheckKey_1.calls k _ _ l2  t48 _ ?side1 ?side2 A11.out).mono ?_); (case side1 => repeat (first | exact (yN HR2.out (by (with_reducible repeat first | exact HB.out | apply zH | apply zF | apply zG) <;> exact HB.out)) | (with_reducible first | refine zT ?_ _ | refine zU ?_ _ | refine zV ?_))); (case side2 => exact HC2.out); rintro e w12 ⟨rfl, hb⟩; have n0_ := zA (zAD (by (with_reducible repeat first | exact HB.out | apply zH | apply zF | apply zG) <;> exact HB.out) hb); clear HB; have HB := n0_; clear n0_; (try clear hb))); go_meet
     case rel => exact ⟨_, (t48), (by first | rfl | (simp; done) | (simp [*]; done) | (simp [bne]; done)), H', ⟨by first | omega | exact Nat.le_refl _⟩, ⟨by (with_reducible repeat first | exact HB.out | apply zH | apply zF | apply zG) <;> exact HB.out⟩⟩
    ·replace c10 := yO c10
     subst c10; have H1 : (impl_CheckKey.j0 k a0 a1 l2 true) = some (r1, r2, r3) := by rw [if_neg (show ¬ (false = true) by decide)] at H; exact H
     clear H; have H := H1; clear H1; have H' := zA H; clear H; go_wp2_with (first | ((with_reducible refine yB (f := 52) rfl ?_); refine goesL_ (some 13) rfl rfl Try.func52 (by kernel_rfl) rfl #[.string a0] rfl (by (try simp only [zAA, zAB, zAC]); first | done | rfl) ?_; (with_reducible refine (impl_isDigest.calls a0 true _ A5.out).mono ?_); rintro e w' ⟨rfl, ⟨nd, rfl⟩⟩; refine ⟨_, rfl, ?_⟩) | (go_at_call 61; (with_reducible refine (impl_isKey.calls a1 true _ A7.out).mono ?_); rintro e w' ⟨rfl, ⟨nd, rfl⟩⟩) | (go_at_call 62; (with_reducible refine (impl_within.calls (l2.length : Int) 1 10 false _ A9.out).mono ?_); rintro e w' ⟨rfl, ⟨nd, rfl⟩⟩)); go_meet
     case rel => exact ⟨_, (true), (by first | rfl | (simp; done) | (simp [*]; done) | (simp [bne]; done)), H', ⟨by first | omega | exact Nat.le_refl _⟩, ⟨by (with_reducible repeat first | exact HB.out | apply zH | apply zF | apply zG) <;> exact HB.out⟩⟩
   ·replace c8 := yO c8
    subst c8; have H1 : (impl_CheckKey.j0 k a0 a1 l2 true) = some (r1, r2, r3) := by rw [if_neg (show ¬ (false = true) by decide)] at H; exact H
    clear H; have H := H1; clear H1; have H' := zA H; clear H; go_wp2_with (first | ((with_reducible refine yB (f := 52) rfl ?_); refine goesL_ (some 13) rfl rfl Try.func52 (by kernel_rfl) rfl #[.string a0] rfl (by (try simp only [zAA, zAB, zAC]); first | done | rfl) ?_; (with_reducible refine (impl_isDigest.calls a0 true _ A5.out).mono ?_); rintro e w' ⟨rfl, ⟨nd, rfl⟩⟩; refine ⟨_, rfl, ?_⟩) | (go_at_call 61; (with_reducible refine (impl_isKey.calls a1 false _ A7.out).mono ?_); rintro e w' ⟨rfl, ⟨nd, rfl⟩⟩)); go_meet
    case rel => exact ⟨_, (true), (by first | rfl | (simp; done) | (simp [*]; done) | (simp [bne]; done)), H', ⟨by first | omega | exact Nat.le_refl _⟩, ⟨by (with_reducible repeat first | exact HB.out | apply zH | apply zF | apply zG) <;> exact HB.out⟩⟩
  ·replace c6 := yO c6
   subst c6; have H1 : (impl_CheckKey.j0 k a0 a1 l2 true) = some (r1, r2, r3) := by rw [if_neg (show ¬ (false = true) by decide)] at H; exact H
   clear H; have H := H1; clear H1; have H' := zA H; clear H; go_wp2_with (first | ((with_reducible refine yB (f := 52) rfl ?_); refine goesL_ (some 13) rfl rfl Try.func52 (by kernel_rfl) rfl #[.string a0] rfl (by (try simp only [zAA, zAB, zAC]); first | done | rfl) ?_; (with_reducible refine (impl_isDigest.calls a0 false _ A5.out).mono ?_); rintro e w' ⟨rfl, ⟨nd, rfl⟩⟩; refine ⟨_, rfl, ?_⟩)); go_meet
   case rel => exact ⟨_, (true), (by first | rfl | (simp; done) | (simp [*]; done) | (simp [bne]; done)), H', ⟨by first | omega | exact Nat.le_refl _⟩, ⟨by (with_reducible repeat first | exact HB.out | apply zH | apply zF | apply zG) <;> exact HB.out⟩⟩
 case rest =>
  clear HC4
  try clear c1
  try clear c2
  try clear p2
  try clear c4
  try clear c5
  try clear c6
  try clear c8
  try clear c10
  obtain ⟨kq, x29_3, rfl, HA, HJ3, HB⟩ := hcut
  cases kq with
  | zero => exact absurd HA.out (by simp [impl_CheckKey.j0])
  | succ kj3 =>
   have H := HA.out; clear HA; simp only [impl_CheckKey.j0] at H
   by_cases c13 : x29_3 = true
   ·subst c13
    have H1 : (some ((⟨#[]⟩ : ByteArray), false, false)) = some (r1, r2, r3) := by rw [if_pos rfl] at H; exact H
    clear H; have H := H1; clear H1; simp only [Option.some.injEq, Prod.mk.injEq] at H; obtain ⟨rfl, rfl, rfl⟩ := H; go_wp2; go_ret3; exact ⟨by first | rfl | (simp <;> rfl) | (simp [*] <;> rfl), by (with_reducible repeat first | exact HB.out | apply zH | apply zF | apply zG) <;> exact HB.out⟩
   ·replace c13 := yO c13
    subst c13; have H1 : (impl_CheckKey.l0 kj3 a0 a1 l2 l2 (l2.length : Int) 0) = some (r1, r2, r3) := by rw [if_neg (show ¬ (false = true) by decide)] at H; exact H
    clear H; have H := H1; clear H1; have H' := zA H; clear H; go_wp2; go_loopg [0, 32] kj3 (fun kq v0 v32 w' => ∃ (x0_2 : ByteArray) (x32_2 : Int), v0 = .string x0_2 ∧ v32 = .int .i64 x32_2 ∧ Aside0 (impl_CheckKey.l0 kq x0_2 a1 l2 l2 (l2.length : Int) x32_2 = some (r1, r2, r3)) ∧ Aside0 (kq ≤ kj3) ∧ Aside0 (Below w.heap.size w w'))
    case atStart => exact ⟨(a0), (0), (by first | rfl | (simp; done) | (simp [*]; done) | (simp [bne]; done)), (by first | rfl | (simp; done) | (simp [*]; done) | (simp [bne]; done)), H', ⟨Nat.le_refl _⟩, ⟨by (with_reducible repeat first | exact HB.out | apply zH | apply zF | apply zG) <;> exact HB.out⟩⟩
    case round =>
     clear H'
     try clear c1
     try clear c2
     try clear p2
     try clear c4
     try clear c5
     try clear c6
     try clear c8
     try clear c10
     try clear c13
     try clear p2
     obtain ⟨x0_2, x32_2, rfl, rfl, HA, HK2, HB⟩ := hrel
     cases gk with
     | zero => exact absurd HA.out (by simp [impl_CheckKey.l0])
     | succ k2 =>
      have H := HA.out; clear HA; simp only [impl_CheckKey.l0] at H
      by_cases c14 : x32_2 < (l2.length : Int)
      ·rw [if_pos c14] at H
       have c14b0 : decide (x32_2 < (l2.length : Int)) = true := zX c14; clear c14
       by_cases c15 : 0 ≤ x32_2
       ·rw [if_pos c15] at H
        have c15b0 : decide (0 ≤ x32_2) = true := zX c15; clear c15
        by_cases c16 : x32_2 < (l2.length : Int)
        ·rw [if_pos c16] at H
         have c16b0 : decide (x32_2 < (l2.length : Int)) = true := zX c16; clear c16; replace H := zAF H; obtain ⟨t51, A52, H⟩ := H; replace H : ((impl_Shown_digest.f k2 ((rd_T38 l2 x32_2).f0) ((rd_T38 l2 x32_2).f1) ((rd_T38 l2 x32_2).f2) ((rd_T38 l2 x32_2).f3)).bind fun t53 => (if t53.toList = x0_2.toList then ((impl_less.f k2 ((rd_T38 l2 x32_2).f0) a1).bind fun t54 => (impl_CheckKey.j2 k2 a1 l2 x32_2 t51 l2 (l2.length : Int) x32_2 (((rd_T38 l2 x32_2).f3) != t54) ((rd_T38 l2 x32_2).f0) ((rd_T38 l2 x32_2).f1) ((rd_T38 l2 x32_2).f2) ((rd_T38 l2 x32_2).f3))) else (impl_CheckKey.j2 k2 a1 l2 x32_2 t51 l2 (l2.length : Int) x32_2 true ((rd_T38 l2 x32_2).f0) ((rd_T38 l2 x32_2).f1) ((rd_T38 l2 x32_2).f2) ((rd_T38 l2 x32_2).f3)))) = some (r1, r2, r3) := H; have A17 := zA A52; clear A52; have HC18 := zA H; clear H; have p55 : 0 ≤ (x32_2 : Int) := zW (by first | (with_reducible assumption) | assumption); have q55 : x32_2 < (l2.length : Int) := zW (by first | (with_reducible assumption) | assumption); obtain ⟨ad55, A55_0, c55_0, A55_1, c55_1, A55_2, c55_2, e55, hx55_0, hx55_1, hx55_2, hx55_3, hl55_0, hi55_0, hl55_1, hi55_1, hl55_2, hi55_2⟩ := at_T38 HR2.out x32_2 p55 q55
         cases e55
         replace hx55_0 := (HB.out.cell (zB w _ hx55_0)).trans hx55_0; replace hx55_1 := (HB.out.cell (zB w _ hx55_1)).trans hx55_1; replace hx55_2 := (HB.out.cell (zB w _ hx55_2)).trans hx55_2; replace hx55_3 := (HB.out.cell (zB w _ hx55_3)).trans hx55_3; have HR55_0 := zA hi55_0; have HC55_0 := zA hl55_0; clear hi55_0 hl55_0; have HR55_1 := zA hi55_1; have HC55_1 := zA hl55_1; clear hi55_1 hl55_1; have HR55_2 := zA hi55_2; have HC55_2 := zA hl55_2; clear hi55_2 hl55_2; replace p55 := eq_true p55; replace q55 := eq_true q55; go_upto_region 7 with (first | ((with_reducible refine gate_dst (N := 10) rfl ?_); (try (refine gate_guard (by rfl) ?_; dsimp only)); refine box_event ?hg (N := 10) ?hd (cs := #[.slice none 0 0, .slice none 0 0, .slice none 0 0, .int .i64 0]) (t := 38) ?hr ?_; (case hd => rfl); (case hg => rfl); (case hr => first | (go_simp; done) | (go_simp; rfl)); intro gb56 hg w19 hbox hb; have n0_ := zA (zAD (by (with_reducible repeat first | exact HB.out | apply zH | apply zF | apply zG) <;> exact HB.out) hb); have n1_ := zA (hbox); have n2_ := zA ((by rw [hg]; exact (zAE (by (with_reducible repeat first | exact HB.out | apply zH | apply zF | apply zG) <;> exact HB.out)) : w.heap.size ≤ gb56)); have n3_ := zA ((by rw [hg]; exact (zAE (by (with_reducible repeat first | exact HB.out | apply zH | apply zF | apply zG) <;> exact HB.out)) : w.heap.size ≤ gb56)); clear HB; have HB := n0_; have BK56 := n1_; have GW56 := n2_; have GE56 := n3_; clear n0_ n1_ n2_ n3_; clear hb hbox hg; have hcz20_0 := yL BK56.out 0 (.slice none 0 0) rfl; have hcz20_1 := yL BK56.out 1 (.slice none 0 0) rfl; have hcz20_2 := yL BK56.out 2 (.slice none 0 0) rfl; have hcz20_3 := yL BK56.out 3 (.int .i64 0) rfl; have hfz20_0 := zO BK56.out 0; have hfz20_1 := zO BK56.out 1; have hfz20_2 := zO BK56.out 2; have hfz20_3 := zO BK56.out 3) | ((with_reducible refine yB (f := 66) rfl ?_); refine goesL_ (some 42) rfl rfl Try.func66 (by kernel_rfl) rfl #[.slice A55_0 ((rd_T38 l2 x32_2).f0).length c55_0, .int .i64 ((rd_T38 l2 x32_2).f3), .string a1] rfl (by (try simp only [zAA, zAB, zAC]); first | done | rfl | (simp only [zZ, zY]; rfl)) ?_; (with_reducible refine (impl_hasAt.calls _ _ ((rd_T38 l2 x32_2).f0) ((rd_T38 l2 x32_2).f3) a1 t51 _ ?side1 ?side2 A17.out).mono ?_); (case side1 => exact yN HR55_0.out (by repeat (first | (with_reducible first | exact HB.out | apply zH | apply zF | apply zG | refine zI ?_ GE56.out) | exact HB.out))); (case side2 => exact HC55_0.out); rintro e w' ⟨rfl, ⟨nd, rfl⟩⟩; refine ⟨_, rfl, ?_⟩))
         (try simp only [Act.put, zC, zD, zE]); go_cut [43] (fun v43 wc => ∃ (kq : Nat) (x43_17 : Bool), v43 = .bool x43_17 ∧ Aside0 (impl_CheckKey.j2 kq a1 l2 x32_2 t51 l2 (l2.length : Int) x32_2 x43_17 ((rd_T38 l2 x32_2).f0) ((rd_T38 l2 x32_2).f1) ((rd_T38 l2 x32_2).f2) ((rd_T38 l2 x32_2).f3) = some (r1, r2, r3)) ∧ Aside0 (kq ≤ k2) ∧ Aside0 (wc.heap[gb56]? = some (.cells #[(.slice A55_0 ((rd_T38 l2 x32_2).f0).length c55_0), (.slice A55_1 ((rd_T38 l2 x32_2).f1).length c55_1), (.slice A55_2 ((rd_T38 l2 x32_2).f2).length c55_2), .int .i64 ((rd_T38 l2 x32_2).f3)] 38 (0, 0))) ∧ Aside0 (Below w.heap.size w wc))
         case first =>
          have H := HC18.out; clear HC18; replace H := zAF H; obtain ⟨t53, A58, H⟩ := H; replace H : (if t53.toList = x0_2.toList then ((impl_less.f k2 ((rd_T38 l2 x32_2).f0) a1).bind fun t54 => (impl_CheckKey.j2 k2 a1 l2 x32_2 t51 l2 (l2.length : Int) x32_2 (((rd_T38 l2 x32_2).f3) != t54) ((rd_T38 l2 x32_2).f0) ((rd_T38 l2 x32_2).f1) ((rd_T38 l2 x32_2).f2) ((rd_T38 l2 x32_2).f3))) else (impl_CheckKey.j2 k2 a1 l2 x32_2 t51 l2 (l2.length : Int) x32_2 true ((rd_T38 l2 x32_2).f0) ((rd_T38 l2 x32_2).f1) ((rd_T38 l2 x32_2).f2) ((rd_T38 l2 x32_2).f3))) = some (r1, r2, r3) := H; have A21 := zA A58; clear A58
          by_cases c22 : t53.toList = x0_2.toList
          ·rw [if_pos c22] at H
           have c22b0 : (t53.toList == x0_2.toList) = true := beq_iff_eq.mpr c22; have c22b1 : (t53.toList != x0_2.toList) = false := bne_eq_false_iff_eq.mpr c22; clear c22; (first | rw [c22b0] | (simp only [i64_w, i32_w]; rw [c22b0]) | skip); replace H := zAF H; obtain ⟨t54, A59, H⟩ := H; replace H : (impl_CheckKey.j2 k2 a1 l2 x32_2 t51 l2 (l2.length : Int) x32_2 (((rd_T38 l2 x32_2).f3) != t54) ((rd_T38 l2 x32_2).f0) ((rd_T38 l2 x32_2).f1) ((rd_T38 l2 x32_2).f2) ((rd_T38 l2 x32_2).f3)) = some (r1, r2, r3) := H; have A23 := zA A59; clear A59; have H' := zA H; clear H
           try go_wp2
           have n0_ : Aside0 (((((w19.setCell ⟨gb56, 0, none⟩ (.slice A55_0 ((rd_T38 l2 x32_2).f0).length c55_0)).setCell ⟨gb56, 1, none⟩ (.slice A55_1 ((rd_T38 l2 x32_2).f1).length c55_1)).setCell ⟨gb56, 2, none⟩ (.slice A55_2 ((rd_T38 l2 x32_2).f2).length c55_2)).setCell ⟨gb56, 3, none⟩ (.int .i64 ((rd_T38 l2 x32_2).f3))).heap[gb56]? = some (.cells #[.slice A55_0 ((rd_T38 l2 x32_2).f0).length c55_0, .slice A55_1 ((rd_T38 l2 x32_2).f1).length c55_1, .slice A55_2 ((rd_T38 l2 x32_2).f2).length c55_2, .int .i64 ((rd_T38 l2 x32_2).f3)] 38 (0, 0))) := ⟨by (with_reducible repeat (first | refine zL ?_ _ | refine zN ?_ | refine zM ?_ _)); refine blk_put (cs := #[.slice A55_0 ((rd_T38 l2 x32_2).f0).length c55_0, .slice A55_1 ((rd_T38 l2 x32_2).f1).length c55_1, .slice A55_2 ((rd_T38 l2 x32_2).f2).length c55_2, .int .i64 0]) ?_ 3 _ rfl; (with_reducible repeat (first | refine zL ?_ _ | refine zN ?_ | refine zM ?_ _)); refine blk_put (cs := #[.slice A55_0 ((rd_T38 l2 x32_2).f0).length c55_0, .slice A55_1 ((rd_T38 l2 x32_2).f1).length c55_1, .slice none 0 0, .int .i64 0]) ?_ 2 _ rfl; (with_reducible repeat (first | refine zL ?_ _ | refine zN ?_ | refine zM ?_ _)); refine blk_put (cs := #[.slice A55_0 ((rd_T38 l2 x32_2).f0).length c55_0, .slice none 0 0, .slice none 0 0, .int .i64 0]) ?_ 1 _ rfl; (with_reducible repeat (first | refine zL ?_ _ | refine zN ?_ | refine zM ?_ _)); refine blk_put (cs := #[.slice none 0 0, .slice none 0 0, .slice none 0 0, .int .i64 0]) ?_ 0 _ rfl; (with_reducible repeat (first | refine zL ?_ _ | refine zN ?_ | refine zM ?_ _)); exact BK56.out⟩; have n1_ : Aside0 (Below w.heap.size w ((((w19.setCell ⟨gb56, 0, none⟩ (.slice A55_0 ((rd_T38 l2 x32_2).f0).length c55_0)).setCell ⟨gb56, 1, none⟩ (.slice A55_1 ((rd_T38 l2 x32_2).f1).length c55_1)).setCell ⟨gb56, 2, none⟩ (.slice A55_2 ((rd_T38 l2 x32_2).f2).length c55_2)).setCell ⟨gb56, 3, none⟩ (.int .i64 ((rd_T38 l2 x32_2).f3)))) := ⟨by repeat (first | (with_reducible first | exact HB.out | apply zH | apply zF | apply zG | refine zI ?_ GE56.out) | exact HB.out)⟩; (try clear BK56); (try clear HB); generalize ((((w19.setCell ⟨gb56, 0, none⟩ (.slice A55_0 ((rd_T38 l2 x32_2).f0).length c55_0)).setCell ⟨gb56, 1, none⟩ (.slice A55_1 ((rd_T38 l2 x32_2).f1).length c55_1)).setCell ⟨gb56, 2, none⟩ (.slice A55_2 ((rd_T38 l2 x32_2).f2).length c55_2)).setCell ⟨gb56, 3, none⟩ (.int .i64 ((rd_T38 l2 x32_2).f3))) = w24 at n0_ n1_ ⊢; have BK56 := n0_; have HB := n1_; clear n0_ n1_; (try (rw [show w24.drewN nd = w24.drewN nd from rfl]; have n0_ := zA (zL BK56.out nd); have n1_ := zA (zF HB.out nd); clear BK56 HB; generalize w24.drewN nd = w_nd at n0_ n1_ ⊢; have BK56 := n0_; have HB := n1_; clear n0_ n1_ w24; rename World => w24)); have n0_ := zA (zN BK56.out); have n1_ := zA (zG HB.out); clear BK56 HB; have BK56 := n0_; have HB := n1_; clear n0_ n1_; refine start_ (n := 14) (S := fun w' => w'.cell? ⟨gb56, 0, none⟩ = some (.slice A55_0 ((rd_T38 l2 x32_2).f0).length c55_0) ∧ w'.cell? ⟨gb56, 1, none⟩ = some (.slice A55_1 ((rd_T38 l2 x32_2).f1).length c55_1) ∧ w'.cell? ⟨gb56, 2, none⟩ = some (.slice A55_2 ((rd_T38 l2 x32_2).f2).length c55_2) ∧ w'.cell? ⟨gb56, 3, none⟩ = some (.int .i64 ((rd_T38 l2 x32_2).f3))) (ds := []) (bA 14 0) (by kernel_rfl) rfl rfl ⟨(zP BK56.out 0).trans rfl, (zP BK56.out 1).trans rfl, (zP BK56.out 2).trans rfl, (zP BK56.out 3).trans rfl⟩ (fun hHeld => ?_); refine with_tabW impl_CheckKey.tab7 impl_CheckKey.bits7 (fun HT_ HW_ => ?_); generalize w24.drew = w25 at BK56 HB hHeld ⊢; refine wzP 2 46 (bA 14 4) HT_ ?_
           refine wzT 0 44 (bA 14 5) HT_ HW_ hHeld ?_
           refine one_ (i := 1) (N := some 45) (bA 14 7) rfl rfl (one_of HT_.out (by kernel_rfl)) (by decide) (fun K hK => ?_); refine goes_ Try.func46 (by kernel_rfl) rfl #[.agg #[.slice A55_0 ((rd_T38 l2 x32_2).f0).length c55_0, .slice A55_1 ((rd_T38 l2 x32_2).f1).length c55_1, .slice A55_2 ((rd_T38 l2 x32_2).f2).length c55_2, .int .i64 ((rd_T38 l2 x32_2).f3)]] (by rfl) rfl rfl (by (try simp only [zAA, zAB, zAC]); first | done | rfl | (simp only [zZ, zY]; rfl)) ?_
           with_reducible refine (impl_Shown_digest.calls k2 _ _ ((rd_T38 l2 x32_2).f0) _ _ ((rd_T38 l2 x32_2).f1) _ _ ((rd_T38 l2 x32_2).f2) ((rd_T38 l2 x32_2).f3) t53 _ ?side1 ?side2 ?side3 ?side4 ?side5 ?side6 A21.out).mono ?_
           (case side1 => repeat (first | exact (yN HR55_0.out HB.out) | (with_reducible first | refine zT ?_ _ | refine zU ?_ _ | refine zV ?_))); (case side2 => exact HC55_0.out); (case side3 => repeat (first | exact (yN HR55_1.out HB.out) | (with_reducible first | refine zT ?_ _ | refine zU ?_ _ | refine zV ?_))); (case side4 => exact HC55_1.out); (case side5 => repeat (first | exact (yN HR55_2.out HB.out) | (with_reducible first | refine zT ?_ _ | refine zU ?_ _ | refine zV ?_))); (case side6 => exact HC55_2.out); rintro e w26 ⟨rfl, hb⟩; refine ⟨_, rfl, ?_⟩; have n0_ := zA (yE (g := gb56) (o := .cells #[.slice A55_0 ((rd_T38 l2 x32_2).f0).length c55_0, .slice A55_1 ((rd_T38 l2 x32_2).f1).length c55_1, .slice A55_2 ((rd_T38 l2 x32_2).f2).length c55_2, .int .i64 ((rd_T38 l2 x32_2).f3)] 38 (0, 0)) (by (with_reducible repeat (first | refine zL ?_ _ | refine zN ?_ | refine zM ?_ _)); exact BK56.out) hb); have n1_ := zA (zAD (by repeat (first | (with_reducible first | exact HB.out | apply zH | apply zF | apply zG | refine zI ?_ GE56.out) | exact HB.out)) hb); clear BK56 HB; have BK56 := n0_; have HB := n1_; clear n0_ n1_; (try clear hb); refine hK.out _ _ ⟨(zP BK56.out 0).trans rfl, (zP BK56.out 1).trans rfl, (zP BK56.out 2).trans rfl, (zP BK56.out 3).trans rfl⟩ (fun hHeld => ?_); clear hK K; refine wzN 45 ?_
           refine wzP 3 47 (bA 14 15) HT_ ?_
           refine wzP 4 48 (bA 14 31) HT_ ?_
           refine wzP 5 49 (bA 14 63) HT_ ?_
           refine wzP 7 51 (bA 14 191) HT_ ?_
           refine wzP 9 53 (bA 14 703) HT_ ?_
           refine wzT 6 50 (bA 14 767) HT_ HW_ hHeld ?_
           refine wzT 8 52 (bA 14 1023) HT_ HW_ hHeld ?_
           refine one_ (i := 10) (N := some 54) (bA 14 2047) rfl rfl (one_of HT_.out (by kernel_rfl)) (by decide) (fun K hK => ?_); refine goes_ Try.func67 (by kernel_rfl) rfl #[.slice A55_0 ((rd_T38 l2 x32_2).f0).length c55_0, .string a1] (by rfl) rfl rfl (by (try simp only [zAA, zAB, zAC]); first | done | rfl | (simp only [zZ, zY]; rfl)) ?_
           with_reducible refine (impl_less.calls k2 _ _ ((rd_T38 l2 x32_2).f0) a1 t54 _ ?side1 ?side2 A23.out).mono ?_
           (case side1 => repeat (first | exact (yN HR55_0.out HB.out) | (with_reducible first | refine zT ?_ _ | refine zU ?_ _ | refine zV ?_))); (case side2 => exact HC55_0.out); rintro e w' ⟨rfl, ⟨nd, rfl⟩⟩; refine ⟨_, rfl, ?_⟩; refine hK.out _ _ ⟨(zP BK56.out 0).trans rfl, (zP BK56.out 1).trans rfl, (zP BK56.out 2).trans rfl, (zP BK56.out 3).trans rfl⟩ (fun hHeld => ?_); clear hK K; refine wzN 54 ?_
           refine wzP 11 55 (bA 14 4095) HT_ ?_
           refine wzP 12 56 (bA 14 8191) HT_ ?_
           refine wzP 13 43 (bA 14 16383) HT_ ?_
           refine done_ (done_of HT_.out (by kernel_rfl)) ?_
           try go_wp2
           go_meet
           case rel => exact ⟨_, ((((rd_T38 l2 x32_2).f3) != t54)), (by first | rfl | (simp; done) | (simp [*]; done) | (simp [bne]; done)), H', ⟨by have := HJ3.out; have := HK2.out; first | omega | exact Nat.le_refl _⟩, ⟨by (with_reducible repeat (first | refine zL ?_ _ | refine zN ?_ | refine zM ?_ _)); exact BK56.out⟩, ⟨by repeat (first | (with_reducible first | exact HB.out | apply zH | apply zF | apply zG | refine zI ?_ GE56.out) | exact HB.out)⟩⟩
          ·rw [if_neg c22] at H
           have c22b0 : (t53.toList == x0_2.toList) = false := beq_eq_false_iff_ne.mpr c22; have c22b1 : (t53.toList != x0_2.toList) = true := bne_iff_ne.mpr c22; (first | rw [c22b0] | (simp only [i64_w, i32_w]; rw [c22b0]) | skip); have H' := zA H; clear H
           try go_wp2
           have n0_ : Aside0 (((((w19.setCell ⟨gb56, 0, none⟩ (.slice A55_0 ((rd_T38 l2 x32_2).f0).length c55_0)).setCell ⟨gb56, 1, none⟩ (.slice A55_1 ((rd_T38 l2 x32_2).f1).length c55_1)).setCell ⟨gb56, 2, none⟩ (.slice A55_2 ((rd_T38 l2 x32_2).f2).length c55_2)).setCell ⟨gb56, 3, none⟩ (.int .i64 ((rd_T38 l2 x32_2).f3))).heap[gb56]? = some (.cells #[.slice A55_0 ((rd_T38 l2 x32_2).f0).length c55_0, .slice A55_1 ((rd_T38 l2 x32_2).f1).length c55_1, .slice A55_2 ((rd_T38 l2 x32_2).f2).length c55_2, .int .i64 ((rd_T38 l2 x32_2).f3)] 38 (0, 0))) := ⟨by (with_reducible repeat (first | refine zL ?_ _ | refine zN ?_ | refine zM ?_ _)); refine blk_put (cs := #[.slice A55_0 ((rd_T38 l2 x32_2).f0).length c55_0, .slice A55_1 ((rd_T38 l2 x32_2).f1).length c55_1, .slice A55_2 ((rd_T38 l2 x32_2).f2).length c55_2, .int .i64 0]) ?_ 3 _ rfl; (with_reducible repeat (first | refine zL ?_ _ | refine zN ?_ | refine zM ?_ _)); refine blk_put (cs := #[.slice A55_0 ((rd_T38 l2 x32_2).f0).length c55_0, .slice A55_1 ((rd_T38 l2 x32_2).f1).length c55_1, .slice none 0 0, .int .i64 0]) ?_ 2 _ rfl; (with_reducible repeat (first | refine zL ?_ _ | refine zN ?_ | refine zM ?_ _)); refine blk_put (cs := #[.slice A55_0 ((rd_T38 l2 x32_2).f0).length c55_0, .slice none 0 0, .slice none 0 0, .int .i64 0]) ?_ 1 _ rfl; (with_reducible repeat (first | refine zL ?_ _ | refine zN ?_ | refine zM ?_ _)); refine blk_put (cs := #[.slice none 0 0, .slice none 0 0, .slice none 0 0, .int .i64 0]) ?_ 0 _ rfl; (with_reducible repeat (first | refine zL ?_ _ | refine zN ?_ | refine zM ?_ _)); exact BK56.out⟩; have n1_ : Aside0 (Below w.heap.size w ((((w19.setCell ⟨gb56, 0, none⟩ (.slice A55_0 ((rd_T38 l2 x32_2).f0).length c55_0)).setCell ⟨gb56, 1, none⟩ (.slice A55_1 ((rd_T38 l2 x32_2).f1).length c55_1)).setCell ⟨gb56, 2, none⟩ (.slice A55_2 ((rd_T38 l2 x32_2).f2).length c55_2)).setCell ⟨gb56, 3, none⟩ (.int .i64 ((rd_T38 l2 x32_2).f3)))) := ⟨by repeat (first | (with_reducible first | exact HB.out | apply zH | apply zF | apply zG | refine zI ?_ GE56.out) | exact HB.out)⟩; (try clear BK56); (try clear HB); generalize ((((w19.setCell ⟨gb56, 0, none⟩ (.slice A55_0 ((rd_T38 l2 x32_2).f0).length c55_0)).setCell ⟨gb56, 1, none⟩ (.slice A55_1 ((rd_T38 l2 x32_2).f1).length c55_1)).setCell ⟨gb56, 2, none⟩ (.slice A55_2 ((rd_T38 l2 x32_2).f2).length c55_2)).setCell ⟨gb56, 3, none⟩ (.int .i64 ((rd_T38 l2 x32_2).f3))) = w27 at n0_ n1_ ⊢; have BK56 := n0_; have HB := n1_; clear n0_ n1_; (try (rw [show w27.drewN nd = w27.drewN nd from rfl]; have n0_ := zA (zL BK56.out nd); have n1_ := zA (zF HB.out nd); clear BK56 HB; generalize w27.drewN nd = w_nd at n0_ n1_ ⊢; have BK56 := n0_; have HB := n1_; clear n0_ n1_ w27; rename World => w27)); have n0_ := zA (zN BK56.out); have n1_ := zA (zG HB.out); clear BK56 HB; have BK56 := n0_; have HB := n1_; clear n0_ n1_; refine start_ (n := 14) (S := fun w' => w'.cell? ⟨gb56, 0, none⟩ = some (.slice A55_0 ((rd_T38 l2 x32_2).f0).length c55_0) ∧ w'.cell? ⟨gb56, 1, none⟩ = some (.slice A55_1 ((rd_T38 l2 x32_2).f1).length c55_1) ∧ w'.cell? ⟨gb56, 2, none⟩ = some (.slice A55_2 ((rd_T38 l2 x32_2).f2).length c55_2) ∧ w'.cell? ⟨gb56, 3, none⟩ = some (.int .i64 ((rd_T38 l2 x32_2).f3))) (ds := []) (bA 14 0) (by kernel_rfl) rfl rfl ⟨(zP BK56.out 0).trans rfl, (zP BK56.out 1).trans rfl, (zP BK56.out 2).trans rfl, (zP BK56.out 3).trans rfl⟩ (fun hHeld => ?_); refine with_tabW impl_CheckKey.tab7 impl_CheckKey.bits7 (fun HT_ HW_ => ?_); generalize w27.drew = w28 at BK56 HB hHeld ⊢; refine wzP 2 46 (bA 14 4) HT_ ?_
           refine wzT 0 44 (bA 14 5) HT_ HW_ hHeld ?_
           refine one_ (i := 1) (N := some 45) (bA 14 7) rfl rfl (one_of HT_.out (by kernel_rfl)) (by decide) (fun K hK => ?_); refine goes_ Try.func46 (by kernel_rfl) rfl #[.agg #[.slice A55_0 ((rd_T38 l2 x32_2).f0).length c55_0, .slice A55_1 ((rd_T38 l2 x32_2).f1).length c55_1, .slice A55_2 ((rd_T38 l2 x32_2).f2).length c55_2, .int .i64 ((rd_T38 l2 x32_2).f3)]] (by rfl) rfl rfl (by (try simp only [zAA, zAB, zAC]); first | done | rfl | (simp only [zZ, zY]; rfl)) ?_
           with_reducible refine (impl_Shown_digest.calls k2 _ _ ((rd_T38 l2 x32_2).f0) _ _ ((rd_T38 l2 x32_2).f1) _ _ ((rd_T38 l2 x32_2).f2) ((rd_T38 l2 x32_2).f3) t53 _ ?side1 ?side2 ?side3 ?side4 ?side5 ?side6 A21.out).mono ?_
           (case side1 => repeat (first | exact (yN HR55_0.out HB.out) | (with_reducible first | refine zT ?_ _ | refine zU ?_ _ | refine zV ?_))); (case side2 => exact HC55_0.out); (case side3 => repeat (first | exact (yN HR55_1.out HB.out) | (with_reducible first | refine zT ?_ _ | refine zU ?_ _ | refine zV ?_))); (case side4 => exact HC55_1.out); (case side5 => repeat (first | exact (yN HR55_2.out HB.out) | (with_reducible first | refine zT ?_ _ | refine zU ?_ _ | refine zV ?_))); (case side6 => exact HC55_2.out); rintro e w29 ⟨rfl, hb⟩; refine ⟨_, rfl, ?_⟩; have n0_ := zA (yE (g := gb56) (o := .cells #[.slice A55_0 ((rd_T38 l2 x32_2).f0).length c55_0, .slice A55_1 ((rd_T38 l2 x32_2).f1).length c55_1, .slice A55_2 ((rd_T38 l2 x32_2).f2).length c55_2, .int .i64 ((rd_T38 l2 x32_2).f3)] 38 (0, 0)) (by (with_reducible repeat (first | refine zL ?_ _ | refine zN ?_ | refine zM ?_ _)); exact BK56.out) hb); have n1_ := zA (zAD (by repeat (first | (with_reducible first | exact HB.out | apply zH | apply zF | apply zG | refine zI ?_ GE56.out) | exact HB.out)) hb); clear BK56 HB; have BK56 := n0_; have HB := n1_; clear n0_ n1_; (try clear hb); refine hK.out _ _ ⟨(zP BK56.out 0).trans rfl, (zP BK56.out 1).trans rfl, (zP BK56.out 2).trans rfl, (zP BK56.out 3).trans rfl⟩ (fun hHeld => ?_); clear hK K; refine wzN 45 ?_
           refine wzP 3 47 (bA 14 15) HT_ ?_
           refine wzP 4 48 (bA 14 31) HT_ ?_
           refine wzU 5 49 (bA 14 63) HT_ ?_
           refine wzU 6 50 (bA 14 127) HT_ ?_
           refine wzU 7 51 (bA 14 255) HT_ ?_
           refine wzU 8 52 (bA 14 511) HT_ ?_
           refine wzU 9 53 (bA 14 1023) HT_ ?_
           refine wzU 10 54 (bA 14 2047) HT_ ?_
           refine wzU 11 55 (bA 14 4095) HT_ ?_
           refine wzP 12 56 (bA 14 8191) HT_ ?_
           refine wzP 13 43 (bA 14 16383) HT_ ?_
           refine done_ (done_of HT_.out (by kernel_rfl)) ?_
           try go_wp2
           go_meet
           case rel => exact ⟨_, (true), (by first | rfl | (simp; done) | (simp [*]; done) | (simp [bne]; done)), H', ⟨by have := HJ3.out; have := HK2.out; first | omega | exact Nat.le_refl _⟩, ⟨by (with_reducible repeat (first | refine zL ?_ _ | refine zN ?_ | refine zM ?_ _)); exact BK56.out⟩, ⟨by repeat (first | (with_reducible first | exact HB.out | apply zH | apply zF | apply zG | refine zI ?_ GE56.out) | exact HB.out)⟩⟩
         case rest =>
          clear HC18
          try clear c1
          try clear c2
          try clear p2
          try clear c3
          try clear p3
          try clear q3
          try clear hx3
          try clear c4
          try clear c5
          try clear c6
          try clear c8
          try clear c10
          try clear c13
          try clear c14
          try clear c14b0
          try clear c15
          try clear c15b0
          try clear c16
          try clear c16b0
          try clear c22
          try clear c22b0
          try clear c22b1
          try clear hcz20_0
          try clear hcz20_1
          try clear hcz20_2
          try clear hcz20_3
          try clear hfz20_0
          try clear hfz20_1
          try clear hfz20_2
          try clear hfz20_3
          try clear hx55_0
          try clear hx55_1
          try clear hx55_2
          try clear hx55_3
          try clear p2
          try clear p55
          try clear q55
          obtain ⟨kq, x43_17, rfl, HA, HJ17, BK56, HB⟩ := hcut
          cases kq with
          | zero => exact absurd HA.out (by simp [impl_CheckKey.j2])
          | succ kj17 =>
           have H := HA.out; clear HA; simp only [impl_CheckKey.j2] at H
           by_cases c30 : x43_17 = true
           ·subst c30
            have H1 : (some ((⟨#[]⟩ : ByteArray), false, false)) = some (r1, r2, r3) := by rw [if_pos rfl] at H; exact H
            clear H; have H := H1; clear H1; simp only [Option.some.injEq, Prod.mk.injEq] at H; obtain ⟨rfl, rfl, rfl⟩ := H; go_wp2; go_ret3; exact ⟨by first | rfl | (simp <;> rfl) | (simp [*] <;> rfl), by repeat (first | (with_reducible first | exact HB.out | apply zH | apply zF | apply zG | refine zI ?_ GE56.out) | exact HB.out)⟩
           ·replace c30 := yO c30
            subst c30; have H1 : (if x32_2 = (wrap64 ((l2.length : Int) - 1)) then (impl_CheckKey.j3 kj17 a1 l2 x32_2 t51 l2 (l2.length : Int) x32_2 t51 ((rd_T38 l2 x32_2).f0) ((rd_T38 l2 x32_2).f1) ((rd_T38 l2 x32_2).f2) ((rd_T38 l2 x32_2).f3)) else (impl_CheckKey.j3 kj17 a1 l2 x32_2 t51 l2 (l2.length : Int) x32_2 false ((rd_T38 l2 x32_2).f0) ((rd_T38 l2 x32_2).f1) ((rd_T38 l2 x32_2).f2) ((rd_T38 l2 x32_2).f3))) = some (r1, r2, r3) := by rw [if_neg (show ¬ (false = true) by decide)] at H; exact H
            clear H; have H := H1; clear H1; have HC31 := zA H; clear H; go_upto_region 9 with (fail)
            go_cut [57] (fun v57 wc => ∃ (kq : Nat) (x57_30 : Bool), v57 = .bool x57_30 ∧ Aside0 (impl_CheckKey.j3 kq a1 l2 x32_2 t51 l2 (l2.length : Int) x32_2 x57_30 ((rd_T38 l2 x32_2).f0) ((rd_T38 l2 x32_2).f1) ((rd_T38 l2 x32_2).f2) ((rd_T38 l2 x32_2).f3) = some (r1, r2, r3)) ∧ Aside0 (kq ≤ kj17) ∧ Aside0 (wc.heap[gb56]? = some (.cells #[(.slice A55_0 ((rd_T38 l2 x32_2).f0).length c55_0), (.slice A55_1 ((rd_T38 l2 x32_2).f1).length c55_1), (.slice A55_2 ((rd_T38 l2 x32_2).f2).length c55_2), .int .i64 ((rd_T38 l2 x32_2).f3)] 38 (0, 0))) ∧ Aside0 (Below w.heap.size w wc))
            case first =>
             have H := HC31.out; clear HC31
             by_cases c32 : x32_2 = (wrap64 ((l2.length : Int) - 1))
             ·rw [if_pos c32] at H
              have c32b0 : (x32_2 == (wrap64 ((l2.length : Int) - 1))) = true := beq_iff_eq.mpr c32; have c32b1 : (x32_2 != (wrap64 ((l2.length : Int) - 1))) = false := bne_eq_false_iff_eq.mpr c32; clear c32; (first | rw [c32b0] | (simp only [i64_w, i32_w]; rw [c32b0]) | skip); have H' := zA H; clear H; go_wp2; go_meet
              case rel => exact ⟨_, (t51), (by first | rfl | (simp; done) | (simp [*]; done) | (simp [bne]; done)), H', ⟨by have := HJ3.out; have := HK2.out; have := HJ17.out; first | omega | exact Nat.le_refl _⟩, ⟨by (with_reducible repeat (first | refine zL ?_ _ | refine zN ?_ | refine zM ?_ _)); exact BK56.out⟩, ⟨by repeat (first | (with_reducible first | exact HB.out | apply zH | apply zF | apply zG | refine zI ?_ GE56.out) | exact HB.out)⟩⟩
             ·rw [if_neg c32] at H
              have c32b0 : (x32_2 == (wrap64 ((l2.length : Int) - 1))) = false := beq_eq_false_iff_ne.mpr c32; have c32b1 : (x32_2 != (wrap64 ((l2.length : Int) - 1))) = true := bne_iff_ne.mpr c32; (first | rw [c32b0] | (simp only [i64_w, i32_w]; rw [c32b0]) | skip); have H' := zA H; clear H; go_wp2; go_meet
              case rel => exact ⟨_, (false), (by first | rfl | (simp; done) | (simp [*]; done) | (simp [bne]; done)), H', ⟨by have := HJ3.out; have := HK2.out; have := HJ17.out; first | omega | exact Nat.le_refl _⟩, ⟨by (with_reducible repeat (first | refine zL ?_ _ | refine zN ?_ | refine zM ?_ _)); exact BK56.out⟩, ⟨by repeat (first | (with_reducible first | exact HB.out | apply zH | apply zF | apply zG | refine zI ?_ GE56.out) | exact HB.out)⟩⟩
            case rest =>
             clear HC31
             try clear c1
             try clear c2
             try clear p2
             try clear c3
             try clear p3
             try clear q3
             try clear hx3
             try clear c4
             try clear c5
             try clear c6
             try clear p6
             try clear c8
             try clear c10
             try clear c13
             try clear c14
             try clear c14b0
             try clear c15
             try clear c15b0
             try clear c16
             try clear c16b0
             try clear c22
             try clear c22b0
             try clear c22b1
             try clear c30
             try clear c32
             try clear c32b0
             try clear c32b1
             try clear hcz20_0
             try clear hcz20_1
             try clear hcz20_2
             try clear hcz20_3
             try clear hfz20_0
             try clear hfz20_1
             try clear hfz20_2
             try clear hfz20_3
             try clear hx55_0
             try clear hx55_1
             try clear hx55_2
             try clear hx55_3
             try clear p2
             try clear p3
             try clear p55
             try clear q3
             try clear q55
             obtain ⟨kq, x57_30, rfl, HA, HJ30, BK56, HB⟩ := hcut
             cases kq with
             | zero => exact absurd HA.out (by simp [impl_CheckKey.j3])
             | succ kj30 =>
              have H := HA.out; clear HA; simp only [impl_CheckKey.j3] at H
              by_cases c33 : x57_30 = true
              ·subst c33
               have H1 : (if 0 ≤ ((rd_T38 l2 x32_2).f3) then (if ((rd_T38 l2 x32_2).f3) < (((rd_T38 l2 x32_2).f1).length : Int) then (some (rdOf ByteArray.empty ((rd_T38 l2 x32_2).f1) ((rd_T38 l2 x32_2).f3), true, true)) else (none)) else (none)) = some (r1, r2, r3) := by rw [if_pos rfl] at H; exact H
               clear H; have H := H1; clear H1
               by_cases c34 : 0 ≤ ((rd_T38 l2 x32_2).f3)
               ·rw [if_pos c34] at H
                have c34b0 : decide (0 ≤ ((rd_T38 l2 x32_2).f3)) = true := zX c34; clear c34
                by_cases c35 : ((rd_T38 l2 x32_2).f3) < (((rd_T38 l2 x32_2).f1).length : Int)
                ·rw [if_pos c35] at H
                 have c35b0 : decide (((rd_T38 l2 x32_2).f3) < (((rd_T38 l2 x32_2).f1).length : Int)) = true := zX c35; clear c35; simp only [Option.some.injEq, Prod.mk.injEq] at H; obtain ⟨rfl, rfl, rfl⟩ := H; have hcz36_0 := yL BK56.out 0 (.slice A55_0 ((rd_T38 l2 x32_2).f0).length c55_0) rfl; have hcz36_1 := yL BK56.out 1 (.slice A55_1 ((rd_T38 l2 x32_2).f1).length c55_1) rfl; have hcz36_2 := yL BK56.out 2 (.slice A55_2 ((rd_T38 l2 x32_2).f2).length c55_2) rfl; have hcz36_3 := yL BK56.out 3 (.int .i64 ((rd_T38 l2 x32_2).f3)) rfl; have hfz36_0 := zO BK56.out 0; have hfz36_1 := zO BK56.out 1; have hfz36_2 := zO BK56.out 2; have hfz36_3 := zO BK56.out 3; have p60 : 0 ≤ (((rd_T38 l2 x32_2).f3) : Int) := zW (by first | (with_reducible assumption) | assumption); have q60 : ((rd_T38 l2 x32_2).f3) < (((rd_T38 l2 x32_2).f1).length : Int) := zW (by first | (with_reducible assumption) | assumption); obtain ⟨ad60, e60, hx60_0⟩ := Kd.at_string HR55_1.out ((rd_T38 l2 x32_2).f3) p60 q60
                 cases e60
                 replace hx60_0 := (HB.out.cell (zB w _ hx60_0)).trans hx60_0; replace p60 := eq_true p60; replace q60 := eq_true q60; go_wp2; go_ret3; exact ⟨by first | rfl | (simp <;> rfl) | (simp [*] <;> rfl), by repeat (first | (with_reducible first | exact HB.out | apply zH | apply zF | apply zG | refine zI ?_ GE56.out) | exact HB.out)⟩
                ·rw [if_neg c35] at H
                 exact absurd H (by simp)
               ·rw [if_neg c34] at H
                exact absurd H (by simp)
              ·replace c33 := yO c33
               subst c33; have H1 : (if x32_2 = (wrap64 ((l2.length : Int) - 1)) then (some ((⟨#[]⟩ : ByteArray), false, ((((rd_T38 l2 x32_2).f2).length : Int) == 0))) else (if t51 = true then (some ((⟨#[]⟩ : ByteArray), false, false)) else (if (((rd_T38 l2 x32_2).f2).length : Int) = 0 then (some ((⟨#[]⟩ : ByteArray), false, false)) else (if 0 ≤ ((rd_T38 l2 x32_2).f3) then (if ((rd_T38 l2 x32_2).f3) < (((rd_T38 l2 x32_2).f2).length : Int) then (impl_CheckKey.l0 kj30 (rdOf ByteArray.empty ((rd_T38 l2 x32_2).f2) ((rd_T38 l2 x32_2).f3)) a1 l2 l2 (l2.length : Int) (wrap64 (x32_2 + 1))) else (none)) else (none))))) = some (r1, r2, r3) := by rw [if_neg (show ¬ (false = true) by decide)] at H; exact H
               clear H; have H := H1; clear H1
               by_cases c37 : x32_2 = (wrap64 ((l2.length : Int) - 1))
               ·rw [if_pos c37] at H
                have c37b0 : (x32_2 == (wrap64 ((l2.length : Int) - 1))) = true := beq_iff_eq.mpr c37; have c37b1 : (x32_2 != (wrap64 ((l2.length : Int) - 1))) = false := bne_eq_false_iff_eq.mpr c37; clear c37; simp only [Option.some.injEq, Prod.mk.injEq] at H; obtain ⟨rfl, rfl, rfl⟩ := H
                try go_wp2
                have n0_ := zA (zN BK56.out); have n1_ := zA (zG HB.out); clear BK56 HB; have BK56 := n0_; have HB := n1_; clear n0_ n1_; refine start_ (n := 7) (S := fun w' => w'.cell? ⟨gb56, 0, none⟩ = some (.slice A55_0 ((rd_T38 l2 x32_2).f0).length c55_0) ∧ w'.cell? ⟨gb56, 1, none⟩ = some (.slice A55_1 ((rd_T38 l2 x32_2).f1).length c55_1) ∧ w'.cell? ⟨gb56, 2, none⟩ = some (.slice A55_2 ((rd_T38 l2 x32_2).f2).length c55_2) ∧ w'.cell? ⟨gb56, 3, none⟩ = some (.int .i64 ((rd_T38 l2 x32_2).f3))) (ds := []) (bA 7 0) (by kernel_rfl) rfl rfl ⟨(zP BK56.out 0).trans rfl, (zP BK56.out 1).trans rfl, (zP BK56.out 2).trans rfl, (zP BK56.out 3).trans rfl⟩ (fun hHeld => ?_); generalize wc.drew = w38 at BK56 HB hHeld ⊢; refine pure_ (i := 0) (N := some 78) (v := ?_) (a' := ?_) (bA 7 1) rfl rfl (by kernel_rfl) (fun _ _ _ h => h) (Or.inl ⟨by rfl, ?_⟩) ?_ ?_; rotate_left
                ·intro w'
                 go_simp
                 with_reducible rfl
                rotate_left
                ·simp only [Act.put, zC, zD, zE, i64_w]
                 rfl
                refine pure_ (i := 4) (N := some 6) (v := ?_) (a' := ?_) (bA 7 17) rfl rfl (by kernel_rfl) (fun _ _ _ h => h) (Or.inl ⟨by rfl, ?_⟩) ?_ ?_; rotate_left
                ·intro w'
                 go_simp
                 with_reducible rfl
                rotate_left
                ·simp only [Act.put, zC, zD, zE, i64_w]
                 rfl
                refine pure_ (i := 5) (N := some 7) (v := ?_) (a' := ?_) (bA 7 49) rfl rfl (by kernel_rfl) (fun _ _ _ h => h) (Or.inl ⟨by rfl, ?_⟩) ?_ ?_; rotate_left
                ·intro w'
                 go_simp
                 with_reducible rfl
                rotate_left
                ·simp only [Act.put, zC, zD, zE, i64_w]
                 rfl
                refine take_ (i := 1) (N := some 79) (v := ?_) (a' := ?_) (bA 7 51) rfl rfl (by kernel_rfl) (fun _ _ _ h => h) (Or.inl ⟨by rfl, ?_⟩) hHeld ?_ ?_; rotate_left
                ·rintro w' ⟨s0, s1, s2, s3⟩
                 go_simp
                 with_reducible rfl
                rotate_left
                ·simp only [Act.put, zC, zD, zE, i64_w]
                 rfl
                refine pure_ (i := 2) (N := some 80) (v := ?_) (a' := ?_) (bA 7 55) rfl rfl (by kernel_rfl) (fun _ _ _ h => h) (Or.inl ⟨by rfl, ?_⟩) ?_ ?_; rotate_left
                ·intro w'
                 go_simp
                 with_reducible rfl
                rotate_left
                ·simp only [Act.put, zC, zD, zE, i64_w]
                 rfl
                refine pure_ (i := 3) (N := some 81) (v := ?_) (a' := ?_) (bA 7 63) rfl rfl (by kernel_rfl) (fun _ _ _ h => h) (Or.inl ⟨by rfl, ?_⟩) ?_ ?_; rotate_left
                ·intro w'
                 go_simp
                 with_reducible rfl
                rotate_left
                ·simp only [Act.put, zC, zD, zE, i64_w]
                 rfl
                refine pure_ (i := 6) (N := some 8) (v := ?_) (a' := ?_) (bA 7 127) rfl rfl (by kernel_rfl) (fun _ _ _ h => h) (Or.inl ⟨by rfl, ?_⟩) ?_ ?_; rotate_left
                ·intro w'
                 go_simp
                 with_reducible rfl
                rotate_left
                ·simp only [Act.put, zC, zD, zE, i64_w]
                 rfl
                refine done_ (by kernel_rfl) ?_
                try go_wp2
                go_ret3; exact ⟨by first | rfl | (simp <;> rfl) | (simp [*] <;> rfl), by repeat (first | (with_reducible first | exact HB.out | apply zH | apply zF | apply zG | refine zI ?_ GE56.out) | exact HB.out)⟩
               ·rw [if_neg c37] at H
                have c37b0 : (x32_2 == (wrap64 ((l2.length : Int) - 1))) = false := beq_eq_false_iff_ne.mpr c37; have c37b1 : (x32_2 != (wrap64 ((l2.length : Int) - 1))) = true := bne_iff_ne.mpr c37
                by_cases c39 : t51 = true
                ·subst c39
                 have H1 : (some ((⟨#[]⟩ : ByteArray), false, false)) = some (r1, r2, r3) := by rw [if_pos rfl] at H; exact H
                 clear H; have H := H1; clear H1; simp only [Option.some.injEq, Prod.mk.injEq] at H; obtain ⟨rfl, rfl, rfl⟩ := H; go_wp2; go_ret3; exact ⟨by first | rfl | (simp <;> rfl) | (simp [*] <;> rfl), by repeat (first | (with_reducible first | exact HB.out | apply zH | apply zF | apply zG | refine zI ?_ GE56.out) | exact HB.out)⟩
                ·replace c39 := yO c39
                 subst c39; have H1 : (if (((rd_T38 l2 x32_2).f2).length : Int) = 0 then (some ((⟨#[]⟩ : ByteArray), false, false)) else (if 0 ≤ ((rd_T38 l2 x32_2).f3) then (if ((rd_T38 l2 x32_2).f3) < (((rd_T38 l2 x32_2).f2).length : Int) then (impl_CheckKey.l0 kj30 (rdOf ByteArray.empty ((rd_T38 l2 x32_2).f2) ((rd_T38 l2 x32_2).f3)) a1 l2 l2 (l2.length : Int) (wrap64 (x32_2 + 1))) else (none)) else (none))) = some (r1, r2, r3) := by rw [if_neg (show ¬ (false = true) by decide)] at H; exact H
                 clear H; have H := H1; clear H1
                 by_cases c40 : (((rd_T38 l2 x32_2).f2).length : Int) = 0
                 ·rw [if_pos c40] at H
                  have c40b0 : ((((rd_T38 l2 x32_2).f2).length : Int) == 0) = true := beq_iff_eq.mpr c40; have c40b1 : ((((rd_T38 l2 x32_2).f2).length : Int) != 0) = false := bne_eq_false_iff_eq.mpr c40; clear c40; simp only [Option.some.injEq, Prod.mk.injEq] at H; obtain ⟨rfl, rfl, rfl⟩ := H; have hcz41_0 := yL BK56.out 0 (.slice A55_0 ((rd_T38 l2 x32_2).f0).length c55_0) rfl; have hcz41_1 := yL BK56.out 1 (.slice A55_1 ((rd_T38 l2 x32_2).f1).length c55_1) rfl; have hcz41_2 := yL BK56.out 2 (.slice A55_2 ((rd_T38 l2 x32_2).f2).length c55_2) rfl; have hcz41_3 := yL BK56.out 3 (.int .i64 ((rd_T38 l2 x32_2).f3)) rfl; have hfz41_0 := zO BK56.out 0; have hfz41_1 := zO BK56.out 1; have hfz41_2 := zO BK56.out 2; have hfz41_3 := zO BK56.out 3; go_wp2; go_ret3; exact ⟨by first | rfl | (simp <;> rfl) | (simp [*] <;> rfl), by repeat (first | (with_reducible first | exact HB.out | apply zH | apply zF | apply zG | refine zI ?_ GE56.out) | exact HB.out)⟩
                 ·rw [if_neg c40] at H
                  have c40b0 : ((((rd_T38 l2 x32_2).f2).length : Int) == 0) = false := beq_eq_false_iff_ne.mpr c40; have c40b1 : ((((rd_T38 l2 x32_2).f2).length : Int) != 0) = true := bne_iff_ne.mpr c40; have c40b2 : ¬ (((rd_T38 l2 x32_2).f2) = []) := fun h_ => c40 (by rw [h_]; rfl)
                  by_cases c42 : 0 ≤ ((rd_T38 l2 x32_2).f3)
                  ·rw [if_pos c42] at H
                   have c42b0 : decide (0 ≤ ((rd_T38 l2 x32_2).f3)) = true := zX c42; clear c42
                   by_cases c43 : ((rd_T38 l2 x32_2).f3) < (((rd_T38 l2 x32_2).f2).length : Int)
                   ·rw [if_pos c43] at H
                    have c43b0 : decide (((rd_T38 l2 x32_2).f3) < (((rd_T38 l2 x32_2).f2).length : Int)) = true := zX c43; clear c43; have H' := zA H; clear H; have hcz44_0 := yL BK56.out 0 (.slice A55_0 ((rd_T38 l2 x32_2).f0).length c55_0) rfl; have hcz44_1 := yL BK56.out 1 (.slice A55_1 ((rd_T38 l2 x32_2).f1).length c55_1) rfl; have hcz44_2 := yL BK56.out 2 (.slice A55_2 ((rd_T38 l2 x32_2).f2).length c55_2) rfl; have hcz44_3 := yL BK56.out 3 (.int .i64 ((rd_T38 l2 x32_2).f3)) rfl; have hfz44_0 := zO BK56.out 0; have hfz44_1 := zO BK56.out 1; have hfz44_2 := zO BK56.out 2; have hfz44_3 := zO BK56.out 3; have p61 : 0 ≤ (((rd_T38 l2 x32_2).f3) : Int) := zW (by first | (with_reducible assumption) | assumption); have q61 : ((rd_T38 l2 x32_2).f3) < (((rd_T38 l2 x32_2).f2).length : Int) := zW (by first | (with_reducible assumption) | assumption); obtain ⟨ad61, e61, hx61_0⟩ := Kd.at_string HR55_2.out ((rd_T38 l2 x32_2).f3) p61 q61
                    cases e61
                    replace hx61_0 := (HB.out.cell (zB w _ hx61_0)).trans hx61_0; replace p61 := eq_true p61; replace q61 := eq_true q61; go_wp2; go_roundg kj30
                    case measure => have := HJ3.out; have := HK2.out; have := HJ17.out; have := HJ30.out; omega
                    case rel => exact ⟨(rdOf ByteArray.empty ((rd_T38 l2 x32_2).f2) ((rd_T38 l2 x32_2).f3)), (wrap64 (x32_2 + 1)), (by first | rfl | (simp; done) | (simp [*]; done) | (simp [bne]; done)), (by first | rfl | (simp; done) | (simp [*]; done) | (simp [bne]; done)), H', ⟨by have := HJ3.out; have := HK2.out; have := HJ17.out; have := HJ30.out; omega⟩, ⟨by repeat (first | (with_reducible first | exact HB.out | apply zH | apply zF | apply zG | refine zI ?_ GE56.out) | exact HB.out)⟩⟩
                   ·rw [if_neg c43] at H
                    exact absurd H (by simp)
                  ·rw [if_neg c42] at H
                   exact absurd H (by simp)
        ·rw [if_neg c16] at H
         exact absurd H (by simp)
       ·rw [if_neg c15] at H
        exact absurd H (by simp)
      ·rw [if_neg c14] at H
       have c14b0 : decide (x32_2 < (l2.length : Int)) = false := decide_eq_false c14; clear c14; simp only [Option.some.injEq, Prod.mk.injEq] at H; obtain ⟨rfl, rfl, rfl⟩ := H; go_wp2; go_ret3; exact ⟨by first | rfl | (simp <;> rfl) | (simp [*] <;> rfl), by (with_reducible repeat first | exact HB.out | apply zH | apply zF | apply zG) <;> exact HB.out⟩
def slices_Equal_string_string.l0 : Nat → List ByteArray → List ByteArray → Int → Int → Option (Bool)
 | 0, _, _, _, _ => none
 | k + 1, x0, x1, x12, x13 => if x13 < x12 then (if 0 ≤ x13 then (if x13 < (x0.length : Int) then (if x13 < (x1.length : Int) then (if (rdOf ByteArray.empty x0 x13).toList = (rdOf ByteArray.empty x1 x13).toList then (slices_Equal_string_string.l0 k x0 x1 x12 (wrap64 (x13 + 1))) else (some false)) else (none)) else (none)) else (none)) else (some true)
def slices_Equal_string_string.f (k : Nat) (l0 : List ByteArray) (l1 : List ByteArray) : Option (Bool) := if (l0.length : Int) = (l1.length : Int) then (slices_Equal_string_string.l0 k l0 l1 (l0.length : Int) 0) else (some false)
theorem slices_Equal_string_string.calls (k : Nat) (A0 : Option Addr) (c0 : Nat) (l0 : List ByteArray) (A1 : Option Addr) (c1 : Nat) (l1 : List ByteArray) (r : Bool) (w : World) (hr0 : Kd.C Kd.string w A0 l0.length l0) (hc0 : l0.length ≤ c0) (hr1 : Kd.C Kd.string w A1 l1.length l1) (hc1 : l1.length ≤ c1) (h : slices_Equal_string_string.f k l0 l1 = some r) :
  Calls Try.prog 68 #[.slice A0 l0.length c0, .slice A1 l1.length c1] w fun e w' => e = .returned (.bool r) ∧ Drawn0 w w' := by
 have HR0 := zA hr0; have HC0 := zA hc0; clear hr0 hc0; have HR1 := zA hr1; have HC1 := zA hc1; clear hr1 hc1; have H : (if (l0.length : Int) = (l1.length : Int) then (slices_Equal_string_string.l0 k l0 l1 (l0.length : Int) 0) else (some false)) = some r := h; clear h
 by_cases c3 : (l0.length : Int) = (l1.length : Int)
 ·rw [if_pos c3] at H
  have c3b0 : ((l0.length : Int) == (l1.length : Int)) = true := beq_iff_eq.mpr c3; have c3b1 : ((l0.length : Int) != (l1.length : Int)) = false := bne_eq_false_iff_eq.mpr c3; have c3b2 : (l0.length == l1.length) = true := by first | simpa using c3 | (simp at c3 ⊢; omega)
  clear c3; have H' := zA H; clear H; go_enter Try.func68, Try.ntmps68; go_wp2
  repeat (go_quiet (fail); try go_wp2)
  go_loopg [13] k (fun kq v13 w' => ∃ (x13_1 : Int), v13 = .int .i64 x13_1 ∧ Aside0 (slices_Equal_string_string.l0 kq l0 l1 (l0.length : Int) x13_1 = some r) ∧ Aside0 (kq ≤ k) ∧ Drawn0 w w')
  case atStart => exact ⟨(0), (by first | rfl | (simp; done) | (simp [*]; done) | (simp [bne]; done)), H', ⟨Nat.le_refl _⟩, by repeat (first | exact Drawn0.refl _ | apply Drawn0.step)⟩
  case round =>
   clear H'
   try clear c1
   try clear p2
   try clear c3
   try clear c3b0
   try clear c3b1
   try clear c3b2
   obtain ⟨x13_1, rfl, HA, HK1, ⟨m1, rfl⟩⟩ := hrel
   cases gk with
   | zero => exact absurd HA.out (by simp [slices_Equal_string_string.l0])
   | succ k1 =>
    have H := HA.out; clear HA; simp only [slices_Equal_string_string.l0] at H
    by_cases c4 : x13_1 < (l0.length : Int)
    ·rw [if_pos c4] at H
     have c4b0 : decide (x13_1 < (l0.length : Int)) = true := zX c4; clear c4
     by_cases c5 : 0 ≤ x13_1
     ·rw [if_pos c5] at H
      have c5b0 : decide (0 ≤ x13_1) = true := zX c5; clear c5
      by_cases c6 : x13_1 < (l0.length : Int)
      ·rw [if_pos c6] at H
       have c6b0 : decide (x13_1 < (l0.length : Int)) = true := zX c6; clear c6
       by_cases c7 : x13_1 < (l1.length : Int)
       ·rw [if_pos c7] at H
        have c7b0 : decide (x13_1 < (l1.length : Int)) = true := zX c7; clear c7
        by_cases c8 : (rdOf ByteArray.empty l0 x13_1).toList = (rdOf ByteArray.empty l1 x13_1).toList
        ·rw [if_pos c8] at H
         have c8b0 : ((rdOf ByteArray.empty l0 x13_1).toList == (rdOf ByteArray.empty l1 x13_1).toList) = true := beq_iff_eq.mpr c8; have c8b1 : ((rdOf ByteArray.empty l0 x13_1).toList != (rdOf ByteArray.empty l1 x13_1).toList) = false := bne_eq_false_iff_eq.mpr c8; clear c8; have H' := zA H; clear H; have p10 : 0 ≤ (x13_1 : Int) := zW (by first | (with_reducible assumption) | assumption); have q10 : x13_1 < (l0.length : Int) := zW (by first | (with_reducible assumption) | assumption); obtain ⟨ad10, e10, hx10_0⟩ := Kd.at_string HR0.out x13_1 p10 q10
         cases e10
         replace p10 := eq_true p10; replace q10 := eq_true q10; have p11 : 0 ≤ (x13_1 : Int) := zW (by first | (with_reducible assumption) | assumption); have q11 : x13_1 < (l1.length : Int) := zW (by first | (with_reducible assumption) | assumption); obtain ⟨ad11, e11, hx11_0⟩ := Kd.at_string HR1.out x13_1 p11 q11
         cases e11
         replace p11 := eq_true p11; replace q11 := eq_true q11; go_wp2
         repeat (go_quiet (fail); try go_wp2)
         go_roundg k1
         case measure => have := HK1.out; omega
         case rel => exact ⟨(wrap64 (x13_1 + 1)), (by first | rfl | (simp; done) | (simp [*]; done) | (simp [bne]; done)), H', ⟨by have := HK1.out; omega⟩, by repeat (first | exact Drawn0.refl _ | apply Drawn0.step)⟩
        ·rw [if_neg c8] at H
         have c8b0 : ((rdOf ByteArray.empty l0 x13_1).toList == (rdOf ByteArray.empty l1 x13_1).toList) = false := beq_eq_false_iff_ne.mpr c8; have c8b1 : ((rdOf ByteArray.empty l0 x13_1).toList != (rdOf ByteArray.empty l1 x13_1).toList) = true := bne_iff_ne.mpr c8; obtain rfl := yM H; have p10 : 0 ≤ (x13_1 : Int) := zW (by first | (with_reducible assumption) | assumption); have q10 : x13_1 < (l0.length : Int) := zW (by first | (with_reducible assumption) | assumption); obtain ⟨ad10, e10, hx10_0⟩ := Kd.at_string HR0.out x13_1 p10 q10
         cases e10
         replace p10 := eq_true p10; replace q10 := eq_true q10; have p11 : 0 ≤ (x13_1 : Int) := zW (by first | (with_reducible assumption) | assumption); have q11 : x13_1 < (l1.length : Int) := zW (by first | (with_reducible assumption) | assumption); obtain ⟨ad11, e11, hx11_0⟩ := Kd.at_string HR1.out x13_1 p11 q11
         cases e11
         replace p11 := eq_true p11; replace q11 := eq_true q11; go_wp2
         repeat (go_quiet (fail); try go_wp2)
         go_ret; exact ⟨by first | rfl | (simp; done) | (simp [*]; done) | (simp [bne]; done), by repeat (first | exact Drawn0.refl _ | apply Drawn0.step)⟩
       ·rw [if_neg c7] at H
        exact absurd H (by simp)
      ·rw [if_neg c6] at H
       exact absurd H (by simp)
     ·rw [if_neg c5] at H
      exact absurd H (by simp)
    ·rw [if_neg c4] at H
     have c4b0 : decide (x13_1 < (l0.length : Int)) = false := decide_eq_false c4; clear c4; obtain rfl := yM H; go_wp2
     repeat (go_quiet (fail); try go_wp2)
     go_ret; exact ⟨by first | rfl | (simp; done) | (simp [*]; done) | (simp [bne]; done), by repeat (first | exact Drawn0.refl _ | apply Drawn0.step)⟩
 ·rw [if_neg c3] at H
  have c3b0 : ((l0.length : Int) == (l1.length : Int)) = false := beq_eq_false_iff_ne.mpr c3; have c3b1 : ((l0.length : Int) != (l1.length : Int)) = true := bne_iff_ne.mpr c3; have c3b2 : (l0.length == l1.length) = false := by first | simpa using c3 | (simp at c3 ⊢; omega)
  obtain rfl := yM H; go_enter Try.func68, Try.ntmps68; go_wp2
  repeat (go_quiet (fail); try go_wp2)
  go_ret; exact ⟨by first | rfl | (simp; done) | (simp [*]; done) | (simp [bne]; done), by repeat (first | exact Drawn0.refl _ | apply Drawn0.step)⟩
end Go.Proofs.Ytpbepgffbcfaoaa.PA
end
