/- For the law FnExactCheckAnswer (laid by merge.py). -/
import Derived.Test.YtmfipefpmjcddaaGreatDoorMFnExactCheckAnswerd
section
namespace Go.Proofs.YtmfipefpmjcddaaGreatDoor.PA
open Go.RowKit Go.Proofs.YtmfipefpmjcddaaGreatDoorW.PrintWords Go.Proofs.YtmfipefpmjcddaaGreatDoorW.PrintLast Go.Proofs.YtmfipefpmjcddaaGreatDoorW.PrintMore
attribute [local go_sem] max2_int min2_int max_two min_two max_three min_three max_four min_four
set_option linter.unusedVariables false
set_option linter.unusedSimpArgs false
set_option maxHeartbeats 60000000
set_option maxRecDepth 100000
def impl_digits.l0 : Nat → List Int → Int → List Int → Int → Int → Option (List Int)
 | 0, _, _, _, _, _ => none
 | k + 1, x3, x4, x11, x12, x13 => if x13 < x12 then (if 0 ≤ x13 then (if x13 < (x11.length : Int) then ((some (([(Int.tdiv (rd x11 x13) 16) % 256, wrap64 (Int.tmod (rd x11 x13) 16)] : List Int) : List Int)).bind fun y10 => (if x3.length + y10.length < 17592186044416 then (impl_digits.l0 k (x3 ++ y10) (wrap64 (x4 + (wrap64 ((30 - ((Int.tdiv (rd x11 x13) 16) % 256)) - (wrap64 (Int.tmod (rd x11 x13) 16)))))) x11 x12 (wrap64 (x13 + 1))) else (none))) else (none)) else (none)) else ((some (([wrap64 (Int.tdiv x4 256), Int.tmod (wrap64 (Int.tdiv x4 16)) 16, Int.tmod x4 16] : List Int) : List Int)).bind fun y14 => (if x3.length + y14.length < 17592186044416 then (some (x3 ++ y14)) else (none)))
def impl_digits.f (k : Nat) (a0 : ByteArray) : Option (List Int) := (impl_digest.f k 109 a0).bind fun t10 => (if t10.size ≤ 9223372036854775807 then ((some (bytesOf t10 : List Int)).bind fun y11 => (impl_digits.l0 k ([] : List Int) 0 y11 (y11.length : Int) 0)) else (none))
theorem impl_digits.calls (k : Nat) (a0 : ByteArray) (r : List Int) (w : World) (h : impl_digits.f k a0 = some r) :
  Calls Tryz.prog 91 #[.string a0] w fun e w' => ∃ v0_ : Value, e = .returned (v0_) ∧ Kd.R (Kd.int .i64) 3 w' w.heap.size (fun _ => True) v0_ r ∧ Below w.heap.size w w' := by
 have HB := zA (Below.refl w.heap.size w); have H : ((impl_digest.f k 109 a0).bind fun t19 => (if t19.size ≤ 9223372036854775807 then ((some (bytesOf t19 : List Int)).bind fun y21 => (impl_digits.l0 k ([] : List Int) 0 y21 (y21.length : Int) 0)) else (none))) = some r := h; clear h; replace H := zAF H; obtain ⟨t19, A20, H⟩ := H; replace H : (if t19.size ≤ 9223372036854775807 then ((some (bytesOf t19 : List Int)).bind fun y21 => (impl_digits.l0 k ([] : List Int) 0 y21 (y21.length : Int) 0)) else (none)) = some r := H; have A2 := zA A20; clear A20
 by_cases c3 : t19.size ≤ 9223372036854775807
 ·rw [if_pos c3] at H
  have c3b0 := eq_true c3; have c3b1 : decide (t19.size ≤ 9223372036854775807) = true := zX c3
  try have c3b2 : (9223372036854775807 < t19.size) = False := eq_false (Nat.not_lt.2 c3)
  clear c3; obtain ⟨y21, hy21⟩ : ∃ y_ : List Int, y_ = (bytesOf t19) := ⟨_, rfl⟩; replace H : (impl_digits.l0 k ([] : List Int) 0 y21 (y21.length : Int) 0) = some r := by first | (rw [hy21]; with_reducible exact H) | (have H2_ := (Option.bind_some _ _).symm.trans H; rw [hy21]; with_reducible exact H2_) | (have H2_ := (Option.bind_some _ _).symm.trans H; with_reducible exact H2_) | with_reducible exact H | (rw [hy21]; exact H) | exact H
  have Ny21 := zA hy21; clear hy21; have H' := zA H; clear H; go_enter Tryz.func91, Tryz.ntmps91; go_wp2_with (first | ((with_reducible refine yB (f := 93) rfl ?_); refine goesL_ (some 10) rfl rfl Tryz.func93 (by kernel_rfl) rfl #[.int .u8 109, .string a0] rfl (by (try simp only [zAA, zAB, zAC]); first | done | rfl) ?_; (with_reducible refine (impl_digest.calls k 109 a0 t19 _ A2.out).mono ?_); rintro e w4 ⟨rfl, hb⟩; refine ⟨_, rfl, ?_⟩; have n0_ := zA (zAD (by (with_reducible repeat first | exact HB.out | apply zH | apply zF | apply zG) <;> exact HB.out) hb); clear HB; have HB := n0_; clear n0_; (try clear hb)) | ((with_reducible refine gate_dst (N := 11) rfl ?_); refine pp_conv (P := Tryz.prog) (by rfl) (N := 11) (by rfl) 9 104 5 _ (by rfl) t19 (by rfl) Tryz.underlying9 Tryz.underlying104 Tryz.underlying5 (zW (by first | (with_reducible assumption) | assumption)) y21 Ny21.out ?_; intro A22 c22 w5 hr_ hc_ hb; have n0_ := zA (hr_); have n1_ := zA (hc_); have n2_ := zA (zAD (by (with_reducible repeat first | exact HB.out | apply zH | apply zF | apply zG) <;> exact HB.out) hb); clear HB; have HR22 := n0_; have HC22 := n1_; have HB := n2_; clear n0_ n1_ n2_; clear hr_ hc_ hb)); go_loopg [3, 4, 13] k (fun kq v3 v4 v13 w' => ∃ (x3_1 : List Int) (x4_1 : Int) (x13_1 : Int), v4 = .int .i64 x4_1 ∧ v13 = .int .i64 x13_1 ∧ Aside0 (impl_digits.l0 kq x3_1 x4_1 y21 (y21.length : Int) x13_1 = some r) ∧ Aside0 (kq ≤ k) ∧ Aside0 (Kd.R (Kd.int .i64) 3 w' w.heap.size (fun _ => True) v3 x3_1) ∧ Aside0 (CV w' A22 y21) ∧ Aside0 (Below w.heap.size w w'))
  case atStart => exact ⟨(([] : List Int)), (0), (0), (by first | rfl | (simp; done) | (simp [*]; done) | (simp [bne]; done)), (by first | rfl | (simp; done) | (simp [*]; done) | (simp [bne]; done)), H', ⟨Nat.le_refl _⟩, ⟨by first | exact Kd.R_nil _ _ _ _ _ | exact Kd.N_nil _ _ _ _ _ | exact Kd.V_nil _ _ _ _ _ | exact Kd.Q_nil _ _ _ _ _ | exact Kd.S_nil _ _ _ _ _⟩, ⟨by repeat (first | (with_reducible exact HR22.out) | (with_reducible refine CV_alloc ?_ _) | (with_reducible refine CV_drewN ?_ _) | (with_reducible refine CV_drew ?_) | exact HR22.out)⟩, ⟨by (with_reducible repeat first | exact HB.out | apply zH | apply zF | apply zG) <;> exact HB.out⟩⟩
  case round =>
   clear H'
   try clear p2
   try clear c3
   try clear c3b0
   try clear c3b1
   try clear c3b2
   obtain ⟨x3_1, x4_1, x13_1, rfl, rfl, HA, HK1, HO_3, HR22, HB⟩ := hrel
   cases gk with
   | zero => exact absurd HA.out (by simp [impl_digits.l0])
   | succ k1 =>
    have H := HA.out; clear HA; simp only [impl_digits.l0] at H
    by_cases c6 : x13_1 < (y21.length : Int)
    ·rw [if_pos c6] at H
     have c6b0 : decide (x13_1 < (y21.length : Int)) = true := zX c6; clear c6
     by_cases c7 : 0 ≤ x13_1
     ·rw [if_pos c7] at H
      have c7b0 : decide (0 ≤ x13_1) = true := zX c7; clear c7
      by_cases c8 : x13_1 < (y21.length : Int)
      ·rw [if_pos c8] at H
       have c8b0 : decide (x13_1 < (y21.length : Int)) = true := zX c8; clear c8; obtain ⟨y23, hy23⟩ : ∃ y_ : List Int, y_ = (([(Int.tdiv (rd y21 x13_1) 16) % 256, wrap64 (Int.tmod (rd y21 x13_1) 16)] : List Int)) := ⟨_, rfl⟩; replace H : (if x3_1.length + y23.length < 17592186044416 then (impl_digits.l0 k1 (x3_1 ++ y23) (wrap64 (x4_1 + (wrap64 ((30 - ((Int.tdiv (rd y21 x13_1) 16) % 256)) - (wrap64 (Int.tmod (rd y21 x13_1) 16)))))) y21 (y21.length : Int) (wrap64 (x13_1 + 1))) else (none)) = some r := by first | (rw [hy23]; with_reducible exact H) | (have H2_ := (Option.bind_some _ _).symm.trans H; rw [hy23]; with_reducible exact H2_) | (have H2_ := (Option.bind_some _ _).symm.trans H; with_reducible exact H2_) | with_reducible exact H | (rw [hy23]; exact H) | exact H
       have Ny23 := zA hy23; clear hy23
       by_cases c9 : x3_1.length + y23.length < 17592186044416
       ·rw [if_pos c9] at H
        have LMc9 := zA c9; clear c9; obtain ⟨y24, hy24⟩ : ∃ y_ : List Int, y_ = (x3_1 ++ y23) := ⟨_, rfl⟩; replace H : (impl_digits.l0 k1 y24 (wrap64 (x4_1 + (wrap64 ((30 - ((Int.tdiv (rd y21 x13_1) 16) % 256)) - (wrap64 (Int.tmod (rd y21 x13_1) 16)))))) y21 (y21.length : Int) (wrap64 (x13_1 + 1))) = some r := by first | (rw [hy24]; with_reducible exact H) | (have H2_ := (Option.bind_some _ _).symm.trans H; rw [hy24]; with_reducible exact H2_) | (have H2_ := (Option.bind_some _ _).symm.trans H; with_reducible exact H2_) | with_reducible exact H | (rw [hy24]; exact H) | exact H
        have Ny24 := zA hy24; clear hy24; have H' := zA H; clear H; have p25 : 0 ≤ (x13_1 : Int) := zW (by first | (with_reducible assumption) | assumption); have q25 : x13_1 < (y21.length : Int) := zW (by first | (with_reducible assumption) | assumption); obtain ⟨ad25, e25, hx25_0⟩ := Kd.at_int (CV_C (by repeat (first | (with_reducible exact HR22.out) | (with_reducible refine CV_alloc ?_ _) | (with_reducible refine CV_drewN ?_ _) | (with_reducible refine CV_drew ?_) | exact HR22.out))) x13_1 p25 q25
        cases e25
        replace p25 := eq_true p25; replace q25 := eq_true q25; go_wp2_with (first | ((with_reducible refine gate_dst (N := 26) rfl ?_); refine Kd.R_lit (Kd.int .i64) _ 3 ?hg (N := 26) ?hd (xs := ([(Int.tdiv (rd y21 x13_1) 16) % 256, wrap64 (Int.tmod (rd y21 x13_1) 16)] : List Int)) (inner := [.int .i64 ((Int.tdiv (rd y21 x13_1) 16) % 256), .int .i64 (wrap64 (Int.tmod (rd y21 x13_1) 16))]) (ok := fun _ => True) (okp := fun _ => True) ?hr ?hp (fun _ hk => hk) trivial (Below.refl _ _) (Nat.le_refl _) (by simp) ?_; (case hd => rfl); (case hg => rfl); (case hr => first | (go_simp; done) | (go_simp; rfl)); (case hp => exact (Reps.one (show Kd.M (Kd.int .i64) _ _ _ ((Int.tdiv (rd y21 x13_1) 16) % 256) [.int .i64 ((Int.tdiv (rd y21 x13_1) 16) % 256)] from rfl) (Reps.one (show Kd.M (Kd.int .i64) _ _ _ (wrap64 (Int.tmod (rd y21 x13_1) 16)) [.int .i64 (wrap64 (Int.tmod (rd y21 x13_1) 16))] from rfl) (Reps.none _ _)))); intro v26 w10 ho11 hb hg_ hnew_; clear hg_ hnew_; (first | rw [← Ny23.out] at ho11 | (simp only [Int.reduceToNat] at ho11; rw [← Ny23.out] at ho11)); have n0_ := zA (yJ (by (with_reducible repeat first | apply zQ | apply zR | apply zS); exact HO_3.out) (Kd.R_base ho11) hb); have n1_ := zA (Kd.R_lower (yK ho11 (Kd.R_lt (by (with_reducible repeat first | apply zQ | apply zR | apply zS); exact HO_3.out))) (zAE (by (with_reducible repeat first | exact HB.out | apply zH | apply zF | apply zG) <;> exact HB.out))); have n2_ := zA (CV_below (by repeat (first | (with_reducible exact HR22.out) | (with_reducible refine CV_alloc ?_ _) | (with_reducible refine CV_drewN ?_ _) | (with_reducible refine CV_drew ?_) | exact HR22.out)) hb); have n3_ := zA (zAD (by (with_reducible repeat first | exact HB.out | apply zH | apply zF | apply zG) <;> exact HB.out) hb); clear HO_3; clear HR22; clear HB; have HO_3 := n0_; have HO27 := n1_; have HR22 := n2_; have HB := n3_; clear n0_ n1_ n2_ n3_; clear hb ho11; obtain ⟨Ao13, co13, eo13⟩ := Kd.R_slice HO27.out; subst eo13) | ((with_reducible refine gate_builtin (b := .append) (xs := #[.tmp 23, .tmp 26]) rfl ?_); at_builtin; refine Kd.R_append_rows (Kd.int .i64) (w0 := w) w.heap.size rfl (.tmp 23) (.tmp 26) 108 3 (.int .i64 0) 8 rfl Tryz.underlying108 info3 rfl (by decide) (by omega) u3 x3_1 y23 _ _ _ (fun k_ => some k_ ≠ (.slice Ao13 y23.length co13 : Value).ownBlock) (fun _ => False) rfl rfl ?aO ?aR (fun _ _ h => h) (fun _ h => h.elim) ?aF ?aB ?aS ?aL ?_; (case aR => repeat (first | exact (yD HO27.out).2.2 | (with_reducible first | refine zT ?_ _ | refine zU ?_ _ | refine zV ?_))); (case aB => exact (by (with_reducible repeat first | exact HB.out | apply zH | apply zF | apply zG) <;> exact HB.out)); (case aF => exact (fun k_ hk => Kd.fresh' (Kd.R_lt (by (with_reducible repeat first | apply zQ | apply zR | apply zS); exact HO27.out)) k_ hk)); (case aO => exact (by (with_reducible repeat first | apply zQ | apply zR | apply zS); exact yC HO_3.out (fun _ hk => hk.2))); (case aS => exact (zAE (by (with_reducible repeat first | exact HB.out | apply zH | apply zF | apply zG) <;> exact HB.out))); (case aL => have := LMc9.out; omega); intro v28 w12 ho hb hg hat; rw [← Ny24.out] at ho; have n0_ := zA (Kd.R_after (ok := (fun _ => True)) (by (with_reducible repeat first | apply zQ | apply zR | apply zS); exact HO27.out) hg hat); have n1_ := zA (hb); have n2_ := zA (CV_grown (by repeat (first | (with_reducible exact HR22.out) | (with_reducible refine CV_alloc ?_ _) | (with_reducible refine CV_drewN ?_ _) | (with_reducible refine CV_drew ?_) | exact HR22.out)) (by (with_reducible repeat first | apply zQ | apply zR | apply zS); exact HO_3.out) hg); have n3_ := zA (ho); clear HO27; clear HB; clear HR22; clear HO_3; have HO27 := n0_; have HB := n1_; have HR22 := n2_; have HO29 := n3_; clear n0_ n1_ n2_ n3_; clear ho hb hg hat)); go_roundg k1
        case measure => have := HK1.out; omega
        case rel => exact ⟨(y24), (wrap64 (x4_1 + (wrap64 ((30 - ((Int.tdiv (rd y21 x13_1) 16) % 256)) - (wrap64 (Int.tmod (rd y21 x13_1) 16)))))), (wrap64 (x13_1 + 1)), (by first | rfl | (simp; done) | (simp [*]; done) | (simp [bne]; done)), (by first | rfl | (simp; done) | (simp [*]; done) | (simp [bne]; done)), H', ⟨by have := HK1.out; omega⟩, ⟨by (with_reducible repeat first | apply zQ | apply zR | apply zS); exact yC HO29.out (fun _ hk => trivial)⟩, ⟨by repeat (first | (with_reducible exact HR22.out) | (with_reducible refine CV_alloc ?_ _) | (with_reducible refine CV_drewN ?_ _) | (with_reducible refine CV_drew ?_) | exact HR22.out)⟩, ⟨by (with_reducible repeat first | exact HB.out | apply zH | apply zF | apply zG) <;> exact HB.out⟩⟩
       ·rw [if_neg c9] at H
        exact absurd H (by simp)
      ·rw [if_neg c8] at H
       exact absurd H (by simp)
     ·rw [if_neg c7] at H
      exact absurd H (by simp)
    ·rw [if_neg c6] at H
     have c6b0 : decide (x13_1 < (y21.length : Int)) = false := decide_eq_false c6; clear c6; obtain ⟨y30, hy30⟩ : ∃ y_ : List Int, y_ = (([wrap64 (Int.tdiv x4_1 256), Int.tmod (wrap64 (Int.tdiv x4_1 16)) 16, Int.tmod x4_1 16] : List Int)) := ⟨_, rfl⟩; replace H : (if x3_1.length + y30.length < 17592186044416 then (some (x3_1 ++ y30)) else (none)) = some r := by first | (rw [hy30]; with_reducible exact H) | (have H2_ := (Option.bind_some _ _).symm.trans H; rw [hy30]; with_reducible exact H2_) | (have H2_ := (Option.bind_some _ _).symm.trans H; with_reducible exact H2_) | with_reducible exact H | (rw [hy30]; exact H) | exact H
     have Ny30 := zA hy30; clear hy30
     by_cases c14 : x3_1.length + y30.length < 17592186044416
     ·rw [if_pos c14] at H
      have LMc14 := zA c14; clear c14; obtain ⟨y31, hy31⟩ : ∃ y_ : List Int, y_ = (x3_1 ++ y30) := ⟨_, rfl⟩; replace H : (some y31) = some r := by first | (rw [hy31]; with_reducible exact H) | (have H2_ := (Option.bind_some _ _).symm.trans H; rw [hy31]; with_reducible exact H2_) | (have H2_ := (Option.bind_some _ _).symm.trans H; with_reducible exact H2_) | with_reducible exact H | (rw [hy31]; exact H) | exact H
      have Ny31 := zA hy31; clear hy31; obtain rfl := yM H; go_wp2_with (first | ((with_reducible refine gate_dst (N := 43) rfl ?_); refine Kd.R_lit (Kd.int .i64) _ 3 ?hg (N := 43) ?hd (xs := ([wrap64 (Int.tdiv x4_1 256), Int.tmod (wrap64 (Int.tdiv x4_1 16)) 16, Int.tmod x4_1 16] : List Int)) (inner := [.int .i64 (wrap64 (Int.tdiv x4_1 256)), .int .i64 (Int.tmod (wrap64 (Int.tdiv x4_1 16)) 16), .int .i64 (Int.tmod x4_1 16)]) (ok := fun _ => True) (okp := fun _ => True) ?hr ?hp (fun _ hk => hk) trivial (Below.refl _ _) (Nat.le_refl _) (by simp) ?_; (case hd => rfl); (case hg => rfl); (case hr => first | (go_simp; done) | (go_simp; rfl)); (case hp => exact (Reps.one (show Kd.M (Kd.int .i64) _ _ _ (wrap64 (Int.tdiv x4_1 256)) [.int .i64 (wrap64 (Int.tdiv x4_1 256))] from rfl) (Reps.one (show Kd.M (Kd.int .i64) _ _ _ (Int.tmod (wrap64 (Int.tdiv x4_1 16)) 16) [.int .i64 (Int.tmod (wrap64 (Int.tdiv x4_1 16)) 16)] from rfl) (Reps.one (show Kd.M (Kd.int .i64) _ _ _ (Int.tmod x4_1 16) [.int .i64 (Int.tmod x4_1 16)] from rfl) (Reps.none _ _))))); intro v32 w15 ho16 hb hg_ hnew_; clear hg_ hnew_; (first | rw [← Ny30.out] at ho16 | (simp only [Int.reduceToNat] at ho16; rw [← Ny30.out] at ho16)); have n0_ := zA (yJ (by (with_reducible repeat first | apply zQ | apply zR | apply zS); exact HO_3.out) (Kd.R_base ho16) hb); have n1_ := zA (Kd.R_lower (yK ho16 (Kd.R_lt (by (with_reducible repeat first | apply zQ | apply zR | apply zS); exact HO_3.out))) (zAE (by (with_reducible repeat first | exact HB.out | apply zH | apply zF | apply zG) <;> exact HB.out))); have n2_ := zA (CV_below (by repeat (first | (with_reducible exact HR22.out) | (with_reducible refine CV_alloc ?_ _) | (with_reducible refine CV_drewN ?_ _) | (with_reducible refine CV_drew ?_) | exact HR22.out)) hb); have n3_ := zA (zAD (by (with_reducible repeat first | exact HB.out | apply zH | apply zF | apply zG) <;> exact HB.out) hb); clear HO_3; clear HR22; clear HB; have HO_3 := n0_; have HO33 := n1_; have HR22 := n2_; have HB := n3_; clear n0_ n1_ n2_ n3_; clear hb ho16; obtain ⟨Ao18, co18, eo18⟩ := Kd.R_slice HO33.out; subst eo18) | ((with_reducible refine gate_builtin (b := .append) (xs := #[.tmp 35, .tmp 43]) rfl ?_); at_builtin; refine Kd.R_append_rows (Kd.int .i64) (w0 := w) w.heap.size rfl (.tmp 35) (.tmp 43) 108 3 (.int .i64 0) 8 rfl Tryz.underlying108 info3 rfl (by decide) (by omega) u3 x3_1 y30 _ _ _ (fun k_ => some k_ ≠ (.slice Ao18 y30.length co18 : Value).ownBlock) (fun _ => False) rfl rfl ?aO ?aR (fun _ _ h => h) (fun _ h => h.elim) ?aF ?aB ?aS ?aL ?_; (case aR => repeat (first | exact (yD HO33.out).2.2 | (with_reducible first | refine zT ?_ _ | refine zU ?_ _ | refine zV ?_))); (case aB => exact (by (with_reducible repeat first | exact HB.out | apply zH | apply zF | apply zG) <;> exact HB.out)); (case aF => exact (fun k_ hk => Kd.fresh' (Kd.R_lt (by (with_reducible repeat first | apply zQ | apply zR | apply zS); exact HO33.out)) k_ hk)); (case aO => exact (by (with_reducible repeat first | apply zQ | apply zR | apply zS); exact yC HO_3.out (fun _ hk => hk.2))); (case aS => exact (zAE (by (with_reducible repeat first | exact HB.out | apply zH | apply zF | apply zG) <;> exact HB.out))); (case aL => have := LMc14.out; omega); intro v34 w17 ho hb hg hat; rw [← Ny31.out] at ho; have n0_ := zA (Kd.R_after (ok := (fun _ => True)) (by (with_reducible repeat first | apply zQ | apply zR | apply zS); exact HO33.out) hg hat); have n1_ := zA (hb); have n2_ := zA (CV_grown (by repeat (first | (with_reducible exact HR22.out) | (with_reducible refine CV_alloc ?_ _) | (with_reducible refine CV_drewN ?_ _) | (with_reducible refine CV_drew ?_) | exact HR22.out)) (by (with_reducible repeat first | apply zQ | apply zR | apply zS); exact HO_3.out) hg); have n3_ := zA (ho); clear HO33; clear HB; clear HR22; clear HO_3; have HO33 := n0_; have HB := n1_; have HR22 := n2_; have HO35 := n3_; clear n0_ n1_ n2_ n3_; clear ho hb hg hat)); go_ret; exact ⟨_, by first | rfl | (simp <;> rfl) | (simp [*] <;> rfl), by (with_reducible repeat first | apply zQ | apply zR | apply zS); exact yC HO35.out (fun _ hk => trivial), by (with_reducible repeat first | exact HB.out | apply zH | apply zF | apply zG) <;> exact HB.out⟩
     ·rw [if_neg c14] at H
      exact absurd H (by simp)
 ·rw [if_neg c3] at H
  exact absurd H (by simp)
def impl_chain.l0 : Nat → ByteArray → Int → Int → Int → Option (ByteArray)
 | 0, _, _, _, _ => none
 | k + 1, x0, x1, x2, x7 => if x7 < (wrap64 (x1 + x2)) then ((impl_oneByte.f x7).bind fun t10 => (if t10.size + x0.size ≤ 9223372036854775807 then ((impl_digest.f k 99 (t10 ++ x0)).bind fun t11 => (impl_chain.l0 k t11 x1 x2 (wrap64 (x7 + 1)))) else (none))) else (some x0)
def impl_chain.f (k : Nat) (a0 : ByteArray) (a1 : Int) (a2 : Int) : Option (ByteArray) := impl_chain.l0 k a0 a1 a2 a1
theorem impl_chain.calls (k : Nat) (a0 : ByteArray) (a1 : Int) (a2 : Int) (r : ByteArray) (w : World) (h : impl_chain.f k a0 a1 a2 = some r) :
  Calls Tryz.prog 92 #[.string a0, .int .i64 a1, .int .i64 a2] w fun e w' => e = .returned (.string r) ∧ Below w.heap.size w w' := by
 have HB := zA (Below.refl w.heap.size w); have H : (impl_chain.l0 k a0 a1 a2 a1) = some r := h; clear h; have H' := zA H; clear H; go_enter Tryz.func92, Tryz.ntmps92; go_wp2; go_loopg [0, 7] k (fun kq v0 v7 w' => ∃ (x0_1 : ByteArray) (x7_1 : Int), v0 = .string x0_1 ∧ v7 = .int .i64 x7_1 ∧ Aside0 (impl_chain.l0 kq x0_1 a1 a2 x7_1 = some r) ∧ Aside0 (kq ≤ k) ∧ Aside0 (Below w.heap.size w w'))
 case atStart => exact ⟨(a0), (a1), (by first | rfl | (simp; done) | (simp [*]; done) | (simp [bne]; done)), (by first | rfl | (simp; done) | (simp [*]; done) | (simp [bne]; done)), H', ⟨Nat.le_refl _⟩, ⟨by (with_reducible repeat first | exact HB.out | apply zH | apply zF | apply zG) <;> exact HB.out⟩⟩
 case round =>
  clear H'
  try clear p2
  obtain ⟨x0_1, x7_1, rfl, rfl, HA, HK1, HB⟩ := hrel
  cases gk with
  | zero => exact absurd HA.out (by simp [impl_chain.l0])
  | succ k1 =>
   have H := HA.out; clear HA; simp only [impl_chain.l0] at H
   by_cases c4 : x7_1 < (wrap64 (a1 + a2))
   ·rw [if_pos c4] at H
    have c4b0 : decide (x7_1 < (wrap64 (a1 + a2))) = true := zX c4; clear c4; replace H := zAF H; obtain ⟨t10, A50, H⟩ := H; replace H : (if t10.size + x0_1.size ≤ 9223372036854775807 then ((impl_digest.f k1 99 (t10 ++ x0_1)).bind fun t11 => (impl_chain.l0 k1 t11 a1 a2 (wrap64 (x7_1 + 1)))) else (none)) = some r := H; have A5 := zA A50; clear A50
    by_cases c6 : t10.size + x0_1.size ≤ 9223372036854775807
    ·rw [if_pos c6] at H
     have c6b0 := eq_true c6; have c6b1 : decide (t10.size + x0_1.size ≤ 9223372036854775807) = true := zX c6
     try have c6b2 : (9223372036854775807 < t10.size + x0_1.size) = False := eq_false (Nat.not_lt.2 c6)
     replace H := zAF H; obtain ⟨t11, A70, H⟩ := H; replace H : (impl_chain.l0 k1 t11 a1 a2 (wrap64 (x7_1 + 1))) = some r := H; have A7 := zA A70; clear A70; have H' := zA H; clear H; go_wp2_with (first | ((with_reducible refine yB (f := 124) rfl ?_); refine goesL_ (some 17) rfl rfl Tryz.func124 (by kernel_rfl) rfl #[.int .i64 x7_1] rfl (by (try simp only [zAA, zAB, zAC]); first | done | rfl) ?_; (with_reducible refine (impl_oneByte.calls x7_1 t10 _ A5.out).mono ?_); rintro e w8 ⟨rfl, hb⟩; refine ⟨_, rfl, ?_⟩; have n0_ := zA (zAD (by (with_reducible repeat first | exact HB.out | apply zH | apply zF | apply zG) <;> exact HB.out) hb); clear HB; have HB := n0_; clear n0_; (try clear hb)) | ((with_reducible refine yB (f := 93) rfl ?_); refine goesL_ (some 20) rfl rfl Tryz.func93 (by kernel_rfl) rfl #[.int .u8 99, .string (t10 ++ x0_1)] rfl (by (try simp only [zAA, zAB, zAC]); first | done | rfl) ?_; (with_reducible refine (impl_digest.calls k1 99 (t10 ++ x0_1) t11 _ A7.out).mono ?_); rintro e w9 ⟨rfl, hb⟩; refine ⟨_, rfl, ?_⟩; have n0_ := zA (zAD (by (with_reducible repeat first | exact HB.out | apply zH | apply zF | apply zG) <;> exact HB.out) hb); clear HB; have HB := n0_; clear n0_; (try clear hb))); go_roundg k1
     case measure => have := HK1.out; omega
     case rel => exact ⟨(t11), (wrap64 (x7_1 + 1)), (by first | rfl | (simp; done) | (simp [*]; done) | (simp [bne]; done)), (by first | rfl | (simp; done) | (simp [*]; done) | (simp [bne]; done)), H', ⟨by have := HK1.out; omega⟩, ⟨by (with_reducible repeat first | exact HB.out | apply zH | apply zF | apply zG) <;> exact HB.out⟩⟩
    ·rw [if_neg c6] at H
     exact absurd H (by simp)
   ·rw [if_neg c4] at H
    have c4b0 : decide (x7_1 < (wrap64 (a1 + a2))) = false := decide_eq_false c4; clear c4; obtain rfl := yM H; go_wp2; go_ret; exact ⟨by first | rfl | (simp <;> rfl) | (simp [*] <;> rfl), by (with_reducible repeat first | exact HB.out | apply zH | apply zF | apply zG) <;> exact HB.out⟩
def impl_publicFrom.l0 : Nat → List ByteArray → ByteArray → List Int → Int → Int → Option (ByteArray)
 | 0, _, _, _, _, _ => none
 | k + 1, x1, x5, x9, x10, x11 => if x11 < x10 then (if 0 ≤ x11 then (if x11 < (x9.length : Int) then (if x11 < (x1.length : Int) then ((impl_chain.f k (rdOf ByteArray.empty x1 x11) (rd x9 x11) (wrap64 (15 - (rd x9 x11)))).bind fun t12 => (if x5.size + t12.size ≤ 9223372036854775807 then (impl_publicFrom.l0 k x1 (x5 ++ t12) x9 x10 (wrap64 (x11 + 1))) else (none))) else (none)) else (none)) else (none)) else ((impl_digest.f k 112 x5).bind fun t13 => (some t13))
def impl_publicFrom.f (k : Nat) (a0 : ByteArray) (l1 : List ByteArray) : Option (ByteArray) := (impl_digits.f k a0).bind fun t10 => (impl_publicFrom.l0 k l1 (⟨#[]⟩ : ByteArray) t10 (t10.length : Int) 0)
theorem impl_publicFrom.calls (k : Nat) (a0 : ByteArray) (A1 : Option Addr) (c1 : Nat) (l1 : List ByteArray) (r : ByteArray) (w : World) (hr1 : Kd.C Kd.string w A1 l1.length l1) (hc1 : l1.length ≤ c1) (h : impl_publicFrom.f k a0 l1 = some r) :
  Calls Tryz.prog 59 #[.string a0, .slice A1 l1.length c1] w fun e w' => e = .returned (.string r) ∧ Below w.heap.size w w' := by
 have HR1 := zA hr1; have HC1 := zA hc1; clear hr1 hc1; have HB := zA (Below.refl w.heap.size w); have H : ((impl_digits.f k a0).bind fun t15 => (impl_publicFrom.l0 k l1 (⟨#[]⟩ : ByteArray) t15 (t15.length : Int) 0)) = some r := h; clear h; replace H := zAF H; obtain ⟨t15, A30, H⟩ := H; replace H : (impl_publicFrom.l0 k l1 (⟨#[]⟩ : ByteArray) t15 (t15.length : Int) 0) = some r := H; have A3 := zA A30; clear A30; have H' := zA H; clear H; go_enter Tryz.func59, Tryz.ntmps59; go_wp2_with (first | ((with_reducible refine yB (f := 91) rfl ?_); refine goesL_ (some 9) rfl rfl Tryz.func91 (by kernel_rfl) rfl #[.string a0] rfl (by (try simp only [zAA, zAB, zAC]); first | done | rfl) ?_; (with_reducible refine (impl_digits.calls k a0 t15 _ A3.out).mono ?_); rintro e w4 ⟨v16, rfl, ho0, hb⟩; refine ⟨_, rfl, ?_⟩; have n0_ := zA (Kd.R_lower ho0 (zAE (by (with_reducible repeat first | exact HB.out | apply zH | apply zF | apply zG) <;> exact HB.out))); have n1_ := zA (zAD (by (with_reducible repeat first | exact HB.out | apply zH | apply zF | apply zG) <;> exact HB.out) hb); clear HB; have HO17 := n0_; have HB := n1_; clear n0_ n1_; (try clear hb); (try clear ho0); obtain ⟨Ao5, co5, eo5⟩ := Kd.R_slice HO17.out; subst eo5)); go_loopg [5, 11] k (fun kq v5 v11 w' => ∃ (x5_1 : ByteArray) (x11_1 : Int), v5 = .string x5_1 ∧ v11 = .int .i64 x11_1 ∧ Aside0 (impl_publicFrom.l0 kq l1 x5_1 t15 (t15.length : Int) x11_1 = some r) ∧ Aside0 (kq ≤ k) ∧ Aside0 (Kd.R (Kd.int .i64) 3 w' w.heap.size (fun _ => True) (.slice Ao5 t15.length co5) t15) ∧ Aside0 (Below w.heap.size w w'))
 case atStart => exact ⟨((⟨#[]⟩ : ByteArray)), (0), (by first | rfl | (simp; done) | (simp [*]; done) | (simp [bne]; done)), (by first | rfl | (simp; done) | (simp [*]; done) | (simp [bne]; done)), H', ⟨Nat.le_refl _⟩, ⟨by (with_reducible repeat first | apply zQ | apply zR | apply zS); exact HO17.out⟩, ⟨by (with_reducible repeat first | exact HB.out | apply zH | apply zF | apply zG) <;> exact HB.out⟩⟩
 case round =>
  clear H'
  try clear c1
  try clear p2
  try clear c5
  obtain ⟨x5_1, x11_1, rfl, rfl, HA, HK1, HO_9, HB⟩ := hrel
  cases gk with
  | zero => exact absurd HA.out (by simp [impl_publicFrom.l0])
  | succ k1 =>
   have H := HA.out; clear HA; simp only [impl_publicFrom.l0] at H
   by_cases c6 : x11_1 < (t15.length : Int)
   ·rw [if_pos c6] at H
    have c6b0 : decide (x11_1 < (t15.length : Int)) = true := zX c6; clear c6
    by_cases c7 : 0 ≤ x11_1
    ·rw [if_pos c7] at H
     have c7b0 : decide (0 ≤ x11_1) = true := zX c7; clear c7
     by_cases c8 : x11_1 < (t15.length : Int)
     ·rw [if_pos c8] at H
      have c8b0 : decide (x11_1 < (t15.length : Int)) = true := zX c8; clear c8
      by_cases c9 : x11_1 < (l1.length : Int)
      ·rw [if_pos c9] at H
       have c9b0 : decide (x11_1 < (l1.length : Int)) = true := zX c9; clear c9; replace H := zAF H; obtain ⟨t18, A19, H⟩ := H; replace H : (if x5_1.size + t18.size ≤ 9223372036854775807 then (impl_publicFrom.l0 k1 l1 (x5_1 ++ t18) t15 (t15.length : Int) (wrap64 (x11_1 + 1))) else (none)) = some r := H; have A10 := zA A19; clear A19
       by_cases c11 : x5_1.size + t18.size ≤ 9223372036854775807
       ·rw [if_pos c11] at H
        have c11b0 := eq_true c11; have c11b1 : decide (x5_1.size + t18.size ≤ 9223372036854775807) = true := zX c11
        try have c11b2 : (9223372036854775807 < x5_1.size + t18.size) = False := eq_false (Nat.not_lt.2 c11)
        have H' := zA H; clear H; have p20 : 0 ≤ (x11_1 : Int) := zW (by first | (with_reducible assumption) | assumption); have q20 : x11_1 < (t15.length : Int) := zW (by first | (with_reducible assumption) | assumption); obtain ⟨ad20, e20, hx20_0⟩ := Kd.at_int (yD HO_9.out).2.2 x11_1 p20 q20
        cases e20
        replace p20 := eq_true p20; replace q20 := eq_true q20; have p21 : 0 ≤ (x11_1 : Int) := zW (by first | (with_reducible assumption) | assumption); have q21 : x11_1 < (l1.length : Int) := zW (by first | (with_reducible assumption) | assumption); obtain ⟨ad21, e21, hx21_0⟩ := Kd.at_string HR1.out x11_1 p21 q21
        cases e21
        replace hx21_0 := (HB.out.cell (zB w _ hx21_0)).trans hx21_0; replace p21 := eq_true p21; replace q21 := eq_true q21; go_wp2_with (first | ((with_reducible refine yB (f := 92) rfl ?_); refine goesL_ (some 24) rfl rfl Tryz.func92 (by kernel_rfl) rfl #[.string (rdOf ByteArray.empty l1 x11_1), .int .i64 (rd t15 x11_1), .int .i64 (wrap64 (15 - (rd t15 x11_1)))] rfl (by (try simp only [zAA, zAB, zAC]); first | done | rfl) ?_; (with_reducible refine (impl_chain.calls k1 (rdOf ByteArray.empty l1 x11_1) (rd t15 x11_1) (wrap64 (15 - (rd t15 x11_1))) t18 _ A10.out).mono ?_); rintro e w12 ⟨rfl, hb⟩; refine ⟨_, rfl, ?_⟩; have n0_ := zA (Kd.R_below (by (with_reducible repeat first | apply zQ | apply zR | apply zS); exact HO_9.out) hb); have n1_ := zA (zAD (by (with_reducible repeat first | exact HB.out | apply zH | apply zF | apply zG) <;> exact HB.out) hb); clear HO_9; clear HB; have HO_9 := n0_; have HB := n1_; clear n0_ n1_; (try clear hb))); go_roundg k1
        case measure => have := HK1.out; omega
        case rel => exact ⟨(x5_1 ++ t18), (wrap64 (x11_1 + 1)), (by first | rfl | (simp; done) | (simp [*]; done) | (simp [bne]; done)), (by first | rfl | (simp; done) | (simp [*]; done) | (simp [bne]; done)), H', ⟨by have := HK1.out; omega⟩, ⟨by (with_reducible repeat first | apply zQ | apply zR | apply zS); exact HO_9.out⟩, ⟨by (with_reducible repeat first | exact HB.out | apply zH | apply zF | apply zG) <;> exact HB.out⟩⟩
       ·rw [if_neg c11] at H
        exact absurd H (by simp)
      ·rw [if_neg c9] at H
       exact absurd H (by simp)
     ·rw [if_neg c8] at H
      exact absurd H (by simp)
    ·rw [if_neg c7] at H
     exact absurd H (by simp)
   ·rw [if_neg c6] at H
    have c6b0 : decide (x11_1 < (t15.length : Int)) = false := decide_eq_false c6; clear c6; replace H := zAF H; obtain ⟨t22, A23, H⟩ := H; replace H : (some t22) = some r := H; have A13 := zA A23; clear A23; obtain rfl := yM H; go_wp2_with (first | ((with_reducible refine yB (f := 93) rfl ?_); refine goesL_ (some 28) rfl rfl Tryz.func93 (by kernel_rfl) rfl #[.int .u8 112, .string x5_1] rfl (by (try simp only [zAA, zAB, zAC]); first | done | rfl) ?_; (with_reducible refine (impl_digest.calls k1 112 x5_1 t22 _ A13.out).mono ?_); rintro e w14 ⟨rfl, hb⟩; refine ⟨_, rfl, ?_⟩; have n0_ := zA (Kd.R_below (by (with_reducible repeat first | apply zQ | apply zR | apply zS); exact HO_9.out) hb); have n1_ := zA (zAD (by (with_reducible repeat first | exact HB.out | apply zH | apply zF | apply zG) <;> exact HB.out) hb); clear HO_9; clear HB; have HO_9 := n0_; have HB := n1_; clear n0_ n1_; (try clear hb))); go_ret; exact ⟨by first | rfl | (simp <;> rfl) | (simp [*] <;> rfl), by (with_reducible repeat first | exact HB.out | apply zH | apply zF | apply zG) <;> exact HB.out⟩
def impl_CheckSeal.j0 : Nat → ByteArray → ByteArray → Bool → Int → List ByteArray → List ByteArray → Option (Bool × Bool)
 | 0, _, _, _, _, _, _ => none
 | k + 1, x0, x1, x29, x10, x11, x12 => if x29 = true then (some (false, false)) else ((impl_publicFrom.f k x1 x11).bind fun t13 => ((impl_topFrom.f k x10 t13 x12).bind fun t14 => (some ((t14.toList == x0.toList), true))))
def impl_CheckSeal.f (k : Nat) (a0 : ByteArray) (a1 : ByteArray) (a2_0 : Int) (l2_1 : List ByteArray) (l2_2 : List ByteArray) : Option (Bool × Bool) := (impl_isDigest.f a0).bind fun t10 => (if t10 = true then ((impl_isUse.f a2_0).bind fun t11 => (if t11 = true then ((impl_isSign.f k a1 l2_1).bind fun t12 => (if t12 = true then ((impl_areDigests.f k l2_2 3).bind fun t13 => (impl_CheckSeal.j0 k a0 a1 (!t13) a2_0 l2_1 l2_2)) else (impl_CheckSeal.j0 k a0 a1 true a2_0 l2_1 l2_2))) else (impl_CheckSeal.j0 k a0 a1 true a2_0 l2_1 l2_2))) else (impl_CheckSeal.j0 k a0 a1 true a2_0 l2_1 l2_2))
def impl_CheckSeal.T3 : Bool × List (List Nat × List Nat) := (true, [([], []), ([0], [0]), ([], []), ([], []), ([3], [3]), ([2, 4], [2, 4]), ([], []), ([6], [6]), ([1, 5, 7, 5], [1, 5, 7]), ([], []), ([8, 9], [8, 9]), ([10, 8, 0, 1, 2, 3, 4, 5, 6, 7, 8, 9, 10], [10]), ([11, 0, 1, 2, 3, 4, 5, 6, 7, 8, 9, 10, 11], [])])
def impl_CheckSeal.B3 : List Nat := [0, 1, 0, 0, 8, 28, 0, 64, 255, 0, 1023, 2047, 4095]
theorem impl_CheckSeal.tab3 : rtab .any (opsOf Tryz.f25 3) = impl_CheckSeal.T3 := by kernel_rfl
theorem impl_CheckSeal.bits3 : waitsOk impl_CheckSeal.T3.2 impl_CheckSeal.B3 = true := by kernel_rfl
theorem impl_CheckSeal.calls (k : Nat) (a0 : ByteArray) (a1 : ByteArray) (a2_0 : Int) (A2_1 : Option Addr) (c2_1 : Nat) (l2_1 : List ByteArray) (A2_2 : Option Addr) (c2_2 : Nat) (l2_2 : List ByteArray) (r1 : Bool) (r2 : Bool) (w : World) (hr2_1 : Kd.C Kd.string w A2_1 l2_1.length l2_1) (hc2_1 : l2_1.length ≤ c2_1) (hr2_2 : Kd.C Kd.string w A2_2 l2_2.length l2_2) (hc2_2 : l2_2.length ≤ c2_2) (h : impl_CheckSeal.f k a0 a1 a2_0 l2_1 l2_2 = some (r1, r2)) :
  Calls Tryz.prog 25 #[.string a0, .string a1, .agg #[.int .i64 a2_0, .slice A2_1 l2_1.length c2_1, .slice A2_2 l2_2.length c2_2]] w fun e w' => e = .returned (.tuple #[.bool r1, .bool r2]) ∧ Below w.heap.size w w' := by
 have hu34 := Tryz.underlying34; have HR2_1 := zA hr2_1; have HC2_1 := zA hc2_1; clear hr2_1 hc2_1; have HR2_2 := zA hr2_2; have HC2_2 := zA hc2_2; clear hr2_2 hc2_2; have HB := zA (Below.refl w.heap.size w); have H : ((impl_isDigest.f a0).bind fun t22 => (if t22 = true then ((impl_isUse.f a2_0).bind fun t23 => (if t23 = true then ((impl_isSign.f k a1 l2_1).bind fun t24 => (if t24 = true then ((impl_areDigests.f k l2_2 3).bind fun t25 => (impl_CheckSeal.j0 k a0 a1 (!t25) a2_0 l2_1 l2_2)) else (impl_CheckSeal.j0 k a0 a1 true a2_0 l2_1 l2_2))) else (impl_CheckSeal.j0 k a0 a1 true a2_0 l2_1 l2_2))) else (impl_CheckSeal.j0 k a0 a1 true a2_0 l2_1 l2_2))) = some (r1, r2) := h; clear h; have HC4 := zA H; clear H; go_enter Tryz.func25, Tryz.ntmps25; go_upto_region 1 with (first | ((with_reducible refine gate_dst (N := 5) rfl ?_); refine box_event ?hg (N := 5) ?hd (cs := #[.int .i64 a2_0, .slice A2_1 l2_1.length c2_1, .slice A2_2 l2_2.length c2_2]) (t := 34) ?hr ?_; (case hd => rfl); (case hg => rfl); (case hr => first | (go_simp; done) | (go_simp; rfl)); intro gb26 hg w5 hbox hb; have n0_ := zA (zAD (by (with_reducible repeat first | exact HB.out | apply zH | apply zF | apply zG) <;> exact HB.out) hb); have n1_ := zA (hbox); have n2_ := zA ((by rw [hg]; exact (zAE (by (with_reducible repeat first | exact HB.out | apply zH | apply zF | apply zG) <;> exact HB.out)) : w.heap.size ≤ gb26)); have n3_ := zA ((by rw [hg]; exact (zAE (by (with_reducible repeat first | exact HB.out | apply zH | apply zF | apply zG) <;> exact HB.out)) : w.heap.size ≤ gb26)); clear HB; have HB := n0_; have BK26 := n1_; have GW26 := n2_; have GE26 := n3_; clear n0_ n1_ n2_ n3_; clear hb hbox hg))
 (try simp only [Act.put, zC, zD, zE]); go_cut [29] (fun v29 wc => ∃ (kq : Nat) (x29_3 : Bool), v29 = .bool x29_3 ∧ Aside0 (impl_CheckSeal.j0 kq a0 a1 x29_3 a2_0 l2_1 l2_2 = some (r1, r2)) ∧ Aside0 (kq ≤ k) ∧ Aside0 (wc.heap[gb26]? = some (.cells #[.int .i64 a2_0, (.slice A2_1 l2_1.length c2_1), (.slice A2_2 l2_2.length c2_2)] 34 (0, 0))) ∧ Aside0 (Below w.heap.size w wc))
 case first =>
  have H := HC4.out; clear HC4; replace H := zAF H; obtain ⟨t22, A60, H⟩ := H; replace H : (if t22 = true then ((impl_isUse.f a2_0).bind fun t23 => (if t23 = true then ((impl_isSign.f k a1 l2_1).bind fun t24 => (if t24 = true then ((impl_areDigests.f k l2_2 3).bind fun t25 => (impl_CheckSeal.j0 k a0 a1 (!t25) a2_0 l2_1 l2_2)) else (impl_CheckSeal.j0 k a0 a1 true a2_0 l2_1 l2_2))) else (impl_CheckSeal.j0 k a0 a1 true a2_0 l2_1 l2_2))) else (impl_CheckSeal.j0 k a0 a1 true a2_0 l2_1 l2_2)) = some (r1, r2) := H; have A6 := zA A60; clear A60
  by_cases c7 : t22 = true
  ·subst c7
   have H1 : ((impl_isUse.f a2_0).bind fun t23 => (if t23 = true then ((impl_isSign.f k a1 l2_1).bind fun t24 => (if t24 = true then ((impl_areDigests.f k l2_2 3).bind fun t25 => (impl_CheckSeal.j0 k a0 a1 (!t25) a2_0 l2_1 l2_2)) else (impl_CheckSeal.j0 k a0 a1 true a2_0 l2_1 l2_2))) else (impl_CheckSeal.j0 k a0 a1 true a2_0 l2_1 l2_2))) = some (r1, r2) := by rw [if_pos rfl] at H; exact H
   clear H; have H := H1; clear H1; replace H := zAF H; obtain ⟨t23, A80, H⟩ := H; replace H : (if t23 = true then ((impl_isSign.f k a1 l2_1).bind fun t24 => (if t24 = true then ((impl_areDigests.f k l2_2 3).bind fun t25 => (impl_CheckSeal.j0 k a0 a1 (!t25) a2_0 l2_1 l2_2)) else (impl_CheckSeal.j0 k a0 a1 true a2_0 l2_1 l2_2))) else (impl_CheckSeal.j0 k a0 a1 true a2_0 l2_1 l2_2)) = some (r1, r2) := H; have A8 := zA A80; clear A80
   by_cases c9 : t23 = true
   ·subst c9
    have H1 : ((impl_isSign.f k a1 l2_1).bind fun t24 => (if t24 = true then ((impl_areDigests.f k l2_2 3).bind fun t25 => (impl_CheckSeal.j0 k a0 a1 (!t25) a2_0 l2_1 l2_2)) else (impl_CheckSeal.j0 k a0 a1 true a2_0 l2_1 l2_2))) = some (r1, r2) := by rw [if_pos rfl] at H; exact H
    clear H; have H := H1; clear H1; replace H := zAF H; obtain ⟨t24, A27, H⟩ := H; replace H : (if t24 = true then ((impl_areDigests.f k l2_2 3).bind fun t25 => (impl_CheckSeal.j0 k a0 a1 (!t25) a2_0 l2_1 l2_2)) else (impl_CheckSeal.j0 k a0 a1 true a2_0 l2_1 l2_2)) = some (r1, r2) := H; have A10 := zA A27; clear A27
    by_cases c11 : t24 = true
    ·subst c11
     have H1 : ((impl_areDigests.f k l2_2 3).bind fun t25 => (impl_CheckSeal.j0 k a0 a1 (!t25) a2_0 l2_1 l2_2)) = some (r1, r2) := by rw [if_pos rfl] at H; exact H
     clear H; have H := H1; clear H1; replace H := zAF H; obtain ⟨t25, A28, H⟩ := H; replace H : (impl_CheckSeal.j0 k a0 a1 (!t25) a2_0 l2_1 l2_2) = some (r1, r2) := H; have A12 := zA A28; clear A28; have H' := zA H; clear H; go_wp2_with (first | ((with_reducible refine yB (f := 54) rfl ?_); refine goesL_ (some 9) rfl rfl Tryz.func54 (by kernel_rfl) rfl #[.string a0] rfl (by (try simp only [zAA, zAB, zAC]); first | done | rfl) ?_; (with_reducible refine (impl_isDigest.calls a0 true _ A6.out).mono ?_); rintro e w' ⟨rfl, ⟨nd, rfl⟩⟩; refine ⟨_, rfl, ?_⟩; have hcz13_0 := yL BK26.out 0 (.int .i64 a2_0) rfl; have hcz13_1 := yL BK26.out 1 (.slice A2_1 l2_1.length c2_1) rfl; have hcz13_2 := yL BK26.out 2 (.slice A2_2 l2_2.length c2_2) rfl; have hfz13_0 := zO BK26.out 0; have hfz13_1 := zO BK26.out 1; have hfz13_2 := zO BK26.out 2) | (go_at_call 55; (with_reducible refine (impl_isUse.calls a2_0 true _ A8.out).mono ?_); rintro e w' ⟨rfl, ⟨nd, rfl⟩⟩) | (go_at_call 56; (with_reducible refine (impl_isSign.calls k a1 _ _ l2_1 true _ ?side1 ?side2 A10.out).mono ?_); (case side1 => repeat (first | exact (yN HR2_1.out (by repeat (first | (with_reducible first | exact HB.out | apply zH | apply zF | apply zG | refine zI ?_ GE26.out) | exact HB.out))) | (with_reducible first | refine zT ?_ _ | refine zU ?_ _ | refine zV ?_))); (case side2 => exact HC2_1.out); rintro e w' ⟨rfl, ⟨nd, rfl⟩⟩) | (go_at_call 57; (with_reducible refine (impl_areDigests.calls k _ _ l2_2 3 t25 _ ?side1 ?side2 A12.out).mono ?_); (case side1 => repeat (first | exact (yN HR2_2.out (by repeat (first | (with_reducible first | exact HB.out | apply zH | apply zF | apply zG | refine zI ?_ GE26.out) | exact HB.out))) | (with_reducible first | refine zT ?_ _ | refine zU ?_ _ | refine zV ?_))); (case side2 => exact HC2_2.out); rintro e w' ⟨rfl, ⟨nd, rfl⟩⟩)); go_meet
     case rel => exact ⟨_, (!t25), (by first | rfl | (simp; done) | (simp [*]; done) | (simp [bne]; done)), H', ⟨by first | omega | exact Nat.le_refl _⟩, ⟨by (with_reducible repeat (first | refine zL ?_ _ | refine zN ?_ | refine zM ?_ _)); exact BK26.out⟩, ⟨by repeat (first | (with_reducible first | exact HB.out | apply zH | apply zF | apply zG | refine zI ?_ GE26.out) | exact HB.out)⟩⟩
    ·replace c11 := yO c11
     subst c11; have H1 : (impl_CheckSeal.j0 k a0 a1 true a2_0 l2_1 l2_2) = some (r1, r2) := by rw [if_neg (show ¬ (false = true) by decide)] at H; exact H
     clear H; have H := H1; clear H1; have H' := zA H; clear H; go_wp2_with (first | ((with_reducible refine yB (f := 54) rfl ?_); refine goesL_ (some 9) rfl rfl Tryz.func54 (by kernel_rfl) rfl #[.string a0] rfl (by (try simp only [zAA, zAB, zAC]); first | done | rfl) ?_; (with_reducible refine (impl_isDigest.calls a0 true _ A6.out).mono ?_); rintro e w' ⟨rfl, ⟨nd, rfl⟩⟩; refine ⟨_, rfl, ?_⟩; have hcz14_0 := yL BK26.out 0 (.int .i64 a2_0) rfl; have hcz14_1 := yL BK26.out 1 (.slice A2_1 l2_1.length c2_1) rfl; have hcz14_2 := yL BK26.out 2 (.slice A2_2 l2_2.length c2_2) rfl; have hfz14_0 := zO BK26.out 0; have hfz14_1 := zO BK26.out 1; have hfz14_2 := zO BK26.out 2) | (go_at_call 55; (with_reducible refine (impl_isUse.calls a2_0 true _ A8.out).mono ?_); rintro e w' ⟨rfl, ⟨nd, rfl⟩⟩) | (go_at_call 56; (with_reducible refine (impl_isSign.calls k a1 _ _ l2_1 false _ ?side1 ?side2 A10.out).mono ?_); (case side1 => repeat (first | exact (yN HR2_1.out (by repeat (first | (with_reducible first | exact HB.out | apply zH | apply zF | apply zG | refine zI ?_ GE26.out) | exact HB.out))) | (with_reducible first | refine zT ?_ _ | refine zU ?_ _ | refine zV ?_))); (case side2 => exact HC2_1.out); rintro e w' ⟨rfl, ⟨nd, rfl⟩⟩)); go_meet
     case rel => exact ⟨_, (true), (by first | rfl | (simp; done) | (simp [*]; done) | (simp [bne]; done)), H', ⟨by first | omega | exact Nat.le_refl _⟩, ⟨by (with_reducible repeat (first | refine zL ?_ _ | refine zN ?_ | refine zM ?_ _)); exact BK26.out⟩, ⟨by repeat (first | (with_reducible first | exact HB.out | apply zH | apply zF | apply zG | refine zI ?_ GE26.out) | exact HB.out)⟩⟩
   ·replace c9 := yO c9
    subst c9; have H1 : (impl_CheckSeal.j0 k a0 a1 true a2_0 l2_1 l2_2) = some (r1, r2) := by rw [if_neg (show ¬ (false = true) by decide)] at H; exact H
    clear H; have H := H1; clear H1; have H' := zA H; clear H; go_wp2_with (first | ((with_reducible refine yB (f := 54) rfl ?_); refine goesL_ (some 9) rfl rfl Tryz.func54 (by kernel_rfl) rfl #[.string a0] rfl (by (try simp only [zAA, zAB, zAC]); first | done | rfl) ?_; (with_reducible refine (impl_isDigest.calls a0 true _ A6.out).mono ?_); rintro e w' ⟨rfl, ⟨nd, rfl⟩⟩; refine ⟨_, rfl, ?_⟩; have hcz15_0 := yL BK26.out 0 (.int .i64 a2_0) rfl; have hcz15_1 := yL BK26.out 1 (.slice A2_1 l2_1.length c2_1) rfl; have hcz15_2 := yL BK26.out 2 (.slice A2_2 l2_2.length c2_2) rfl; have hfz15_0 := zO BK26.out 0; have hfz15_1 := zO BK26.out 1; have hfz15_2 := zO BK26.out 2) | (go_at_call 55; (with_reducible refine (impl_isUse.calls a2_0 false _ A8.out).mono ?_); rintro e w' ⟨rfl, ⟨nd, rfl⟩⟩)); go_meet
    case rel => exact ⟨_, (true), (by first | rfl | (simp; done) | (simp [*]; done) | (simp [bne]; done)), H', ⟨by first | omega | exact Nat.le_refl _⟩, ⟨by (with_reducible repeat (first | refine zL ?_ _ | refine zN ?_ | refine zM ?_ _)); exact BK26.out⟩, ⟨by repeat (first | (with_reducible first | exact HB.out | apply zH | apply zF | apply zG | refine zI ?_ GE26.out) | exact HB.out)⟩⟩
  ·replace c7 := yO c7
   subst c7; have H1 : (impl_CheckSeal.j0 k a0 a1 true a2_0 l2_1 l2_2) = some (r1, r2) := by rw [if_neg (show ¬ (false = true) by decide)] at H; exact H
   clear H; have H := H1; clear H1; have H' := zA H; clear H; go_wp2_with (first | ((with_reducible refine yB (f := 54) rfl ?_); refine goesL_ (some 9) rfl rfl Tryz.func54 (by kernel_rfl) rfl #[.string a0] rfl (by (try simp only [zAA, zAB, zAC]); first | done | rfl) ?_; (with_reducible refine (impl_isDigest.calls a0 false _ A6.out).mono ?_); rintro e w' ⟨rfl, ⟨nd, rfl⟩⟩; refine ⟨_, rfl, ?_⟩)); go_meet
   case rel => exact ⟨_, (true), (by first | rfl | (simp; done) | (simp [*]; done) | (simp [bne]; done)), H', ⟨by first | omega | exact Nat.le_refl _⟩, ⟨by (with_reducible repeat (first | refine zL ?_ _ | refine zN ?_ | refine zM ?_ _)); exact BK26.out⟩, ⟨by repeat (first | (with_reducible first | exact HB.out | apply zH | apply zF | apply zG | refine zI ?_ GE26.out) | exact HB.out)⟩⟩
 case rest =>
  clear HC4
  try clear c1
  try clear c2
  try clear p2
  try clear c5
  try clear c7
  try clear c9
  try clear c11
  try clear hcz13_0
  try clear hcz13_1
  try clear hcz13_2
  try clear hcz14_0
  try clear hcz14_1
  try clear hcz14_2
  try clear hcz15_0
  try clear hcz15_1
  try clear hcz15_2
  try clear hfz13_0
  try clear hfz13_1
  try clear hfz13_2
  try clear hfz14_0
  try clear hfz14_1
  try clear hfz14_2
  try clear hfz15_0
  try clear hfz15_1
  try clear hfz15_2
  obtain ⟨kq, x29_3, rfl, HA, HJ3, BK26, HB⟩ := hcut
  cases kq with
  | zero => exact absurd HA.out (by simp [impl_CheckSeal.j0])
  | succ kj3 =>
   have H := HA.out; clear HA; simp only [impl_CheckSeal.j0] at H
   by_cases c16 : x29_3 = true
   ·subst c16
    have H1 : (some (false, false)) = some (r1, r2) := by rw [if_pos rfl] at H; exact H
    clear H; have H := H1; clear H1; simp only [Option.some.injEq, Prod.mk.injEq] at H; obtain ⟨rfl, rfl⟩ := H; go_wp2; go_ret2; exact ⟨by first | rfl | (simp <;> rfl) | (simp [*] <;> rfl), by repeat (first | (with_reducible first | exact HB.out | apply zH | apply zF | apply zG | refine zI ?_ GE26.out) | exact HB.out)⟩
   ·replace c16 := yO c16
    subst c16; have H1 : ((impl_publicFrom.f kj3 a1 l2_1).bind fun t30 => ((impl_topFrom.f kj3 a2_0 t30 l2_2).bind fun t31 => (some ((t31.toList == a0.toList), true)))) = some (r1, r2) := by rw [if_neg (show ¬ (false = true) by decide)] at H; exact H
    clear H; have H := H1; clear H1; replace H := zAF H; obtain ⟨t30, A33, H⟩ := H; replace H : ((impl_topFrom.f kj3 a2_0 t30 l2_2).bind fun t31 => (some ((t31.toList == a0.toList), true))) = some (r1, r2) := H; have A17 := zA A33; clear A33; replace H := zAF H; obtain ⟨t31, A35, H⟩ := H; replace H : (some ((t31.toList == a0.toList), true)) = some (r1, r2) := H; have A18 := zA A35; clear A35; simp only [Option.some.injEq, Prod.mk.injEq] at H; obtain ⟨rfl, rfl⟩ := H
    try go_wp2
    have n0_ := zA (zN BK26.out); have n1_ := zA (zG HB.out); clear BK26 HB; have BK26 := n0_; have HB := n1_; clear n0_ n1_; refine start_ (n := 13) (S := fun w' => w'.cell? ⟨gb26, 0, none⟩ = some (.int .i64 a2_0) ∧ w'.cell? ⟨gb26, 1, none⟩ = some (.slice A2_1 l2_1.length c2_1) ∧ w'.cell? ⟨gb26, 2, none⟩ = some (.slice A2_2 l2_2.length c2_2)) (ds := []) #[false, false, false, false, false, false, false, false, false, false, false, false, false] (by kernel_rfl) rfl rfl ⟨(zP BK26.out 0).trans rfl, (zP BK26.out 1).trans rfl, (zP BK26.out 2).trans rfl⟩ (fun hHeld => ?_); refine with_tabW impl_CheckSeal.tab3 impl_CheckSeal.bits3 (fun HT_ HW_ => ?_); generalize wc.drew = w19 at BK26 HB hHeld ⊢; refine pure_ (i := 0) (N := some 30) (v := ?_) (a' := ?_) #[true, false, false, false, false, false, false, false, false, false, false, false, false] rfl rfl (any_of HT_.out (by kernel_rfl)) (fun _ _ _ h => h) (Or.inl ⟨by rfl, ?_⟩) ?_ ?_; rotate_left
    ·intro w'
     go_simp
     with_reducible rfl
    rotate_left
    ·simp only [Act.put, zC, zD, zE, i64_w]
     rfl
    refine pure_ (i := 2) (N := some 32) (v := ?_) (a' := ?_) #[true, false, true, false, false, false, false, false, false, false, false, false, false] rfl rfl (any_of HT_.out (by kernel_rfl)) (fun _ _ _ h => h) (Or.inl ⟨by rfl, ?_⟩) ?_ ?_; rotate_left
    ·intro w'
     go_simp
     with_reducible rfl
    rotate_left
    ·simp only [Act.put, zC, zD, zE, i64_w]
     rfl
    refine pure_ (i := 3) (N := some 33) (v := ?_) (a' := ?_) #[true, false, true, true, false, false, false, false, false, false, false, false, false] rfl rfl (any_of HT_.out (by kernel_rfl)) (fun _ _ _ h => h) (Or.inl ⟨by rfl, ?_⟩) ?_ ?_; rotate_left
    ·intro w'
     go_simp
     with_reducible rfl
    rotate_left
    ·simp only [Act.put, zC, zD, zE, i64_w]
     rfl
    refine pure_ (i := 6) (N := some 36) (v := ?_) (a' := ?_) #[true, false, true, true, false, false, true, false, false, false, false, false, false] rfl rfl (any_of HT_.out (by kernel_rfl)) (fun _ _ _ h => h) (Or.inl ⟨by rfl, ?_⟩) ?_ ?_; rotate_left
    ·intro w'
     go_simp
     with_reducible rfl
    rotate_left
    ·simp only [Act.put, zC, zD, zE, i64_w]
     rfl
    refine pure_ (i := 9) (N := some 39) (v := ?_) (a' := ?_) #[true, false, true, true, false, false, true, false, false, true, false, false, false] rfl rfl (any_of HT_.out (by kernel_rfl)) (fun _ _ _ h => h) (Or.inl ⟨by rfl, ?_⟩) ?_ ?_; rotate_left
    ·intro w'
     go_simp
     with_reducible rfl
    rotate_left
    ·simp only [Act.put, zC, zD, zE, i64_w]
     rfl
    refine take_ (i := 1) (N := some 31) (v := ?_) (a' := ?_) #[true, true, true, true, false, false, true, false, false, true, false, false, false] rfl rfl (take_ofW HT_.out HW_.out (by kernel_rfl)) (fun _ _ _ h => h) (Or.inl ⟨by rfl, ?_⟩) hHeld ?_ ?_; rotate_left
    ·rintro w' ⟨s0, s1, s2⟩
     go_simp
     with_reducible rfl
    rotate_left
    ·simp only [Act.put, zC, zD, zE, i64_w]
     rfl
    refine take_ (i := 4) (N := some 34) (v := ?_) (a' := ?_) #[true, true, true, true, true, false, true, false, false, true, false, false, false] rfl rfl (take_ofW HT_.out HW_.out (by kernel_rfl)) (fun _ _ _ h => h) (Or.inl ⟨by rfl, ?_⟩) hHeld ?_ ?_; rotate_left
    ·rintro w' ⟨s0, s1, s2⟩
     go_simp
     with_reducible rfl
    rotate_left
    ·simp only [Act.put, zC, zD, zE, i64_w]
     rfl
    refine take_ (i := 7) (N := some 37) (v := ?_) (a' := ?_) #[true, true, true, true, true, false, true, true, false, true, false, false, false] rfl rfl (take_ofW HT_.out HW_.out (by kernel_rfl)) (fun _ _ _ h => h) (Or.inl ⟨by rfl, ?_⟩) hHeld ?_ ?_; rotate_left
    ·rintro w' ⟨s0, s1, s2⟩
     go_simp
     with_reducible rfl
    rotate_left
    ·simp only [Act.put, zC, zD, zE, i64_w]
     rfl
    refine one_ (i := 5) (N := some 35) #[true, true, true, true, true, true, true, true, false, true, false, false, false] rfl rfl (one_of HT_.out (by kernel_rfl)) (by decide) (fun K hK => ?_); refine goes_ Tryz.func59 (by kernel_rfl) rfl #[.string a1, .slice A2_1 l2_1.length c2_1] (by rfl) rfl rfl (by (try simp only [zAA, zAB, zAC]); first | done | rfl | (simp only [zZ, zY]; rfl)) ?_
    with_reducible refine (impl_publicFrom.calls kj3 a1 _ _ l2_1 t30 _ ?side1 ?side2 A17.out).mono ?_
    (case side1 => repeat (first | exact (yN HR2_1.out HB.out) | (with_reducible first | refine zT ?_ _ | refine zU ?_ _ | refine zV ?_))); (case side2 => exact HC2_1.out); rintro e w20 ⟨rfl, hb⟩; refine ⟨_, rfl, ?_⟩; have n0_ := zA (yE (g := gb26) (o := .cells #[.int .i64 a2_0, .slice A2_1 l2_1.length c2_1, .slice A2_2 l2_2.length c2_2] 34 (0, 0)) (by (with_reducible repeat (first | refine zL ?_ _ | refine zN ?_ | refine zM ?_ _)); exact BK26.out) hb); have n1_ := zA (zAD (by repeat (first | (with_reducible first | exact HB.out | apply zH | apply zF | apply zG | refine zI ?_ GE26.out) | exact HB.out)) hb); clear BK26 HB; have BK26 := n0_; have HB := n1_; clear n0_ n1_; (try clear hb); refine hK.out _ _ ⟨(zP BK26.out 0).trans rfl, (zP BK26.out 1).trans rfl, (zP BK26.out 2).trans rfl⟩ (fun hHeld => ?_); clear hK K; refine norm_ (a' := ?_) ?_ ?_; rotate_left
    ·show Act.put _ (some 35) _ = _
     simp only [Act.put, zC, zD, zE, i64_w]; rfl
    refine one_ (i := 8) (N := some 38) #[true, true, true, true, true, true, true, true, true, true, false, false, false] rfl rfl (one_of HT_.out (by kernel_rfl)) (by decide) (fun K hK => ?_); refine goes_ Tryz.func58 (by kernel_rfl) rfl #[.int .i64 a2_0, .string t30, .slice A2_2 l2_2.length c2_2] (by rfl) rfl rfl (by (try simp only [zAA, zAB, zAC]); first | done | rfl | (simp only [zZ, zY]; rfl)) ?_
    with_reducible refine (impl_topFrom.calls kj3 a2_0 t30 _ _ l2_2 t31 _ ?side1 ?side2 A18.out).mono ?_
    (case side1 => repeat (first | exact (yN HR2_2.out HB.out) | (with_reducible first | refine zT ?_ _ | refine zU ?_ _ | refine zV ?_))); (case side2 => exact HC2_2.out); rintro e w21 ⟨rfl, hb⟩; refine ⟨_, rfl, ?_⟩; have n0_ := zA (yE (g := gb26) (o := .cells #[.int .i64 a2_0, .slice A2_1 l2_1.length c2_1, .slice A2_2 l2_2.length c2_2] 34 (0, 0)) (by (with_reducible repeat (first | refine zL ?_ _ | refine zN ?_ | refine zM ?_ _)); exact BK26.out) hb); have n1_ := zA (zAD (by repeat (first | (with_reducible first | exact HB.out | apply zH | apply zF | apply zG | refine zI ?_ GE26.out) | exact HB.out)) hb); clear BK26 HB; have BK26 := n0_; have HB := n1_; clear n0_ n1_; (try clear hb); refine hK.out _ _ ⟨(zP BK26.out 0).trans rfl, (zP BK26.out 1).trans rfl, (zP BK26.out 2).trans rfl⟩ (fun hHeld => ?_); clear hK K; refine norm_ (a' := ?_) ?_ ?_; rotate_left
    ·show Act.put _ (some 38) _ = _
     simp only [Act.put, zC, zD, zE, i64_w]; rfl
    refine pure_ (i := 10) (N := some 40) (v := ?_) (a' := ?_) #[true, true, true, true, true, true, true, true, true, true, true, false, false] rfl rfl (any_of HT_.out (by kernel_rfl)) (fun _ _ _ h => h) (Or.inl ⟨by rfl, ?_⟩) ?_ ?_; rotate_left
    ·intro w'
     go_simp
     with_reducible rfl
    rotate_left
    ·simp only [Act.put, zC, zD, zE, i64_w]
     rfl
    refine pure_ (i := 11) (N := some 6) (v := ?_) (a' := ?_) #[true, true, true, true, true, true, true, true, true, true, true, true, false] rfl rfl (any_of HT_.out (by kernel_rfl)) (fun _ _ _ h => h) (Or.inl ⟨by rfl, ?_⟩) ?_ ?_; rotate_left
    ·intro w'
     go_simp
     with_reducible rfl
    rotate_left
    ·simp only [Act.put, zC, zD, zE, i64_w]
     rfl
    refine pure_ (i := 12) (N := some 7) (v := ?_) (a' := ?_) #[true, true, true, true, true, true, true, true, true, true, true, true, true] rfl rfl (any_of HT_.out (by kernel_rfl)) (fun _ _ _ h => h) (Or.inl ⟨by rfl, ?_⟩) ?_ ?_; rotate_left
    ·intro w'
     go_simp
     with_reducible rfl
    rotate_left
    ·simp only [Act.put, zC, zD, zE, i64_w]
     rfl
    refine done_ (done_of HT_.out (by kernel_rfl)) ?_
    try go_wp2
    go_ret2; exact ⟨by first | rfl | (simp <;> rfl) | (simp [*] <;> rfl), by repeat (first | (with_reducible first | exact HB.out | apply zH | apply zF | apply zG | refine zI ?_ GE26.out) | exact HB.out)⟩
def impl_isKey.f (a0 : ByteArray) : Option (Bool) := (impl_within.f (a0.size : Int) 1 12).bind fun t10 => (some t10)
theorem impl_isKey.calls (a0 : ByteArray) (r : Bool) (w : World) (h : impl_isKey.f a0 = some r) :
  Calls Tryz.prog 60 #[.string a0] w fun e w' => e = .returned (.bool r) ∧ Drawn0 w w' := by
 have H : ((impl_within.f (a0.size : Int) 1 12).bind fun t10 => (some t10)) = some r := h; clear h; replace H := zAF H; obtain ⟨t10, A20, H⟩ := H; replace H : (some t10) = some r := H; have A2 := zA A20; clear A20; obtain rfl := yM H; go_enter Tryz.func60, Tryz.ntmps60; go_wp2_with (first | ((with_reducible refine yB (f := 51) rfl ?_); refine goesL_ (some 5) rfl rfl Tryz.func51 (by kernel_rfl) rfl #[.int .i64 (a0.size : Int), .int .i64 1, .int .i64 12] rfl (by (try simp only [zAA, zAB, zAC]); first | done | rfl) ?_; (with_reducible refine (impl_within.calls (a0.size : Int) 1 12 t10 _ A2.out).mono ?_); rintro e w' ⟨rfl, ⟨nd, rfl⟩⟩; refine ⟨_, rfl, ?_⟩)); go_ret; exact ⟨by first | rfl | (simp; done) | (simp [*]; done) | (simp [bne]; done), by repeat (first | exact Drawn0.refl _ | apply Drawn0.step)⟩
def impl_areRising.l0 : Nat → List ByteArray → List ByteArray → Int → Int → Option (Bool)
 | 0, _, _, _, _ => none
 | k + 1, x0, x5, x6, x7 => if x7 < x6 then (if 0 ≤ x7 then (if x7 < (x5.length : Int) then ((impl_isKey.f (rdOf ByteArray.empty x5 x7)).bind fun t10 => (if t10 = true then (if x7 > 0 then (if 0 ≤ (wrap64 (x7 - 1)) then (if (wrap64 (x7 - 1)) < (x0.length : Int) then (if ((Op.bytesLess ((rdOf ByteArray.empty x0 (wrap64 (x7 - 1))).toList) ((rdOf ByteArray.empty x5 x7).toList)) = true) then (impl_areRising.l0 k x0 x5 x6 (wrap64 (x7 + 1))) else (some false)) else (none)) else (none)) else (impl_areRising.l0 k x0 x5 x6 (wrap64 (x7 + 1)))) else (some false))) else (none)) else (none)) else (some true)
def impl_areRising.f (k : Nat) (l0 : List ByteArray) : Option (Bool) := impl_areRising.l0 k l0 l0 (l0.length : Int) 0
theorem impl_areRising.calls (k : Nat) (A0 : Option Addr) (c0 : Nat) (l0 : List ByteArray) (r : Bool) (w : World) (hr0 : Kd.C Kd.string w A0 l0.length l0) (hc0 : l0.length ≤ c0) (h : impl_areRising.f k l0 = some r) :
  Calls Tryz.prog 128 #[.slice A0 l0.length c0] w fun e w' => e = .returned (.bool r) ∧ Drawn0 w w' := by
 have HR0 := zA hr0; have HC0 := zA hc0; clear hr0 hc0; have H : (impl_areRising.l0 k l0 l0 (l0.length : Int) 0) = some r := h; clear h; have H' := zA H; clear H; go_enter Tryz.func128, Tryz.ntmps128; go_wp2; go_loopg [7] k (fun kq v7 w' => ∃ (x7_1 : Int), v7 = .int .i64 x7_1 ∧ Aside0 (impl_areRising.l0 kq l0 l0 (l0.length : Int) x7_1 = some r) ∧ Aside0 (kq ≤ k) ∧ Drawn0 w w')
 case atStart => exact ⟨(0), (by first | rfl | (simp; done) | (simp [*]; done) | (simp [bne]; done)), H', ⟨Nat.le_refl _⟩, by repeat (first | exact Drawn0.refl _ | apply Drawn0.step)⟩
 case round =>
  clear H'
  try clear c1
  obtain ⟨x7_1, rfl, HA, HK1, ⟨m1, rfl⟩⟩ := hrel
  cases gk with
  | zero => exact absurd HA.out (by simp [impl_areRising.l0])
  | succ k1 =>
   have H := HA.out; clear HA; simp only [impl_areRising.l0] at H
   by_cases c2 : x7_1 < (l0.length : Int)
   ·rw [if_pos c2] at H
    have c2b0 : decide (x7_1 < (l0.length : Int)) = true := zX c2; clear c2
    by_cases c3 : 0 ≤ x7_1
    ·rw [if_pos c3] at H
     have c3b0 : decide (0 ≤ x7_1) = true := zX c3; clear c3
     by_cases c4 : x7_1 < (l0.length : Int)
     ·rw [if_pos c4] at H
      have c4b0 : decide (x7_1 < (l0.length : Int)) = true := zX c4; clear c4; replace H := zAF H; obtain ⟨t12, A50, H⟩ := H; replace H : (if t12 = true then (if x7_1 > 0 then (if 0 ≤ (wrap64 (x7_1 - 1)) then (if (wrap64 (x7_1 - 1)) < (l0.length : Int) then (if ((Op.bytesLess ((rdOf ByteArray.empty l0 (wrap64 (x7_1 - 1))).toList) ((rdOf ByteArray.empty l0 x7_1).toList)) = true) then (impl_areRising.l0 k1 l0 l0 (l0.length : Int) (wrap64 (x7_1 + 1))) else (some false)) else (none)) else (none)) else (impl_areRising.l0 k1 l0 l0 (l0.length : Int) (wrap64 (x7_1 + 1)))) else (some false)) = some r := H; have A5 := zA A50; clear A50
      by_cases c6 : t12 = true
      ·subst c6
       have H1 : (if x7_1 > 0 then (if 0 ≤ (wrap64 (x7_1 - 1)) then (if (wrap64 (x7_1 - 1)) < (l0.length : Int) then (if ((Op.bytesLess ((rdOf ByteArray.empty l0 (wrap64 (x7_1 - 1))).toList) ((rdOf ByteArray.empty l0 x7_1).toList)) = true) then (impl_areRising.l0 k1 l0 l0 (l0.length : Int) (wrap64 (x7_1 + 1))) else (some false)) else (none)) else (none)) else (impl_areRising.l0 k1 l0 l0 (l0.length : Int) (wrap64 (x7_1 + 1)))) = some r := by rw [if_pos rfl] at H; exact H
       clear H; have H := H1; clear H1
       by_cases c7 : x7_1 > 0
       ·rw [if_pos c7] at H
        have c7b0 : decide (0 < x7_1) = true := zX c7; clear c7; obtain ⟨ji8, hji8⟩ : ∃ j_ : Int, (wrap64 (x7_1 - 1)) = j_ := ⟨_, rfl⟩; replace H : (if 0 ≤ (ji8) then (if (ji8) < (l0.length : Int) then (if ((Op.bytesLess ((rdOf ByteArray.empty l0 (ji8)).toList) ((rdOf ByteArray.empty l0 x7_1).toList)) = true) then (impl_areRising.l0 k1 l0 l0 (l0.length : Int) (wrap64 (x7_1 + 1))) else (some false)) else (none)) else (none)) = some r := by first | (rw [hji8] at H; exact H) | (simp only [hji8] at H ⊢; exact H)
        (try rw [hji8] at A5); have hji8w : (IntKind.i64.wrap (x7_1 - 1)) = ji8 := (i64_w _).trans hji8
        by_cases c9 : 0 ≤ (ji8)
        ·rw [if_pos c9] at H
         have c9b0 : decide (0 ≤ (ji8)) = true := zX c9; clear c9
         by_cases c10 : (ji8) < (l0.length : Int)
         ·rw [if_pos c10] at H
          have c10b0 : decide ((ji8) < (l0.length : Int)) = true := zX c10; clear c10
          by_cases c11 : ((Op.bytesLess ((rdOf ByteArray.empty l0 (ji8)).toList) ((rdOf ByteArray.empty l0 x7_1).toList)) = true)
          ·rw [if_pos c11] at H
           have c11b0 : (Op.bytesLess ((rdOf ByteArray.empty l0 (ji8)).toList) ((rdOf ByteArray.empty l0 x7_1).toList)) = true := c11; clear c11; have H' := zA H; clear H; have p13 : 0 ≤ (x7_1 : Int) := zW (by first | (with_reducible assumption) | assumption); have q13 : x7_1 < (l0.length : Int) := zW (by first | (with_reducible assumption) | assumption); obtain ⟨ad13, e13, hx13_0⟩ := Kd.at_string HR0.out x7_1 p13 q13
           cases e13
           replace p13 := eq_true p13; replace q13 := eq_true q13; go_wp2_with (first | ((with_reducible refine yB (f := 60) rfl ?_); refine goesL_ (some 13) rfl rfl Tryz.func60 (by kernel_rfl) rfl #[.string (rdOf ByteArray.empty l0 x7_1)] rfl (by (try simp only [zAA, zAB, zAC]); first | done | rfl) ?_; (with_reducible refine (impl_isKey.calls (rdOf ByteArray.empty l0 x7_1) true _ A5.out).mono ?_); rintro e w' ⟨rfl, ⟨nd, rfl⟩⟩; refine ⟨_, rfl, ?_⟩; have p14 : 0 ≤ ((ji8) : Int) := zW (by first | (with_reducible assumption) | assumption); have q14 : (ji8) < (l0.length : Int) := zW (by first | (with_reducible assumption) | assumption); obtain ⟨ad14, e14, hx14_0⟩ := Kd.at_string HR0.out (ji8) p14 q14; obtain rfl : ad13 = ad14 := (by injection e14); replace p14 := eq_true p14; replace q14 := eq_true q14)); go_roundg k1
           case measure => have := HK1.out; omega
           case rel => exact ⟨(wrap64 (x7_1 + 1)), (by first | rfl | (simp; done) | (simp [*]; done) | (simp [bne]; done)), H', ⟨by have := HK1.out; omega⟩, by repeat (first | exact Drawn0.refl _ | apply Drawn0.step)⟩
          ·rw [if_neg c11] at H
           have c11b0 : (Op.bytesLess ((rdOf ByteArray.empty l0 (ji8)).toList) ((rdOf ByteArray.empty l0 x7_1).toList)) = false := by simpa using c11
           clear c11; obtain rfl := yM H; have p13 : 0 ≤ (x7_1 : Int) := zW (by first | (with_reducible assumption) | assumption); have q13 : x7_1 < (l0.length : Int) := zW (by first | (with_reducible assumption) | assumption); obtain ⟨ad13, e13, hx13_0⟩ := Kd.at_string HR0.out x7_1 p13 q13
           cases e13
           replace p13 := eq_true p13; replace q13 := eq_true q13; go_wp2_with (first | ((with_reducible refine yB (f := 60) rfl ?_); refine goesL_ (some 13) rfl rfl Tryz.func60 (by kernel_rfl) rfl #[.string (rdOf ByteArray.empty l0 x7_1)] rfl (by (try simp only [zAA, zAB, zAC]); first | done | rfl) ?_; (with_reducible refine (impl_isKey.calls (rdOf ByteArray.empty l0 x7_1) true _ A5.out).mono ?_); rintro e w' ⟨rfl, ⟨nd, rfl⟩⟩; refine ⟨_, rfl, ?_⟩; have p14 : 0 ≤ ((ji8) : Int) := zW (by first | (with_reducible assumption) | assumption); have q14 : (ji8) < (l0.length : Int) := zW (by first | (with_reducible assumption) | assumption); obtain ⟨ad14, e14, hx14_0⟩ := Kd.at_string HR0.out (ji8) p14 q14; obtain rfl : ad13 = ad14 := (by injection e14); replace p14 := eq_true p14; replace q14 := eq_true q14)); go_ret; exact ⟨by first | rfl | (simp; done) | (simp only [← hji8] <;> (first | rfl | simp)) | (simp [*]; done), by repeat (first | exact Drawn0.refl _ | apply Drawn0.step)⟩
         ·rw [if_neg c10] at H
          exact absurd H (by simp)
        ·rw [if_neg c9] at H
         exact absurd H (by simp)
       ·rw [if_neg c7] at H
        have c7b0 : decide (0 < x7_1) = false := decide_eq_false c7; clear c7; have H' := zA H; clear H; have p13 : 0 ≤ (x7_1 : Int) := zW (by first | (with_reducible assumption) | assumption); have q13 : x7_1 < (l0.length : Int) := zW (by first | (with_reducible assumption) | assumption); obtain ⟨ad13, e13, hx13_0⟩ := Kd.at_string HR0.out x7_1 p13 q13
        cases e13
        replace p13 := eq_true p13; replace q13 := eq_true q13; go_wp2_with (first | ((with_reducible refine yB (f := 60) rfl ?_); refine goesL_ (some 13) rfl rfl Tryz.func60 (by kernel_rfl) rfl #[.string (rdOf ByteArray.empty l0 x7_1)] rfl (by (try simp only [zAA, zAB, zAC]); first | done | rfl) ?_; (with_reducible refine (impl_isKey.calls (rdOf ByteArray.empty l0 x7_1) true _ A5.out).mono ?_); rintro e w' ⟨rfl, ⟨nd, rfl⟩⟩; refine ⟨_, rfl, ?_⟩)); go_roundg k1
        case measure => have := HK1.out; omega
        case rel => exact ⟨(wrap64 (x7_1 + 1)), (by first | rfl | (simp; done) | (simp [*]; done) | (simp [bne]; done)), H', ⟨by have := HK1.out; omega⟩, by repeat (first | exact Drawn0.refl _ | apply Drawn0.step)⟩
      ·replace c6 := yO c6
       subst c6; have H1 : (some false) = some r := by rw [if_neg (show ¬ (false = true) by decide)] at H; exact H
       clear H; have H := H1; clear H1; obtain rfl := yM H; have p13 : 0 ≤ (x7_1 : Int) := zW (by first | (with_reducible assumption) | assumption); have q13 : x7_1 < (l0.length : Int) := zW (by first | (with_reducible assumption) | assumption); obtain ⟨ad13, e13, hx13_0⟩ := Kd.at_string HR0.out x7_1 p13 q13
       cases e13
       replace p13 := eq_true p13; replace q13 := eq_true q13; go_wp2_with (first | ((with_reducible refine yB (f := 60) rfl ?_); refine goesL_ (some 13) rfl rfl Tryz.func60 (by kernel_rfl) rfl #[.string (rdOf ByteArray.empty l0 x7_1)] rfl (by (try simp only [zAA, zAB, zAC]); first | done | rfl) ?_; (with_reducible refine (impl_isKey.calls (rdOf ByteArray.empty l0 x7_1) false _ A5.out).mono ?_); rintro e w' ⟨rfl, ⟨nd, rfl⟩⟩; refine ⟨_, rfl, ?_⟩)); go_ret; exact ⟨by first | rfl | (simp; done) | (simp [*]; done) | (simp [bne]; done), by repeat (first | exact Drawn0.refl _ | apply Drawn0.step)⟩
     ·rw [if_neg c4] at H
      exact absurd H (by simp)
    ·rw [if_neg c3] at H
     exact absurd H (by simp)
   ·rw [if_neg c2] at H
    have c2b0 : decide (x7_1 < (l0.length : Int)) = false := decide_eq_false c2; clear c2; obtain rfl := yM H; go_wp2; go_ret; exact ⟨by first | rfl | (simp; done) | (simp [*]; done) | (simp [bne]; done), by repeat (first | exact Drawn0.refl _ | apply Drawn0.step)⟩
def impl_isVal.f (a0 : ByteArray) : Option (Bool) := some (decide ((a0.size : Int) ≤ 12))
theorem impl_isVal.calls (a0 : ByteArray) (r : Bool) (w : World) (h : impl_isVal.f a0 = some r) :
  Calls Tryz.prog 130 #[.string a0] w fun e w' => e = .returned (.bool r) ∧ Drawn0 w w' := by
 have H : (some (decide ((a0.size : Int) ≤ 12))) = some r := h; clear h; obtain rfl := yM H; go_enter Tryz.func130, Tryz.ntmps130; go_wp2; go_ret; exact ⟨by first | rfl | (simp; done) | (simp [*]; done) | (simp [bne]; done), by repeat (first | exact Drawn0.refl _ | apply Drawn0.step)⟩
def impl_arePairs_1.f (a0 : ByteArray) : Option (Bool) := (impl_isVal.f a0).bind fun t10 => (some (!t10))
theorem impl_arePairs_1.calls (a0 : ByteArray) (r : Bool) (w : World) (h : impl_arePairs_1.f a0 = some r) :
  Calls Tryz.prog 129 #[.string a0] w fun e w' => e = .returned (.bool r) ∧ Drawn0 w w' := by
 have H : ((impl_isVal.f a0).bind fun t10 => (some (!t10))) = some r := h; clear h; replace H := zAF H; obtain ⟨t10, A20, H⟩ := H; replace H : (some (!t10)) = some r := H; have A2 := zA A20; clear A20; obtain rfl := yM H; go_enter Tryz.func129, Tryz.ntmps129; go_wp2_with (first | ((with_reducible refine yB (f := 130) rfl ?_); refine goesL_ (some 4) rfl rfl Tryz.func130 (by kernel_rfl) rfl #[.string a0] rfl (by (try simp only [zAA, zAB, zAC]); first | done | rfl) ?_; (with_reducible refine (impl_isVal.calls a0 t10 _ A2.out).mono ?_); rintro e w' ⟨rfl, ⟨nd, rfl⟩⟩; refine ⟨_, rfl, ?_⟩)); go_ret; exact ⟨by first | rfl | (simp; done) | (simp [*]; done) | (simp [bne]; done), by repeat (first | exact Drawn0.refl _ | apply Drawn0.step)⟩
def slices_IndexFunc_impl_arePairs_1.l0 : Nat → List ByteArray → Int → Int → Option (Int)
 | 0, _, _, _ => none
 | k + 1, x0, x7, x8 => if x8 < x7 then (if 0 ≤ x8 then (if x8 < (x0.length : Int) then ((impl_arePairs_1.f (rdOf ByteArray.empty x0 x8)).bind fun t10 => (if t10 = true then (some x8) else (slices_IndexFunc_impl_arePairs_1.l0 k x0 x7 (wrap64 (x8 + 1))))) else (none)) else (none)) else (some (-1))
def slices_IndexFunc_impl_arePairs_1.f (k : Nat) (l0 : List ByteArray)  : Option (Int) := slices_IndexFunc_impl_arePairs_1.l0 k l0 (l0.length : Int) 0
theorem slices_IndexFunc_impl_arePairs_1.calls (k : Nat) (A0 : Option Addr) (c0 : Nat) (l0 : List ByteArray)  (r : Int) (w : World) (hr0 : Kd.C Kd.string w A0 l0.length l0) (hc0 : l0.length ≤ c0) (h : slices_IndexFunc_impl_arePairs_1.f k l0 = some r) :
  Calls Tryz.prog 121 #[.slice A0 l0.length c0, .func (.func 129) #[] #[]] w fun e w' => e = .returned (.int .i64 r) ∧ Drawn0 w w' := by
 have HR0 := zA hr0; have HC0 := zA hc0; clear hr0 hc0; have H : (slices_IndexFunc_impl_arePairs_1.l0 k l0 (l0.length : Int) 0) = some r := h; clear h; have H' := zA H; clear H; go_enter Tryz.func121, Tryz.ntmps121; go_wp2; go_loopg [8] k (fun kq v8 w' => ∃ (x8_1 : Int), v8 = .int .i64 x8_1 ∧ Aside0 (slices_IndexFunc_impl_arePairs_1.l0 kq l0 (l0.length : Int) x8_1 = some r) ∧ Aside0 (kq ≤ k) ∧ Drawn0 w w')
 case atStart => exact ⟨(0), (by first | rfl | (simp; done) | (simp [*]; done) | (simp [bne]; done)), H', ⟨Nat.le_refl _⟩, by repeat (first | exact Drawn0.refl _ | apply Drawn0.step)⟩
 case round =>
  clear H'
  try clear p2
  obtain ⟨x8_1, rfl, HA, HK1, ⟨m1, rfl⟩⟩ := hrel
  cases gk with
  | zero => exact absurd HA.out (by simp [slices_IndexFunc_impl_arePairs_1.l0])
  | succ k1 =>
   have H := HA.out; clear HA; simp only [slices_IndexFunc_impl_arePairs_1.l0] at H
   by_cases c3 : x8_1 < (l0.length : Int)
   ·rw [if_pos c3] at H
    have c3b0 : decide (x8_1 < (l0.length : Int)) = true := zX c3; clear c3
    by_cases c4 : 0 ≤ x8_1
    ·rw [if_pos c4] at H
     have c4b0 : decide (0 ≤ x8_1) = true := zX c4; clear c4
     by_cases c5 : x8_1 < (l0.length : Int)
     ·rw [if_pos c5] at H
      have c5b0 : decide (x8_1 < (l0.length : Int)) = true := zX c5; clear c5; replace H := zAF H; obtain ⟨t10, A60, H⟩ := H; replace H : (if t10 = true then (some x8_1) else (slices_IndexFunc_impl_arePairs_1.l0 k1 l0 (l0.length : Int) (wrap64 (x8_1 + 1)))) = some r := H; have A6 := zA A60; clear A60
      by_cases c7 : t10 = true
      ·subst c7
       have H1 : (some x8_1) = some r := by rw [if_pos rfl] at H; exact H
       clear H; have H := H1; clear H1; obtain rfl := yM H; have p11 : 0 ≤ (x8_1 : Int) := zW (by first | (with_reducible assumption) | assumption); have q11 : x8_1 < (l0.length : Int) := zW (by first | (with_reducible assumption) | assumption); obtain ⟨ad11, e11, hx11_0⟩ := Kd.at_string HR0.out x8_1 p11 q11
       cases e11
       replace p11 := eq_true p11; replace q11 := eq_true q11; go_wp2_with (first | (go_at_call 129; (with_reducible refine (impl_arePairs_1.calls (rdOf ByteArray.empty l0 x8_1) true _ A6.out).mono ?_); rintro e w' ⟨rfl, ⟨nd, rfl⟩⟩)); go_ret; exact ⟨by first | rfl | (simp; done) | (simp [*]; done) | (simp [bne]; done), by repeat (first | exact Drawn0.refl _ | apply Drawn0.step)⟩
      ·replace c7 := yO c7
       subst c7; have H1 : (slices_IndexFunc_impl_arePairs_1.l0 k1 l0 (l0.length : Int) (wrap64 (x8_1 + 1))) = some r := by rw [if_neg (show ¬ (false = true) by decide)] at H; exact H
       clear H; have H := H1; clear H1; have H' := zA H; clear H; have p11 : 0 ≤ (x8_1 : Int) := zW (by first | (with_reducible assumption) | assumption); have q11 : x8_1 < (l0.length : Int) := zW (by first | (with_reducible assumption) | assumption); obtain ⟨ad11, e11, hx11_0⟩ := Kd.at_string HR0.out x8_1 p11 q11
       cases e11
       replace p11 := eq_true p11; replace q11 := eq_true q11; go_wp2_with (first | (go_at_call 129; (with_reducible refine (impl_arePairs_1.calls (rdOf ByteArray.empty l0 x8_1) false _ A6.out).mono ?_); rintro e w' ⟨rfl, ⟨nd, rfl⟩⟩)); go_roundg k1
       case measure => have := HK1.out; omega
       case rel => exact ⟨(wrap64 (x8_1 + 1)), (by first | rfl | (simp; done) | (simp [*]; done) | (simp [bne]; done)), H', ⟨by have := HK1.out; omega⟩, by repeat (first | exact Drawn0.refl _ | apply Drawn0.step)⟩
     ·rw [if_neg c5] at H
      exact absurd H (by simp)
    ·rw [if_neg c4] at H
     exact absurd H (by simp)
   ·rw [if_neg c3] at H
    have c3b0 : decide (x8_1 < (l0.length : Int)) = false := decide_eq_false c3; clear c3; obtain rfl := yM H; go_wp2; go_ret; exact ⟨by first | rfl | (simp; done) | (simp [*]; done) | (simp [bne]; done), by repeat (first | exact Drawn0.refl _ | apply Drawn0.step)⟩
def slices_ContainsFunc_impl_arePairs_1.f (k : Nat) (l0 : List ByteArray)  : Option (Bool) := (slices_IndexFunc_impl_arePairs_1.f k l0).bind fun t10 => (some (decide (t10 ≥ 0)))
theorem slices_ContainsFunc_impl_arePairs_1.calls (k : Nat) (A0 : Option Addr) (c0 : Nat) (l0 : List ByteArray)  (r : Bool) (w : World) (hr0 : Kd.C Kd.string w A0 l0.length l0) (hc0 : l0.length ≤ c0) (h : slices_ContainsFunc_impl_arePairs_1.f k l0 = some r) :
  Calls Tryz.prog 85 #[.slice A0 l0.length c0, .func (.func 129) #[] #[]] w fun e w' => e = .returned (.bool r) ∧ Drawn0 w w' := by
 have HR0 := zA hr0; have HC0 := zA hc0; clear hr0 hc0; have H : ((slices_IndexFunc_impl_arePairs_1.f k l0).bind fun t10 => (some (decide (t10 ≥ 0)))) = some r := h; clear h; replace H := zAF H; obtain ⟨t10, A30, H⟩ := H; replace H : (some (decide (t10 ≥ 0))) = some r := H; have A3 := zA A30; clear A30; obtain rfl := yM H; go_enter Tryz.func85, Tryz.ntmps85; go_wp2_with (first | ((with_reducible refine yB (f := 121) rfl ?_); refine goesL_ (some 7) rfl rfl Tryz.func121 (by kernel_rfl) rfl #[.slice A0 l0.length c0, .func (.func 129) #[] #[]] rfl (by (try simp only [zAA, zAB, zAC]); first | done | rfl) ?_; (with_reducible refine (slices_IndexFunc_impl_arePairs_1.calls k _ _ l0  t10 _ ?side1 ?side2 A3.out).mono ?_); (case side1 => repeat (first | exact HR0.out | (with_reducible first | refine zT ?_ _ | refine zU ?_ _ | refine zV ?_))); (case side2 => exact HC0.out); rintro e w' ⟨rfl, ⟨nd, rfl⟩⟩; refine ⟨_, rfl, ?_⟩)); go_ret; exact ⟨by first | rfl | (simp; done) | (simp [*]; done) | (simp [bne]; done), by repeat (first | exact Drawn0.refl _ | apply Drawn0.step)⟩
def impl_arePairs.f (k : Nat) (l0 : List ByteArray) (l1 : List ByteArray) : Option (Bool) := if (l0.length : Int) ≤ 40 then (if (l0.length : Int) = (l1.length : Int) then ((impl_areRising.f k l0).bind fun t10 => (if t10 = true then ((slices_ContainsFunc_impl_arePairs_1.f k l1).bind fun t11 => (some (!t11))) else (some false))) else (some false)) else (some false)
theorem impl_arePairs.calls (k : Nat) (A0 : Option Addr) (c0 : Nat) (l0 : List ByteArray) (A1 : Option Addr) (c1 : Nat) (l1 : List ByteArray) (r : Bool) (w : World) (hr0 : Kd.C Kd.string w A0 l0.length l0) (hc0 : l0.length ≤ c0) (hr1 : Kd.C Kd.string w A1 l1.length l1) (hc1 : l1.length ≤ c1) (h : impl_arePairs.f k l0 l1 = some r) :
  Calls Tryz.prog 95 #[.slice A0 l0.length c0, .slice A1 l1.length c1] w fun e w' => e = .returned (.bool r) ∧ Drawn0 w w' := by
 have HR0 := zA hr0; have HC0 := zA hc0; clear hr0 hc0; have HR1 := zA hr1; have HC1 := zA hc1; clear hr1 hc1; have H : (if (l0.length : Int) ≤ 40 then (if (l0.length : Int) = (l1.length : Int) then ((impl_areRising.f k l0).bind fun t10 => (if t10 = true then ((slices_ContainsFunc_impl_arePairs_1.f k l1).bind fun t11 => (some (!t11))) else (some false))) else (some false)) else (some false)) = some r := h; clear h
 by_cases c3 : (l0.length : Int) ≤ 40
 ·rw [if_pos c3] at H
  have c3b0 : decide ((l0.length : Int) ≤ 40) = true := zX c3; have c3b1 : decide (l0.length ≤ 40) = true := zX (by omega); clear c3
  by_cases c4 : (l0.length : Int) = (l1.length : Int)
  ·rw [if_pos c4] at H
   have c4b0 : ((l0.length : Int) == (l1.length : Int)) = true := beq_iff_eq.mpr c4; have c4b1 : ((l0.length : Int) != (l1.length : Int)) = false := bne_eq_false_iff_eq.mpr c4; have c4b2 : (l0.length == l1.length) = true := by first | simpa using c4 | (simp at c4 ⊢; omega)
   clear c4; replace H := zAF H; obtain ⟨t10, A50, H⟩ := H; replace H : (if t10 = true then ((slices_ContainsFunc_impl_arePairs_1.f k l1).bind fun t11 => (some (!t11))) else (some false)) = some r := H; have A5 := zA A50; clear A50
   by_cases c6 : t10 = true
   ·subst c6
    have H1 : ((slices_ContainsFunc_impl_arePairs_1.f k l1).bind fun t11 => (some (!t11))) = some r := by rw [if_pos rfl] at H; exact H
    clear H; have H := H1; clear H1; replace H := zAF H; obtain ⟨t11, A70, H⟩ := H; replace H : (some (!t11)) = some r := H; have A7 := zA A70; clear A70; obtain rfl := yM H; go_enter Tryz.func95, Tryz.ntmps95; go_wp2_with (first | (go_at_call 128; (with_reducible refine (impl_areRising.calls k _ _ l0 true _ ?side1 ?side2 A5.out).mono ?_); (case side1 => repeat (first | exact HR0.out | (with_reducible first | refine zT ?_ _ | refine zU ?_ _ | refine zV ?_))); (case side2 => exact HC0.out); rintro e w' ⟨rfl, ⟨nd, rfl⟩⟩) | (go_at_call 85; (with_reducible refine (slices_ContainsFunc_impl_arePairs_1.calls k _ _ l1  t11 _ ?side1 ?side2 A7.out).mono ?_); (case side1 => repeat (first | exact HR1.out | (with_reducible first | refine zT ?_ _ | refine zU ?_ _ | refine zV ?_))); (case side2 => exact HC1.out); rintro e w' ⟨rfl, ⟨nd, rfl⟩⟩)); go_ret; exact ⟨by first | rfl | (simp; done) | (simp [*]; done) | (simp [bne]; done), by repeat (first | exact Drawn0.refl _ | apply Drawn0.step)⟩
   ·replace c6 := yO c6
    subst c6; have H1 : (some false) = some r := by rw [if_neg (show ¬ (false = true) by decide)] at H; exact H
    clear H; have H := H1; clear H1; obtain rfl := yM H; go_enter Tryz.func95, Tryz.ntmps95; go_wp2_with (first | (go_at_call 128; (with_reducible refine (impl_areRising.calls k _ _ l0 false _ ?side1 ?side2 A5.out).mono ?_); (case side1 => repeat (first | exact HR0.out | (with_reducible first | refine zT ?_ _ | refine zU ?_ _ | refine zV ?_))); (case side2 => exact HC0.out); rintro e w' ⟨rfl, ⟨nd, rfl⟩⟩)); go_ret; exact ⟨by first | rfl | (simp; done) | (simp [*]; done) | (simp [bne]; done), by repeat (first | exact Drawn0.refl _ | apply Drawn0.step)⟩
  ·rw [if_neg c4] at H
   have c4b0 : ((l0.length : Int) == (l1.length : Int)) = false := beq_eq_false_iff_ne.mpr c4; have c4b1 : ((l0.length : Int) != (l1.length : Int)) = true := bne_iff_ne.mpr c4; have c4b2 : (l0.length == l1.length) = false := by first | simpa using c4 | (simp at c4 ⊢; omega)
   obtain rfl := yM H; go_enter Tryz.func95, Tryz.ntmps95; go_wp2; go_ret; exact ⟨by first | rfl | (simp; done) | (simp [*]; done) | (simp [bne]; done), by repeat (first | exact Drawn0.refl _ | apply Drawn0.step)⟩
 ·rw [if_neg c3] at H
  have c3b0 : decide ((l0.length : Int) ≤ 40) = false := decide_eq_false c3; have c3b1 : decide (l0.length ≤ 40) = false := decide_eq_false (by omega); clear c3; obtain rfl := yM H; go_enter Tryz.func95, Tryz.ntmps95; go_wp2; go_ret; exact ⟨by first | rfl | (simp; done) | (simp [*]; done) | (simp [bne]; done), by repeat (first | exact Drawn0.refl _ | apply Drawn0.step)⟩
def impl_GoodShown.f (k : Nat) (l0_0 : List ByteArray) (l0_1 : List ByteArray) (l0_2 : List ByteArray) (a0_3 : Int) : Option (Bool) := if (l0_0.length : Int) ≤ 4 then ((impl_arePairs.f k l0_0 l0_1).bind fun t10 => (if t10 = true then (if (l0_2.length : Int) = 0 then ((impl_within.f a0_3 0 (l0_0.length : Int)).bind fun t11 => (some t11)) else ((impl_areDigests.f k l0_2 (wrap64 ((l0_0.length : Int) + 1))).bind fun t12 => (if t12 = true then ((impl_within.f a0_3 0 (l0_0.length : Int)).bind fun t13 => (some t13)) else (some false)))) else (some false))) else (some false)
theorem impl_GoodShown.calls (k : Nat) (A0_0 : Option Addr) (c0_0 : Nat) (l0_0 : List ByteArray) (A0_1 : Option Addr) (c0_1 : Nat) (l0_1 : List ByteArray) (A0_2 : Option Addr) (c0_2 : Nat) (l0_2 : List ByteArray) (a0_3 : Int) (r : Bool) (w : World) (hr0_0 : Kd.C Kd.string w A0_0 l0_0.length l0_0) (hc0_0 : l0_0.length ≤ c0_0) (hr0_1 : Kd.C Kd.string w A0_1 l0_1.length l0_1) (hc0_1 : l0_1.length ≤ c0_1) (hr0_2 : Kd.C Kd.string w A0_2 l0_2.length l0_2) (hc0_2 : l0_2.length ≤ c0_2) (h : impl_GoodShown.f k l0_0 l0_1 l0_2 a0_3 = some r) :
  Calls Tryz.prog 63 #[.agg #[.slice A0_0 l0_0.length c0_0, .slice A0_1 l0_1.length c0_1, .slice A0_2 l0_2.length c0_2, .int .i64 a0_3]] w fun e w' => e = .returned (.bool r) ∧ Below w.heap.size w w' := by
 have hu85 := Tryz.underlying85; have HR0_0 := zA hr0_0; have HC0_0 := zA hc0_0; clear hr0_0 hc0_0; have HR0_1 := zA hr0_1; have HC0_1 := zA hc0_1; clear hr0_1 hc0_1; have HR0_2 := zA hr0_2; have HC0_2 := zA hc0_2; clear hr0_2 hc0_2; have HB := zA (Below.refl w.heap.size w); have H : (if (l0_0.length : Int) ≤ 4 then ((impl_arePairs.f k l0_0 l0_1).bind fun t20 => (if t20 = true then (if (l0_2.length : Int) = 0 then ((impl_within.f a0_3 0 (l0_0.length : Int)).bind fun t21 => (some t21)) else ((impl_areDigests.f k l0_2 (wrap64 ((l0_0.length : Int) + 1))).bind fun t22 => (if t22 = true then ((impl_within.f a0_3 0 (l0_0.length : Int)).bind fun t23 => (some t23)) else (some false)))) else (some false))) else (some false)) = some r := h; clear h
 by_cases c2 : (l0_0.length : Int) ≤ 4
 ·rw [if_pos c2] at H
  have c2b0 : decide ((l0_0.length : Int) ≤ 4) = true := zX c2; have c2b1 : decide (l0_0.length ≤ 4) = true := zX (by omega); clear c2; replace H := zAF H; obtain ⟨t20, A30, H⟩ := H; replace H : (if t20 = true then (if (l0_2.length : Int) = 0 then ((impl_within.f a0_3 0 (l0_0.length : Int)).bind fun t21 => (some t21)) else ((impl_areDigests.f k l0_2 (wrap64 ((l0_0.length : Int) + 1))).bind fun t22 => (if t22 = true then ((impl_within.f a0_3 0 (l0_0.length : Int)).bind fun t23 => (some t23)) else (some false)))) else (some false)) = some r := H; have A3 := zA A30; clear A30
  by_cases c4 : t20 = true
  ·subst c4
   have H1 : (if (l0_2.length : Int) = 0 then ((impl_within.f a0_3 0 (l0_0.length : Int)).bind fun t21 => (some t21)) else ((impl_areDigests.f k l0_2 (wrap64 ((l0_0.length : Int) + 1))).bind fun t22 => (if t22 = true then ((impl_within.f a0_3 0 (l0_0.length : Int)).bind fun t23 => (some t23)) else (some false)))) = some r := by rw [if_pos rfl] at H; exact H
   clear H; have H := H1; clear H1
   by_cases c5 : (l0_2.length : Int) = 0
   ·rw [if_pos c5] at H
    have c5b0 : ((l0_2.length : Int) == 0) = true := beq_iff_eq.mpr c5; have c5b1 : ((l0_2.length : Int) != 0) = false := bne_eq_false_iff_eq.mpr c5; clear c5; replace H := zAF H; obtain ⟨t21, A60, H⟩ := H; replace H : (some t21) = some r := H; have A6 := zA A60; clear A60; obtain rfl := yM H; go_enter Tryz.func63, Tryz.ntmps63; go_wp2_with (first | ((with_reducible refine gate_dst (N := 1) rfl ?_); (try (refine gate_guard (by rfl) ?_; dsimp only)); refine box_event ?hg (N := 1) ?hd (cs := #[.slice A0_0 l0_0.length c0_0, .slice A0_1 l0_1.length c0_1, .slice A0_2 l0_2.length c0_2, .int .i64 a0_3]) (t := 85) ?hr ?_; (case hd => rfl); (case hg => rfl); (case hr => first | (go_simp; done) | (go_simp; rfl)); intro gb24 hg w7 hbox hb; have n0_ := zA (zAD (by (with_reducible repeat first | exact HB.out | apply zH | apply zF | apply zG) <;> exact HB.out) hb); have n1_ := zA (hbox); have n2_ := zA ((by rw [hg]; exact (zAE (by (with_reducible repeat first | exact HB.out | apply zH | apply zF | apply zG) <;> exact HB.out)) : w.heap.size ≤ gb24)); have n3_ := zA ((by rw [hg]; exact (zAE (by (with_reducible repeat first | exact HB.out | apply zH | apply zF | apply zG) <;> exact HB.out)) : w.heap.size ≤ gb24)); clear HB; have HB := n0_; have BK24 := n1_; have GW24 := n2_; have GE24 := n3_; clear n0_ n1_ n2_ n3_; clear hb hbox hg; have hcz8_0 := yL BK24.out 0 (.slice A0_0 l0_0.length c0_0) rfl; have hcz8_1 := yL BK24.out 1 (.slice A0_1 l0_1.length c0_1) rfl; have hcz8_2 := yL BK24.out 2 (.slice A0_2 l0_2.length c0_2) rfl; have hcz8_3 := yL BK24.out 3 (.int .i64 a0_3) rfl; have hfz8_0 := zO BK24.out 0; have hfz8_1 := zO BK24.out 1; have hfz8_2 := zO BK24.out 2; have hfz8_3 := zO BK24.out 3) | (go_at_call 95; (with_reducible refine (impl_arePairs.calls k _ _ l0_0 _ _ l0_1 true _ ?side1 ?side2 ?side3 ?side4 A3.out).mono ?_); (case side1 => repeat (first | exact (yN HR0_0.out HB.out) | (with_reducible first | refine zT ?_ _ | refine zU ?_ _ | refine zV ?_))); (case side2 => exact HC0_0.out); (case side3 => repeat (first | exact (yN HR0_1.out HB.out) | (with_reducible first | refine zT ?_ _ | refine zU ?_ _ | refine zV ?_))); (case side4 => exact HC0_1.out); rintro e w' ⟨rfl, ⟨nd, rfl⟩⟩) | (go_at_call 51; (with_reducible refine (impl_within.calls a0_3 0 (l0_0.length : Int) t21 _ A6.out).mono ?_); rintro e w' ⟨rfl, ⟨nd, rfl⟩⟩)); go_ret; exact ⟨by first | rfl | (simp <;> rfl) | (simp [*] <;> rfl), by repeat (first | (with_reducible first | exact HB.out | apply zH | apply zF | apply zG | refine zI ?_ GE24.out) | exact HB.out)⟩
   ·rw [if_neg c5] at H
    have c5b0 : ((l0_2.length : Int) == 0) = false := beq_eq_false_iff_ne.mpr c5; have c5b1 : ((l0_2.length : Int) != 0) = true := bne_iff_ne.mpr c5; have c5b2 : ¬ (l0_2 = []) := fun h_ => c5 (by rw [h_]; rfl)
    replace H := zAF H; obtain ⟨t22, A90, H⟩ := H; replace H : (if t22 = true then ((impl_within.f a0_3 0 (l0_0.length : Int)).bind fun t23 => (some t23)) else (some false)) = some r := H; have A9 := zA A90; clear A90
    by_cases c10 : t22 = true
    ·subst c10
     have H1 : ((impl_within.f a0_3 0 (l0_0.length : Int)).bind fun t23 => (some t23)) = some r := by rw [if_pos rfl] at H; exact H
     clear H; have H := H1; clear H1; replace H := zAF H; obtain ⟨t23, A25, H⟩ := H; replace H : (some t23) = some r := H; have A11 := zA A25; clear A25; obtain rfl := yM H; go_enter Tryz.func63, Tryz.ntmps63; go_wp2_with (first | ((with_reducible refine gate_dst (N := 1) rfl ?_); (try (refine gate_guard (by rfl) ?_; dsimp only)); refine box_event ?hg (N := 1) ?hd (cs := #[.slice A0_0 l0_0.length c0_0, .slice A0_1 l0_1.length c0_1, .slice A0_2 l0_2.length c0_2, .int .i64 a0_3]) (t := 85) ?hr ?_; (case hd => rfl); (case hg => rfl); (case hr => first | (go_simp; done) | (go_simp; rfl)); intro gb24 hg w12 hbox hb; have n0_ := zA (zAD (by (with_reducible repeat first | exact HB.out | apply zH | apply zF | apply zG) <;> exact HB.out) hb); have n1_ := zA (hbox); have n2_ := zA ((by rw [hg]; exact (zAE (by (with_reducible repeat first | exact HB.out | apply zH | apply zF | apply zG) <;> exact HB.out)) : w.heap.size ≤ gb24)); have n3_ := zA ((by rw [hg]; exact (zAE (by (with_reducible repeat first | exact HB.out | apply zH | apply zF | apply zG) <;> exact HB.out)) : w.heap.size ≤ gb24)); clear HB; have HB := n0_; have BK24 := n1_; have GW24 := n2_; have GE24 := n3_; clear n0_ n1_ n2_ n3_; clear hb hbox hg; have hcz13_0 := yL BK24.out 0 (.slice A0_0 l0_0.length c0_0) rfl; have hcz13_1 := yL BK24.out 1 (.slice A0_1 l0_1.length c0_1) rfl; have hcz13_2 := yL BK24.out 2 (.slice A0_2 l0_2.length c0_2) rfl; have hcz13_3 := yL BK24.out 3 (.int .i64 a0_3) rfl; have hfz13_0 := zO BK24.out 0; have hfz13_1 := zO BK24.out 1; have hfz13_2 := zO BK24.out 2; have hfz13_3 := zO BK24.out 3) | (go_at_call 95; (with_reducible refine (impl_arePairs.calls k _ _ l0_0 _ _ l0_1 true _ ?side1 ?side2 ?side3 ?side4 A3.out).mono ?_); (case side1 => repeat (first | exact (yN HR0_0.out HB.out) | (with_reducible first | refine zT ?_ _ | refine zU ?_ _ | refine zV ?_))); (case side2 => exact HC0_0.out); (case side3 => repeat (first | exact (yN HR0_1.out HB.out) | (with_reducible first | refine zT ?_ _ | refine zU ?_ _ | refine zV ?_))); (case side4 => exact HC0_1.out); rintro e w' ⟨rfl, ⟨nd, rfl⟩⟩) | (go_at_call 57; (with_reducible refine (impl_areDigests.calls k _ _ l0_2 (wrap64 ((l0_0.length : Int) + 1)) true _ ?side1 ?side2 A9.out).mono ?_); (case side1 => repeat (first | exact (yN HR0_2.out (by repeat (first | (with_reducible first | exact HB.out | apply zH | apply zF | apply zG | refine zI ?_ GE24.out) | exact HB.out))) | (with_reducible first | refine zT ?_ _ | refine zU ?_ _ | refine zV ?_))); (case side2 => exact HC0_2.out); rintro e w' ⟨rfl, ⟨nd, rfl⟩⟩) | (go_at_call 51; (with_reducible refine (impl_within.calls a0_3 0 (l0_0.length : Int) t23 _ A11.out).mono ?_); rintro e w' ⟨rfl, ⟨nd, rfl⟩⟩)); go_ret; exact ⟨by first | rfl | (simp <;> rfl) | (simp [*] <;> rfl), by repeat (first | (with_reducible first | exact HB.out | apply zH | apply zF | apply zG | refine zI ?_ GE24.out) | exact HB.out)⟩
    ·replace c10 := yO c10
     subst c10; have H1 : (some false) = some r := by rw [if_neg (show ¬ (false = true) by decide)] at H; exact H
     clear H; have H := H1; clear H1; obtain rfl := yM H; go_enter Tryz.func63, Tryz.ntmps63; go_wp2_with (first | ((with_reducible refine gate_dst (N := 1) rfl ?_); (try (refine gate_guard (by rfl) ?_; dsimp only)); refine box_event ?hg (N := 1) ?hd (cs := #[.slice A0_0 l0_0.length c0_0, .slice A0_1 l0_1.length c0_1, .slice A0_2 l0_2.length c0_2, .int .i64 a0_3]) (t := 85) ?hr ?_; (case hd => rfl); (case hg => rfl); (case hr => first | (go_simp; done) | (go_simp; rfl)); intro gb24 hg w14 hbox hb; have n0_ := zA (zAD (by (with_reducible repeat first | exact HB.out | apply zH | apply zF | apply zG) <;> exact HB.out) hb); have n1_ := zA (hbox); have n2_ := zA ((by rw [hg]; exact (zAE (by (with_reducible repeat first | exact HB.out | apply zH | apply zF | apply zG) <;> exact HB.out)) : w.heap.size ≤ gb24)); have n3_ := zA ((by rw [hg]; exact (zAE (by (with_reducible repeat first | exact HB.out | apply zH | apply zF | apply zG) <;> exact HB.out)) : w.heap.size ≤ gb24)); clear HB; have HB := n0_; have BK24 := n1_; have GW24 := n2_; have GE24 := n3_; clear n0_ n1_ n2_ n3_; clear hb hbox hg; have hcz15_0 := yL BK24.out 0 (.slice A0_0 l0_0.length c0_0) rfl; have hcz15_1 := yL BK24.out 1 (.slice A0_1 l0_1.length c0_1) rfl; have hcz15_2 := yL BK24.out 2 (.slice A0_2 l0_2.length c0_2) rfl; have hcz15_3 := yL BK24.out 3 (.int .i64 a0_3) rfl; have hfz15_0 := zO BK24.out 0; have hfz15_1 := zO BK24.out 1; have hfz15_2 := zO BK24.out 2; have hfz15_3 := zO BK24.out 3) | (go_at_call 95; (with_reducible refine (impl_arePairs.calls k _ _ l0_0 _ _ l0_1 true _ ?side1 ?side2 ?side3 ?side4 A3.out).mono ?_); (case side1 => repeat (first | exact (yN HR0_0.out HB.out) | (with_reducible first | refine zT ?_ _ | refine zU ?_ _ | refine zV ?_))); (case side2 => exact HC0_0.out); (case side3 => repeat (first | exact (yN HR0_1.out HB.out) | (with_reducible first | refine zT ?_ _ | refine zU ?_ _ | refine zV ?_))); (case side4 => exact HC0_1.out); rintro e w' ⟨rfl, ⟨nd, rfl⟩⟩) | (go_at_call 57; (with_reducible refine (impl_areDigests.calls k _ _ l0_2 (wrap64 ((l0_0.length : Int) + 1)) false _ ?side1 ?side2 A9.out).mono ?_); (case side1 => repeat (first | exact (yN HR0_2.out (by repeat (first | (with_reducible first | exact HB.out | apply zH | apply zF | apply zG | refine zI ?_ GE24.out) | exact HB.out))) | (with_reducible first | refine zT ?_ _ | refine zU ?_ _ | refine zV ?_))); (case side2 => exact HC0_2.out); rintro e w' ⟨rfl, ⟨nd, rfl⟩⟩)); go_ret; exact ⟨by first | rfl | (simp <;> rfl) | (simp [*] <;> rfl), by repeat (first | (with_reducible first | exact HB.out | apply zH | apply zF | apply zG | refine zI ?_ GE24.out) | exact HB.out)⟩
  ·replace c4 := yO c4
   subst c4; have H1 : (some false) = some r := by rw [if_neg (show ¬ (false = true) by decide)] at H; exact H
   clear H; have H := H1; clear H1; obtain rfl := yM H; go_enter Tryz.func63, Tryz.ntmps63; go_wp2_with (first | ((with_reducible refine gate_dst (N := 1) rfl ?_); (try (refine gate_guard (by rfl) ?_; dsimp only)); refine box_event ?hg (N := 1) ?hd (cs := #[.slice A0_0 l0_0.length c0_0, .slice A0_1 l0_1.length c0_1, .slice A0_2 l0_2.length c0_2, .int .i64 a0_3]) (t := 85) ?hr ?_; (case hd => rfl); (case hg => rfl); (case hr => first | (go_simp; done) | (go_simp; rfl)); intro gb24 hg w16 hbox hb; have n0_ := zA (zAD (by (with_reducible repeat first | exact HB.out | apply zH | apply zF | apply zG) <;> exact HB.out) hb); have n1_ := zA (hbox); have n2_ := zA ((by rw [hg]; exact (zAE (by (with_reducible repeat first | exact HB.out | apply zH | apply zF | apply zG) <;> exact HB.out)) : w.heap.size ≤ gb24)); have n3_ := zA ((by rw [hg]; exact (zAE (by (with_reducible repeat first | exact HB.out | apply zH | apply zF | apply zG) <;> exact HB.out)) : w.heap.size ≤ gb24)); clear HB; have HB := n0_; have BK24 := n1_; have GW24 := n2_; have GE24 := n3_; clear n0_ n1_ n2_ n3_; clear hb hbox hg; have hcz17_0 := yL BK24.out 0 (.slice A0_0 l0_0.length c0_0) rfl; have hcz17_1 := yL BK24.out 1 (.slice A0_1 l0_1.length c0_1) rfl; have hcz17_2 := yL BK24.out 2 (.slice A0_2 l0_2.length c0_2) rfl; have hcz17_3 := yL BK24.out 3 (.int .i64 a0_3) rfl; have hfz17_0 := zO BK24.out 0; have hfz17_1 := zO BK24.out 1; have hfz17_2 := zO BK24.out 2; have hfz17_3 := zO BK24.out 3) | (go_at_call 95; (with_reducible refine (impl_arePairs.calls k _ _ l0_0 _ _ l0_1 false _ ?side1 ?side2 ?side3 ?side4 A3.out).mono ?_); (case side1 => repeat (first | exact (yN HR0_0.out HB.out) | (with_reducible first | refine zT ?_ _ | refine zU ?_ _ | refine zV ?_))); (case side2 => exact HC0_0.out); (case side3 => repeat (first | exact (yN HR0_1.out HB.out) | (with_reducible first | refine zT ?_ _ | refine zU ?_ _ | refine zV ?_))); (case side4 => exact HC0_1.out); rintro e w' ⟨rfl, ⟨nd, rfl⟩⟩)); go_ret; exact ⟨by first | rfl | (simp <;> rfl) | (simp [*] <;> rfl), by repeat (first | (with_reducible first | exact HB.out | apply zH | apply zF | apply zG | refine zI ?_ GE24.out) | exact HB.out)⟩
 ·rw [if_neg c2] at H
  have c2b0 : decide ((l0_0.length : Int) ≤ 4) = false := decide_eq_false c2; have c2b1 : decide (l0_0.length ≤ 4) = false := decide_eq_false (by omega); clear c2; obtain rfl := yM H; go_enter Tryz.func63, Tryz.ntmps63; go_wp2_with (first | ((with_reducible refine gate_dst (N := 1) rfl ?_); (try (refine gate_guard (by rfl) ?_; dsimp only)); refine box_event ?hg (N := 1) ?hd (cs := #[.slice A0_0 l0_0.length c0_0, .slice A0_1 l0_1.length c0_1, .slice A0_2 l0_2.length c0_2, .int .i64 a0_3]) (t := 85) ?hr ?_; (case hd => rfl); (case hg => rfl); (case hr => first | (go_simp; done) | (go_simp; rfl)); intro gb24 hg w18 hbox hb; have n0_ := zA (zAD (by (with_reducible repeat first | exact HB.out | apply zH | apply zF | apply zG) <;> exact HB.out) hb); have n1_ := zA (hbox); have n2_ := zA ((by rw [hg]; exact (zAE (by (with_reducible repeat first | exact HB.out | apply zH | apply zF | apply zG) <;> exact HB.out)) : w.heap.size ≤ gb24)); have n3_ := zA ((by rw [hg]; exact (zAE (by (with_reducible repeat first | exact HB.out | apply zH | apply zF | apply zG) <;> exact HB.out)) : w.heap.size ≤ gb24)); clear HB; have HB := n0_; have BK24 := n1_; have GW24 := n2_; have GE24 := n3_; clear n0_ n1_ n2_ n3_; clear hb hbox hg; have hcz19_0 := yL BK24.out 0 (.slice A0_0 l0_0.length c0_0) rfl; have hcz19_1 := yL BK24.out 1 (.slice A0_1 l0_1.length c0_1) rfl; have hcz19_2 := yL BK24.out 2 (.slice A0_2 l0_2.length c0_2) rfl; have hcz19_3 := yL BK24.out 3 (.int .i64 a0_3) rfl; have hfz19_0 := zO BK24.out 0; have hfz19_1 := zO BK24.out 1; have hfz19_2 := zO BK24.out 2; have hfz19_3 := zO BK24.out 3)); go_ret; exact ⟨by first | rfl | (simp <;> rfl) | (simp [*] <;> rfl), by repeat (first | (with_reducible first | exact HB.out | apply zH | apply zF | apply zG | refine zI ?_ GE24.out) | exact HB.out)⟩
def impl_CheckKey_1.f (k : Nat) (l0_0 : List ByteArray) (l0_1 : List ByteArray) (l0_2 : List ByteArray) (a0_3 : Int) : Option (Bool) := (impl_GoodShown.f k l0_0 l0_1 l0_2 a0_3).bind fun t10 => (some (!t10))
theorem impl_CheckKey_1.calls (k : Nat) (A0_0 : Option Addr) (c0_0 : Nat) (l0_0 : List ByteArray) (A0_1 : Option Addr) (c0_1 : Nat) (l0_1 : List ByteArray) (A0_2 : Option Addr) (c0_2 : Nat) (l0_2 : List ByteArray) (a0_3 : Int) (r : Bool) (w : World) (hr0_0 : Kd.C Kd.string w A0_0 l0_0.length l0_0) (hc0_0 : l0_0.length ≤ c0_0) (hr0_1 : Kd.C Kd.string w A0_1 l0_1.length l0_1) (hc0_1 : l0_1.length ≤ c0_1) (hr0_2 : Kd.C Kd.string w A0_2 l0_2.length l0_2) (hc0_2 : l0_2.length ≤ c0_2) (h : impl_CheckKey_1.f k l0_0 l0_1 l0_2 a0_3 = some r) :
  Calls Tryz.prog 62 #[.agg #[.slice A0_0 l0_0.length c0_0, .slice A0_1 l0_1.length c0_1, .slice A0_2 l0_2.length c0_2, .int .i64 a0_3]] w fun e w' => e = .returned (.bool r) ∧ Below w.heap.size w w' := by
 have hu85 := Tryz.underlying85; have HR0_0 := zA hr0_0; have HC0_0 := zA hc0_0; clear hr0_0 hc0_0; have HR0_1 := zA hr0_1; have HC0_1 := zA hc0_1; clear hr0_1 hc0_1; have HR0_2 := zA hr0_2; have HC0_2 := zA hc0_2; clear hr0_2 hc0_2; have HB := zA (Below.refl w.heap.size w); have H : ((impl_GoodShown.f k l0_0 l0_1 l0_2 a0_3).bind fun t10 => (some (!t10))) = some r := h; clear h; replace H := zAF H; obtain ⟨t10, A20, H⟩ := H; replace H : (some (!t10)) = some r := H; have A2 := zA A20; clear A20; obtain rfl := yM H; go_enter Tryz.func62, Tryz.ntmps62; go_wp2_with (first | ((with_reducible refine gate_dst (N := 1) rfl ?_); refine box_event ?hg (N := 1) ?hd (cs := #[.slice A0_0 l0_0.length c0_0, .slice A0_1 l0_1.length c0_1, .slice A0_2 l0_2.length c0_2, .int .i64 a0_3]) (t := 85) ?hr ?_; (case hd => rfl); (case hg => rfl); (case hr => first | (go_simp; done) | (go_simp; rfl)); intro gb11 hg w3 hbox hb; have n0_ := zA (zAD (by (with_reducible repeat first | exact HB.out | apply zH | apply zF | apply zG) <;> exact HB.out) hb); have n1_ := zA (hbox); have n2_ := zA ((by rw [hg]; exact (zAE (by (with_reducible repeat first | exact HB.out | apply zH | apply zF | apply zG) <;> exact HB.out)) : w.heap.size ≤ gb11)); have n3_ := zA ((by rw [hg]; exact (zAE (by (with_reducible repeat first | exact HB.out | apply zH | apply zF | apply zG) <;> exact HB.out)) : w.heap.size ≤ gb11)); clear HB; have HB := n0_; have BK11 := n1_; have GW11 := n2_; have GE11 := n3_; clear n0_ n1_ n2_ n3_; clear hb hbox hg; have hcz4_0 := yL BK11.out 0 (.slice A0_0 l0_0.length c0_0) rfl; have hcz4_1 := yL BK11.out 1 (.slice A0_1 l0_1.length c0_1) rfl; have hcz4_2 := yL BK11.out 2 (.slice A0_2 l0_2.length c0_2) rfl; have hcz4_3 := yL BK11.out 3 (.int .i64 a0_3) rfl; have hfz4_0 := zO BK11.out 0; have hfz4_1 := zO BK11.out 1; have hfz4_2 := zO BK11.out 2; have hfz4_3 := zO BK11.out 3) | ((with_reducible refine yB (f := 63) rfl ?_); refine goesL_ (some 4) rfl rfl Tryz.func63 (by kernel_rfl) rfl #[.agg #[.slice A0_0 l0_0.length c0_0, .slice A0_1 l0_1.length c0_1, .slice A0_2 l0_2.length c0_2, .int .i64 a0_3]] rfl (by (try simp only [zAA, zAB, zAC]); first | done | rfl | (simp only [zZ, zY]; rfl)) ?_; (with_reducible refine (impl_GoodShown.calls k _ _ l0_0 _ _ l0_1 _ _ l0_2 a0_3 t10 _ ?side1 ?side2 ?side3 ?side4 ?side5 ?side6 A2.out).mono ?_); (case side1 => repeat (first | exact (yN HR0_0.out HB.out) | (with_reducible first | refine zT ?_ _ | refine zU ?_ _ | refine zV ?_))); (case side2 => exact HC0_0.out); (case side3 => repeat (first | exact (yN HR0_1.out HB.out) | (with_reducible first | refine zT ?_ _ | refine zU ?_ _ | refine zV ?_))); (case side4 => exact HC0_1.out); (case side5 => repeat (first | exact (yN HR0_2.out HB.out) | (with_reducible first | refine zT ?_ _ | refine zU ?_ _ | refine zV ?_))); (case side6 => exact HC0_2.out); rintro e w5 ⟨rfl, hb⟩; refine ⟨_, rfl, ?_⟩; have n0_ := zA (yE (g := gb11) (o := .cells #[.slice A0_0 l0_0.length c0_0, .slice A0_1 l0_1.length c0_1, .slice A0_2 l0_2.length c0_2, .int .i64 a0_3] 85 (0, 0)) (by (with_reducible repeat (first | refine zL ?_ _ | refine zN ?_ | refine zM ?_ _)); exact BK11.out) hb); have n1_ := zA (zAD (by repeat (first | (with_reducible first | exact HB.out | apply zH | apply zF | apply zG | refine zI ?_ GE11.out) | exact HB.out)) hb); clear BK11; clear HB; have BK11 := n0_; have HB := n1_; clear n0_ n1_; (try clear hb))); go_ret; exact ⟨by first | rfl | (simp <;> rfl) | (simp [*] <;> rfl), by repeat (first | (with_reducible first | exact HB.out | apply zH | apply zF | apply zG | refine zI ?_ GE11.out) | exact HB.out)⟩
def impl_hasAt.f (l0 : List ByteArray) (a1 : Int) (a2 : ByteArray) : Option (Bool) := if a1 < (l0.length : Int) then (if 0 ≤ a1 then (some ((rdOf ByteArray.empty l0 a1).toList == a2.toList)) else (none)) else (some false)
theorem impl_hasAt.calls (A0 : Option Addr) (c0 : Nat) (l0 : List ByteArray) (a1 : Int) (a2 : ByteArray) (r : Bool) (w : World) (hr0 : Kd.C Kd.string w A0 l0.length l0) (hc0 : l0.length ≤ c0) (h : impl_hasAt.f l0 a1 a2 = some r) :
  Calls Tryz.prog 64 #[.slice A0 l0.length c0, .int .i64 a1, .string a2] w fun e w' => e = .returned (.bool r) ∧ Drawn0 w w' := by
 have HR0 := zA hr0; have HC0 := zA hc0; clear hr0 hc0; have H : (if a1 < (l0.length : Int) then (if 0 ≤ a1 then (some ((rdOf ByteArray.empty l0 a1).toList == a2.toList)) else (none)) else (some false)) = some r := h; clear h
 by_cases c4 : a1 < (l0.length : Int)
 ·rw [if_pos c4] at H
  have c4b0 : decide (a1 < (l0.length : Int)) = true := zX c4; clear c4
  by_cases c5 : 0 ≤ a1
  ·rw [if_pos c5] at H
   have c5b0 : decide (0 ≤ a1) = true := zX c5; clear c5; obtain rfl := yM H; have p10 : 0 ≤ (a1 : Int) := zW (by first | (with_reducible assumption) | assumption); have q10 : a1 < (l0.length : Int) := zW (by first | (with_reducible assumption) | assumption); obtain ⟨ad10, e10, hx10_0⟩ := Kd.at_string HR0.out a1 p10 q10
   cases e10
   replace p10 := eq_true p10; replace q10 := eq_true q10; go_enter Tryz.func64, Tryz.ntmps64; go_wp2; go_ret; exact ⟨by first | rfl | (simp; done) | (simp [*]; done) | (simp [bne]; done), by repeat (first | exact Drawn0.refl _ | apply Drawn0.step)⟩
  ·rw [if_neg c5] at H
   exact absurd H (by simp)
 ·rw [if_neg c4] at H
  have c4b0 : decide (a1 < (l0.length : Int)) = false := decide_eq_false c4; clear c4; obtain rfl := yM H; go_enter Tryz.func64, Tryz.ntmps64; go_wp2; go_ret; exact ⟨by first | rfl | (simp; done) | (simp [*]; done) | (simp [bne]; done), by repeat (first | exact Drawn0.refl _ | apply Drawn0.step)⟩
mutual
def impl_Shown_bytes.l0 : Nat → ByteArray → List ByteArray → Int → Int → List ByteArray → List ByteArray → List ByteArray → Int → Option (ByteArray)
 | 0, _, _, _, _, _, _, _, _ => none
 | k + 1, x3, x13, x14, x15, x10, x11, x12, x16 => if x15 < x14 then (if 0 ≤ x15 then (if x15 < (x13.length : Int) then ((impl_oneByte.f ((rdOf ByteArray.empty x13 x15).size : Int)).bind fun t17 => (if t17.size + (rdOf ByteArray.empty x13 x15).size ≤ 9223372036854775807 then (if x15 < (x11.length : Int) then ((impl_oneByte.f ((rdOf ByteArray.empty x11 x15).size : Int)).bind fun t18 => (if (t17 ++ (rdOf ByteArray.empty x13 x15)).size + t18.size ≤ 9223372036854775807 then (if ((t17 ++ (rdOf ByteArray.empty x13 x15)) ++ t18).size + (rdOf ByteArray.empty x11 x15).size ≤ 9223372036854775807 then (if x3.size + (((t17 ++ (rdOf ByteArray.empty x13 x15)) ++ t18) ++ (rdOf ByteArray.empty x11 x15)).size ≤ 9223372036854775807 then (impl_Shown_bytes.l0 k (x3 ++ (((t17 ++ (rdOf ByteArray.empty x13 x15)) ++ t18) ++ (rdOf ByteArray.empty x11 x15))) x13 x14 (wrap64 (x15 + 1)) x10 x11 x12 x16) else (none)) else (none)) else (none))) else (none)) else (none))) else (none)) else (none)) else ((impl_oneByte.f (x12.length : Int)).bind fun t19 => (if x3.size + t19.size ≤ 9223372036854775807 then (impl_Shown_bytes.l1 k (x3 ++ t19) x12 (x12.length : Int) 0) else (none)))
def impl_Shown_bytes.l1 : Nat → ByteArray → List ByteArray → Int → Int → Option (ByteArray)
 | 0, _, _, _, _ => none
 | k + 1, x3, x49, x50, x51 => if x51 < x50 then (if 0 ≤ x51 then (if x51 < (x49.length : Int) then (if x3.size + (rdOf ByteArray.empty x49 x51).size ≤ 9223372036854775807 then (impl_Shown_bytes.l1 k (x3 ++ (rdOf ByteArray.empty x49 x51)) x49 x50 (wrap64 (x51 + 1))) else (none)) else (none)) else (none)) else (some x3)
end
def impl_Shown_bytes.f (k : Nat) (l0_0 : List ByteArray) (l0_1 : List ByteArray) (l0_2 : List ByteArray) (a0_3 : Int) : Option (ByteArray) := (impl_oneByte.f (l0_0.length : Int)).bind fun t10 => (impl_Shown_bytes.l0 k t10 l0_0 (l0_0.length : Int) 0 l0_0 l0_1 l0_2 a0_3)
def impl_Shown_bytes.T5 : Bool × List (List Nat × List Nat) := (true, [([], []), ([], []), ([1], [1]), ([2], [2]), ([], []), ([3, 4], [3, 4]), ([], []), ([6], [6]), ([], []), ([7, 8], [7, 8]), ([9], [9]), ([10], [10]), ([11, 3], [11]), ([5, 12], [5, 12]), ([], []), ([14], [14]), ([], []), ([15, 16], [15, 16]), ([17], [17]), ([13, 18], [13, 18]), ([0, 19], [0, 19]), ([20, 12, 0, 1, 2, 3, 4, 5, 6, 7, 8, 9, 10, 11, 12, 13, 14, 15, 16, 17, 18, 19, 20], [0, 20])])
def impl_Shown_bytes.B5 : List Nat := [0, 0, 2, 6, 0, 30, 0, 64, 0, 448, 960, 1984, 4046, 8190, 0, 16384, 0, 114688, 245760, 524286, 1048575, 2097151]
theorem impl_Shown_bytes.tab5 : rtab .any (opsOf Tryz.f96 5) = impl_Shown_bytes.T5 := by kernel_rfl
theorem impl_Shown_bytes.bits5 : waitsOk impl_Shown_bytes.T5.2 impl_Shown_bytes.B5 = true := by kernel_rfl
theorem impl_Shown_bytes.calls (k : Nat) (A0_0 : Option Addr) (c0_0 : Nat) (l0_0 : List ByteArray) (A0_1 : Option Addr) (c0_1 : Nat) (l0_1 : List ByteArray) (A0_2 : Option Addr) (c0_2 : Nat) (l0_2 : List ByteArray) (a0_3 : Int) (r : ByteArray) (w : World) (hr0_0 : Kd.C Kd.string w A0_0 l0_0.length l0_0) (hc0_0 : l0_0.length ≤ c0_0) (hr0_1 : Kd.C Kd.string w A0_1 l0_1.length l0_1) (hc0_1 : l0_1.length ≤ c0_1) (hr0_2 : Kd.C Kd.string w A0_2 l0_2.length l0_2) (hc0_2 : l0_2.length ≤ c0_2) (h : impl_Shown_bytes.f k l0_0 l0_1 l0_2 a0_3 = some r) :
  Calls Tryz.prog 96 #[.agg #[.slice A0_0 l0_0.length c0_0, .slice A0_1 l0_1.length c0_1, .slice A0_2 l0_2.length c0_2, .int .i64 a0_3]] w fun e w' => e = .returned (.string r) ∧ Below w.heap.size w w' := by
 have hu85 := Tryz.underlying85; have HR0_0 := zA hr0_0; have HC0_0 := zA hc0_0; clear hr0_0 hc0_0; have HR0_1 := zA hr0_1; have HC0_1 := zA hc0_1; clear hr0_1 hc0_1; have HR0_2 := zA hr0_2; have HC0_2 := zA hc0_2; clear hr0_2 hc0_2; have HB := zA (Below.refl w.heap.size w); have H : ((impl_oneByte.f (l0_0.length : Int)).bind fun t29 => (impl_Shown_bytes.l0 k t29 l0_0 (l0_0.length : Int) 0 l0_0 l0_1 l0_2 a0_3)) = some r := h; clear h; replace H := zAF H; obtain ⟨t29, A20, H⟩ := H; replace H : (impl_Shown_bytes.l0 k t29 l0_0 (l0_0.length : Int) 0 l0_0 l0_1 l0_2 a0_3) = some r := H; have A2 := zA A20; clear A20; have H' := zA H; clear H; go_enter Tryz.func96, Tryz.ntmps96; go_wp2_with (first | ((with_reducible refine gate_dst (N := 1) rfl ?_); refine box_event ?hg (N := 1) ?hd (cs := #[.slice A0_0 l0_0.length c0_0, .slice A0_1 l0_1.length c0_1, .slice A0_2 l0_2.length c0_2, .int .i64 a0_3]) (t := 85) ?hr ?_; (case hd => rfl); (case hg => rfl); (case hr => first | (go_simp; done) | (go_simp; rfl)); intro gb30 hg w3 hbox hb; have n0_ := zA (zAD (by (with_reducible repeat first | exact HB.out | apply zH | apply zF | apply zG) <;> exact HB.out) hb); have n1_ := zA (hbox); have n2_ := zA ((by rw [hg]; exact (zAE (by (with_reducible repeat first | exact HB.out | apply zH | apply zF | apply zG) <;> exact HB.out)) : w.heap.size ≤ gb30)); have n3_ := zA ((by rw [hg]; exact (zAE (by (with_reducible repeat first | exact HB.out | apply zH | apply zF | apply zG) <;> exact HB.out)) : w.heap.size ≤ gb30)); clear HB; have HB := n0_; have BK30 := n1_; have GW30 := n2_; have GE30 := n3_; clear n0_ n1_ n2_ n3_; clear hb hbox hg; have hcz4_0 := yL BK30.out 0 (.slice A0_0 l0_0.length c0_0) rfl; have hcz4_1 := yL BK30.out 1 (.slice A0_1 l0_1.length c0_1) rfl; have hcz4_2 := yL BK30.out 2 (.slice A0_2 l0_2.length c0_2) rfl; have hcz4_3 := yL BK30.out 3 (.int .i64 a0_3) rfl; have hfz4_0 := zO BK30.out 0; have hfz4_1 := zO BK30.out 1; have hfz4_2 := zO BK30.out 2; have hfz4_3 := zO BK30.out 3) | ((with_reducible refine yB (f := 124) rfl ?_); refine goesL_ (some 11) rfl rfl Tryz.func124 (by kernel_rfl) rfl #[.int .i64 (l0_0.length : Int)] rfl (by (try simp only [zAA, zAB, zAC]); first | done | rfl | (simp only [zZ, zY]; rfl)) ?_; (with_reducible refine (impl_oneByte.calls (l0_0.length : Int) t29 _ A2.out).mono ?_); rintro e w5 ⟨rfl, hb⟩; refine ⟨_, rfl, ?_⟩; have n0_ := zA (yE (g := gb30) (o := .cells #[.slice A0_0 l0_0.length c0_0, .slice A0_1 l0_1.length c0_1, .slice A0_2 l0_2.length c0_2, .int .i64 a0_3] 85 (0, 0)) (by (with_reducible repeat (first | refine zL ?_ _ | refine zN ?_ | refine zM ?_ _)); exact BK30.out) hb); have n1_ := zA (zAD (by repeat (first | (with_reducible first | exact HB.out | apply zH | apply zF | apply zG | refine zI ?_ GE30.out) | exact HB.out)) hb); clear BK30; clear HB; have BK30 := n0_; have HB := n1_; clear n0_ n1_; (try clear hb); have hcz6_0 := yL BK30.out 0 (.slice A0_0 l0_0.length c0_0) rfl; have hcz6_1 := yL BK30.out 1 (.slice A0_1 l0_1.length c0_1) rfl; have hcz6_2 := yL BK30.out 2 (.slice A0_2 l0_2.length c0_2) rfl; have hcz6_3 := yL BK30.out 3 (.int .i64 a0_3) rfl; have hfz6_0 := zO BK30.out 0; have hfz6_1 := zO BK30.out 1; have hfz6_2 := zO BK30.out 2; have hfz6_3 := zO BK30.out 3)); go_loopg [3, 15] k (fun kq v3 v15 w' => ∃ (x3_1 : ByteArray) (x15_1 : Int), v3 = .string x3_1 ∧ v15 = .int .i64 x15_1 ∧ Aside0 (impl_Shown_bytes.l0 kq x3_1 l0_0 (l0_0.length : Int) x15_1 l0_0 l0_1 l0_2 a0_3 = some r) ∧ Aside0 (kq ≤ k) ∧ Aside0 (w'.heap[gb30]? = some (.cells #[(.slice A0_0 l0_0.length c0_0), (.slice A0_1 l0_1.length c0_1), (.slice A0_2 l0_2.length c0_2), .int .i64 a0_3] 85 (0, 0))) ∧ Aside0 (Below w.heap.size w w'))
 case atStart => exact ⟨(t29), (0), (by first | rfl | (simp; done) | (simp [*]; done) | (simp [bne]; done)), (by first | rfl | (simp; done) | (simp [*]; done) | (simp [bne]; done)), H', ⟨Nat.le_refl _⟩, ⟨by (with_reducible repeat (first | refine zL ?_ _ | refine zN ?_ | refine zM ?_ _)); exact BK30.out⟩, ⟨by repeat (first | (with_reducible first | exact HB.out | apply zH | apply zF | apply zG | refine zI ?_ GE30.out) | exact HB.out)⟩⟩
 case round =>
  clear H'
  try clear c1
  try clear p2
  try clear hcz4_0
  try clear hcz4_1
  try clear hcz4_2
  try clear hcz4_3
  try clear hcz6_0
  try clear hcz6_1
  try clear hcz6_2
  try clear hcz6_3
  try clear hfz4_0
  try clear hfz4_1
  try clear hfz4_2
  try clear hfz4_3
  try clear hfz6_0
  try clear hfz6_1
  try clear hfz6_2
  try clear hfz6_3
  obtain ⟨x3_1, x15_1, rfl, rfl, HA, HK1, BK30, HB⟩ := hrel
  cases gk with
  | zero => exact absurd HA.out (by simp [impl_Shown_bytes.l0])
  | succ k1 =>
   have H := HA.out; clear HA; simp only [impl_Shown_bytes.l0] at H
   by_cases c7 : x15_1 < (l0_0.length : Int)
   ·rw [if_pos c7] at H
    have c7b0 : decide (x15_1 < (l0_0.length : Int)) = true := zX c7; clear c7
    by_cases c8 : 0 ≤ x15_1
    ·rw [if_pos c8] at H
     have c8b0 : decide (0 ≤ x15_1) = true := zX c8; clear c8
     by_cases c9 : x15_1 < (l0_0.length : Int)
     ·rw [if_pos c9] at H
      have c9b0 : decide (x15_1 < (l0_0.length : Int)) = true := zX c9; clear c9; replace H := zAF H; obtain ⟨t31, A33, H⟩ := H; replace H : (if t31.size + (rdOf ByteArray.empty l0_0 x15_1).size ≤ 9223372036854775807 then (if x15_1 < (l0_1.length : Int) then ((impl_oneByte.f ((rdOf ByteArray.empty l0_1 x15_1).size : Int)).bind fun t34 => (if (t31 ++ (rdOf ByteArray.empty l0_0 x15_1)).size + t34.size ≤ 9223372036854775807 then (if ((t31 ++ (rdOf ByteArray.empty l0_0 x15_1)) ++ t34).size + (rdOf ByteArray.empty l0_1 x15_1).size ≤ 9223372036854775807 then (if x3_1.size + (((t31 ++ (rdOf ByteArray.empty l0_0 x15_1)) ++ t34) ++ (rdOf ByteArray.empty l0_1 x15_1)).size ≤ 9223372036854775807 then (impl_Shown_bytes.l0 k1 (x3_1 ++ (((t31 ++ (rdOf ByteArray.empty l0_0 x15_1)) ++ t34) ++ (rdOf ByteArray.empty l0_1 x15_1))) l0_0 (l0_0.length : Int) (wrap64 (x15_1 + 1)) l0_0 l0_1 l0_2 a0_3) else (none)) else (none)) else (none))) else (none)) else (none)) = some r := H; have A10 := zA A33; clear A33
      by_cases c11 : t31.size + (rdOf ByteArray.empty l0_0 x15_1).size ≤ 9223372036854775807
      ·rw [if_pos c11] at H
       have c11b0 := eq_true c11; have c11b1 : decide (t31.size + (rdOf ByteArray.empty l0_0 x15_1).size ≤ 9223372036854775807) = true := zX c11
       try have c11b2 : (9223372036854775807 < t31.size + (rdOf ByteArray.empty l0_0 x15_1).size) = False := eq_false (Nat.not_lt.2 c11)
       by_cases c12 : x15_1 < (l0_1.length : Int)
       ·rw [if_pos c12] at H
        have c12b0 : decide (x15_1 < (l0_1.length : Int)) = true := zX c12; clear c12; replace H := zAF H; obtain ⟨t34, A35, H⟩ := H; replace H : (if (t31 ++ (rdOf ByteArray.empty l0_0 x15_1)).size + t34.size ≤ 9223372036854775807 then (if ((t31 ++ (rdOf ByteArray.empty l0_0 x15_1)) ++ t34).size + (rdOf ByteArray.empty l0_1 x15_1).size ≤ 9223372036854775807 then (if x3_1.size + (((t31 ++ (rdOf ByteArray.empty l0_0 x15_1)) ++ t34) ++ (rdOf ByteArray.empty l0_1 x15_1)).size ≤ 9223372036854775807 then (impl_Shown_bytes.l0 k1 (x3_1 ++ (((t31 ++ (rdOf ByteArray.empty l0_0 x15_1)) ++ t34) ++ (rdOf ByteArray.empty l0_1 x15_1))) l0_0 (l0_0.length : Int) (wrap64 (x15_1 + 1)) l0_0 l0_1 l0_2 a0_3) else (none)) else (none)) else (none)) = some r := H; have A13 := zA A35; clear A35
        by_cases c14 : (t31 ++ (rdOf ByteArray.empty l0_0 x15_1)).size + t34.size ≤ 9223372036854775807
        ·rw [if_pos c14] at H
         have c14b0 := eq_true c14; have c14b1 : decide ((t31 ++ (rdOf ByteArray.empty l0_0 x15_1)).size + t34.size ≤ 9223372036854775807) = true := zX c14; (try (have c14b3 := (show (t31 ++ (rdOf ByteArray.empty l0_0 x15_1)).size + t34.size ≤ 9223372036854775807 from c14); simp only [ByteArray.size_append, ByteArray.size_extract, Nat.min_self, Nat.sub_zero] at c14b3; have c14b4 := eq_true c14b3; have c14b5 : decide (_) = true := zX c14b3; have c14b6 := eq_false (Nat.not_lt.2 c14b3); clear c14b3))
         try have c14b2 : (9223372036854775807 < (t31 ++ (rdOf ByteArray.empty l0_0 x15_1)).size + t34.size) = False := eq_false (Nat.not_lt.2 c14)
         by_cases c15 : ((t31 ++ (rdOf ByteArray.empty l0_0 x15_1)) ++ t34).size + (rdOf ByteArray.empty l0_1 x15_1).size ≤ 9223372036854775807
         ·rw [if_pos c15] at H
          have c15b0 := eq_true c15; have c15b1 : decide (((t31 ++ (rdOf ByteArray.empty l0_0 x15_1)) ++ t34).size + (rdOf ByteArray.empty l0_1 x15_1).size ≤ 9223372036854775807) = true := zX c15; (try (have c15b3 := (show ((t31 ++ (rdOf ByteArray.empty l0_0 x15_1)) ++ t34).size + (rdOf ByteArray.empty l0_1 x15_1).size ≤ 9223372036854775807 from c15); simp only [ByteArray.size_append, ByteArray.size_extract, Nat.min_self, Nat.sub_zero] at c15b3; have c15b4 := eq_true c15b3; have c15b5 : decide (_) = true := zX c15b3; have c15b6 := eq_false (Nat.not_lt.2 c15b3); clear c15b3))
          try have c15b2 : (9223372036854775807 < ((t31 ++ (rdOf ByteArray.empty l0_0 x15_1)) ++ t34).size + (rdOf ByteArray.empty l0_1 x15_1).size) = False := eq_false (Nat.not_lt.2 c15)
          by_cases c16 : x3_1.size + (((t31 ++ (rdOf ByteArray.empty l0_0 x15_1)) ++ t34) ++ (rdOf ByteArray.empty l0_1 x15_1)).size ≤ 9223372036854775807
          ·rw [if_pos c16] at H
           have c16b0 := eq_true c16; have c16b1 : decide (x3_1.size + (((t31 ++ (rdOf ByteArray.empty l0_0 x15_1)) ++ t34) ++ (rdOf ByteArray.empty l0_1 x15_1)).size ≤ 9223372036854775807) = true := zX c16; (try (have c16b3 := (show x3_1.size + (((t31 ++ (rdOf ByteArray.empty l0_0 x15_1)) ++ t34) ++ (rdOf ByteArray.empty l0_1 x15_1)).size ≤ 9223372036854775807 from c16); simp only [ByteArray.size_append, ByteArray.size_extract, Nat.min_self, Nat.sub_zero] at c16b3; have c16b4 := eq_true c16b3; have c16b5 : decide (_) = true := zX c16b3; have c16b6 := eq_false (Nat.not_lt.2 c16b3); clear c16b3))
           try have c16b2 : (9223372036854775807 < x3_1.size + (((t31 ++ (rdOf ByteArray.empty l0_0 x15_1)) ++ t34) ++ (rdOf ByteArray.empty l0_1 x15_1)).size) = False := eq_false (Nat.not_lt.2 c16)
           have H' := zA H; clear H; have p36 : 0 ≤ (x15_1 : Int) := zW (by first | (with_reducible assumption) | assumption); have q36 : x15_1 < (l0_0.length : Int) := zW (by first | (with_reducible assumption) | assumption); obtain ⟨ad36, e36, hx36_0⟩ := Kd.at_string HR0_0.out x15_1 p36 q36
           cases e36
           replace hx36_0 := (HB.out.cell (zB w _ hx36_0)).trans hx36_0; replace p36 := eq_true p36; replace q36 := eq_true q36
           try go_wp2
           have n0_ := zA (zN BK30.out); have n1_ := zA (zG HB.out); clear BK30 HB; have BK30 := n0_; have HB := n1_; clear n0_ n1_; have p37 : 0 ≤ (x15_1 : Int) := zW (by first | (with_reducible assumption) | assumption); have q37 : x15_1 < (l0_1.length : Int) := zW (by first | (with_reducible assumption) | assumption); obtain ⟨ad37, e37, hx37_0⟩ := Kd.at_string HR0_1.out x15_1 p37 q37; have hw37_0 := hx37_0
           cases e37
           replace hx37_0 := (HB.out.cell (zB w _ hx37_0)).trans hx37_0; replace p37 := eq_true p37; replace q37 := eq_true q37; have p38 : 0 ≤ (x15_1 : Int) := zW (by first | (with_reducible assumption) | assumption); have q38 : x15_1 < (l0_1.length : Int) := zW (by first | (with_reducible assumption) | assumption); obtain ⟨ad38, e38, hx38_0⟩ := Kd.at_string HR0_1.out x15_1 p38 q38; have hw38_0 := hx38_0; obtain rfl : ad37 = ad38 := (by injection e38); replace hx38_0 := (HB.out.cell (zB w _ hx38_0)).trans hx38_0; replace p38 := eq_true p38; replace q38 := eq_true q38; refine start_ (n := 22) (S := fun w' => w'.cell? ⟨gb30, 0, none⟩ = some (.slice (some ad36) l0_0.length c0_0) ∧ w'.cell? ⟨gb30, 1, none⟩ = some (.slice (some ad37) l0_1.length c0_1) ∧ w'.cell? ⟨gb30, 2, none⟩ = some (.slice A0_2 l0_2.length c0_2) ∧ w'.cell? ⟨gb30, 3, none⟩ = some (.int .i64 a0_3) ∧ w'.cell? (ad37.add (x15_1).toNat) = some (.string (rdOf ByteArray.empty l0_1 x15_1)) ∧ w'.cell? (ad37.add (x15_1).toNat) = some (.string (rdOf ByteArray.empty l0_1 x15_1))) (ds := []) #[false, false, false, false, false, false, false, false, false, false, false, false, false, false, false, false, false, false, false, false, false, false] (by kernel_rfl) rfl rfl ⟨(zP BK30.out 0).trans rfl, (zP BK30.out 1).trans rfl, (zP BK30.out 2).trans rfl, (zP BK30.out 3).trans rfl, ((HB.out.cell (zB w _ hw37_0)).trans hw37_0), ((HB.out.cell (zB w _ hw38_0)).trans hw38_0)⟩ (fun hHeld => ?_); refine with_tabW impl_Shown_bytes.tab5 impl_Shown_bytes.bits5 (fun HT_ HW_ => ?_); generalize wr.drew = w17 at BK30 HB hx37_0 hx38_0 hHeld ⊢; refine pure_ (i := 0) (N := some 20) (v := ?_) (a' := ?_) #[true, false, false, false, false, false, false, false, false, false, false, false, false, false, false, false, false, false, false, false, false, false] rfl rfl (any_of HT_.out (by kernel_rfl)) (fun _ _ _ h => h) (Or.inl ⟨by rfl, ?_⟩) ?_ ?_; rotate_left
           ·intro w'
            go_simp
            with_reducible rfl
           rotate_left
           ·simp only [Act.put, zC, zD, zE, i64_w]
            rfl
           refine pure_ (i := 1) (N := some 21) (v := ?_) (a' := ?_) #[true, true, false, false, false, false, false, false, false, false, false, false, false, false, false, false, false, false, false, false, false, false] rfl rfl (any_of HT_.out (by kernel_rfl)) (fun _ _ _ h => h) (Or.inl ⟨by rfl, ?_⟩) ?_ ?_; rotate_left
           ·intro w'
            go_simp
            with_reducible rfl
           rotate_left
           ·simp only [Act.put, zC, zD, zE, i64_w]
            rfl
           refine pure_ (i := 2) (N := some 22) (v := ?_) (a' := ?_) #[true, true, true, false, false, false, false, false, false, false, false, false, false, false, false, false, false, false, false, false, false, false] rfl rfl (any_of HT_.out (by kernel_rfl)) (fun _ _ _ h => h) (Or.inl ⟨by rfl, ?_⟩) ?_ ?_; rotate_left
           ·intro w'
            go_simp
            with_reducible rfl
           rotate_left
           ·simp only [Act.put, zC, zD, zE, i64_w]
            rfl
           refine pure_ (i := 4) (N := some 24) (v := ?_) (a' := ?_) #[true, true, true, false, true, false, false, false, false, false, false, false, false, false, false, false, false, false, false, false, false, false] rfl rfl (any_of HT_.out (by kernel_rfl)) (fun _ _ _ h => h) (Or.inl ⟨by rfl, ?_⟩) ?_ ?_; rotate_left
           ·intro w'
            go_simp
            with_reducible rfl
           rotate_left
           ·simp only [Act.put, zC, zD, zE, i64_w]
            rfl
           refine pure_ (i := 6) (N := some 26) (v := ?_) (a' := ?_) #[true, true, true, false, true, false, true, false, false, false, false, false, false, false, false, false, false, false, false, false, false, false] rfl rfl (any_of HT_.out (by kernel_rfl)) (fun _ _ _ h => h) (Or.inl ⟨by rfl, ?_⟩) ?_ ?_; rotate_left
           ·intro w'
            go_simp
            with_reducible rfl
           rotate_left
           ·simp only [Act.put, zC, zD, zE, i64_w]
            rfl
           refine pure_ (i := 8) (N := some 28) (v := ?_) (a' := ?_) #[true, true, true, false, true, false, true, false, true, false, false, false, false, false, false, false, false, false, false, false, false, false] rfl rfl (any_of HT_.out (by kernel_rfl)) (fun _ _ _ h => h) (Or.inl ⟨by rfl, ?_⟩) ?_ ?_; rotate_left
           ·intro w'
            go_simp
            with_reducible rfl
           rotate_left
           ·simp only [Act.put, zC, zD, zE, i64_w]
            rfl
           refine pure_ (i := 14) (N := some 34) (v := ?_) (a' := ?_) #[true, true, true, false, true, false, true, false, true, false, false, false, false, false, true, false, false, false, false, false, false, false] rfl rfl (any_of HT_.out (by kernel_rfl)) (fun _ _ _ h => h) (Or.inl ⟨by rfl, ?_⟩) ?_ ?_; rotate_left
           ·intro w'
            go_simp
            with_reducible rfl
           rotate_left
           ·simp only [Act.put, zC, zD, zE, i64_w]
            rfl
           refine pure_ (i := 16) (N := some 36) (v := ?_) (a' := ?_) #[true, true, true, false, true, false, true, false, true, false, false, false, false, false, true, false, true, false, false, false, false, false] rfl rfl (any_of HT_.out (by kernel_rfl)) (fun _ _ _ h => h) (Or.inl ⟨by rfl, ?_⟩) ?_ ?_; rotate_left
           ·intro w'
            go_simp
            with_reducible rfl
           rotate_left
           ·simp only [Act.put, zC, zD, zE, i64_w]
            rfl
           refine take_ (i := 7) (N := some 27) (v := ?_) (a' := ?_) #[true, true, true, false, true, false, true, true, true, false, false, false, false, false, true, false, true, false, false, false, false, false] rfl rfl (take_ofW HT_.out HW_.out (by kernel_rfl)) (fun _ _ _ h => h) (Or.inl ⟨by rfl, ?_⟩) hHeld ?_ ?_; rotate_left
           ·rintro w' ⟨s0, s1, s2, s3, s4, s5⟩
            go_simp
            with_reducible rfl
           rotate_left
           ·simp only [Act.put, zC, zD, zE, i64_w]
            rfl
           refine pure_ (i := 9) (N := some 29) (v := ?_) (a' := ?_) #[true, true, true, false, true, false, true, true, true, true, false, false, false, false, true, false, true, false, false, false, false, false] rfl rfl (any_of HT_.out (by kernel_rfl)) (fun _ _ _ h => h) (Or.inl ⟨by rfl, ?_⟩) ?_ ?_; rotate_left
           ·intro w'
            go_simp
            with_reducible rfl
           rotate_left
           ·simp only [Act.put, zC, zD, zE, i64_w]
            rfl
           refine take_ (i := 10) (N := some 30) (v := ?_) (a' := ?_) #[true, true, true, false, true, false, true, true, true, true, true, false, false, false, true, false, true, false, false, false, false, false] rfl rfl (take_ofW HT_.out HW_.out (by kernel_rfl)) (fun _ _ _ h => h) (Or.inl ⟨by rfl, ?_⟩) hHeld ?_ ?_; rotate_left
           ·rintro w' ⟨s0, s1, s2, s3, s4, s5⟩
            go_simp
            with_reducible rfl
           rotate_left
           ·simp only [Act.put, zC, zD, zE, i64_w]
            rfl
           refine pure_ (i := 11) (N := some 31) (v := ?_) (a' := ?_) #[true, true, true, false, true, false, true, true, true, true, true, true, false, false, true, false, true, false, false, false, false, false] rfl rfl (any_of HT_.out (by kernel_rfl)) (fun _ _ _ h => h) (Or.inl ⟨by rfl, ?_⟩) ?_ ?_; rotate_left
           ·intro w'
            go_simp
            with_reducible rfl
           rotate_left
           ·simp only [Act.put, zC, zD, zE, i64_w]
            rfl
           refine take_ (i := 15) (N := some 35) (v := ?_) (a' := ?_) #[true, true, true, false, true, false, true, true, true, true, true, true, false, false, true, true, true, false, false, false, false, false] rfl rfl (take_ofW HT_.out HW_.out (by kernel_rfl)) (fun _ _ _ h => h) (Or.inl ⟨by rfl, ?_⟩) hHeld ?_ ?_; rotate_left
           ·rintro w' ⟨s0, s1, s2, s3, s4, s5⟩
            go_simp
            with_reducible rfl
           rotate_left
           ·simp only [Act.put, zC, zD, zE, i64_w]
            rfl
           refine pure_ (i := 17) (N := some 37) (v := ?_) (a' := ?_) #[true, true, true, false, true, false, true, true, true, true, true, true, false, false, true, true, true, true, false, false, false, false] rfl rfl (any_of HT_.out (by kernel_rfl)) (fun _ _ _ h => h) (Or.inl ⟨by rfl, ?_⟩) ?_ ?_; rotate_left
           ·intro w'
            go_simp
            with_reducible rfl
           rotate_left
           ·simp only [Act.put, zC, zD, zE, i64_w]
            rfl
           refine take_ (i := 18) (N := some 38) (v := ?_) (a' := ?_) #[true, true, true, false, true, false, true, true, true, true, true, true, false, false, true, true, true, true, true, false, false, false] rfl rfl (take_ofW HT_.out HW_.out (by kernel_rfl)) (fun _ _ _ h => h) (Or.inl ⟨by rfl, ?_⟩) hHeld ?_ ?_; rotate_left
           ·rintro w' ⟨s0, s1, s2, s3, s4, s5⟩
            go_simp
            with_reducible rfl
           rotate_left
           ·simp only [Act.put, zC, zD, zE, i64_w]
            rfl
           refine one_ (i := 3) (N := some 23) #[true, true, true, true, true, false, true, true, true, true, true, true, false, false, true, true, true, true, true, false, false, false] rfl rfl (one_of HT_.out (by kernel_rfl)) (by decide) (fun K hK => ?_); refine goes_ Tryz.func124 (by kernel_rfl) rfl #[.int .i64 ((rdOf ByteArray.empty l0_0 x15_1).size : Int)] (by rfl) rfl rfl (by (try simp only [zAA, zAB, zAC]); first | done | rfl) ?_
           with_reducible refine (impl_oneByte.calls ((rdOf ByteArray.empty l0_0 x15_1).size : Int) t31 _ A10.out).mono ?_
           rintro e w18 ⟨rfl, hb⟩; refine ⟨_, rfl, ?_⟩; have n0_ := zA (yE (g := gb30) (o := .cells #[.slice (some ad36) l0_0.length c0_0, .slice (some ad37) l0_1.length c0_1, .slice A0_2 l0_2.length c0_2, .int .i64 a0_3] 85 (0, 0)) (by (with_reducible repeat (first | refine zL ?_ _ | refine zN ?_ | refine zM ?_ _)); exact BK30.out) hb); have n1_ := zA (zAD (by repeat (first | (with_reducible first | exact HB.out | apply zH | apply zF | apply zG | refine zI ?_ GE30.out) | exact HB.out)) hb); clear BK30 HB; have BK30 := n0_; have HB := n1_; clear n0_ n1_; (try clear hb); refine hK.out _ _ ⟨(zP BK30.out 0).trans rfl, (zP BK30.out 1).trans rfl, (zP BK30.out 2).trans rfl, (zP BK30.out 3).trans rfl, ((HB.out.cell (zB w _ hw37_0)).trans hw37_0), ((HB.out.cell (zB w _ hw38_0)).trans hw38_0)⟩ (fun hHeld => ?_); clear hK K; refine norm_ (a' := ?_) ?_ ?_; rotate_left
           ·show Act.put _ (some 23) _ = _
            simp only [Act.put, zC, zD, zE, i64_w]; rfl
           refine pure_ (i := 5) (N := some 25) (v := ?_) (a' := ?_) #[true, true, true, true, true, true, true, true, true, true, true, true, false, false, true, true, true, true, true, false, false, false] rfl rfl (any_of HT_.out (by kernel_rfl)) (fun _ _ _ h => h) (Or.inl ⟨by rfl, ?_⟩) ?_ ?_; rotate_left
           ·intro w'
            go_simp
            with_reducible rfl
           rotate_left
           ·simp only [Act.put, zC, zD, zE, i64_w]
            rfl
           refine one_ (i := 12) (N := some 32) #[true, true, true, true, true, true, true, true, true, true, true, true, true, false, true, true, true, true, true, false, false, false] rfl rfl (one_of HT_.out (by kernel_rfl)) (by decide) (fun K hK => ?_); refine goes_ Tryz.func124 (by kernel_rfl) rfl #[.int .i64 ((rdOf ByteArray.empty l0_1 x15_1).size : Int)] (by rfl) rfl rfl (by (try simp only [zAA, zAB, zAC]); first | done | rfl) ?_
           with_reducible refine (impl_oneByte.calls ((rdOf ByteArray.empty l0_1 x15_1).size : Int) t34 _ A13.out).mono ?_
           rintro e w19 ⟨rfl, hb⟩; refine ⟨_, rfl, ?_⟩; have n0_ := zA (yE (g := gb30) (o := .cells #[.slice (some ad36) l0_0.length c0_0, .slice (some ad37) l0_1.length c0_1, .slice A0_2 l0_2.length c0_2, .int .i64 a0_3] 85 (0, 0)) (by (with_reducible repeat (first | refine zL ?_ _ | refine zN ?_ | refine zM ?_ _)); exact BK30.out) hb); have n1_ := zA (zAD (by repeat (first | (with_reducible first | exact HB.out | apply zH | apply zF | apply zG | refine zI ?_ GE30.out) | exact HB.out)) hb); clear BK30 HB; have BK30 := n0_; have HB := n1_; clear n0_ n1_; (try clear hb); refine hK.out _ _ ⟨(zP BK30.out 0).trans rfl, (zP BK30.out 1).trans rfl, (zP BK30.out 2).trans rfl, (zP BK30.out 3).trans rfl, ((HB.out.cell (zB w _ hw37_0)).trans hw37_0), ((HB.out.cell (zB w _ hw38_0)).trans hw38_0)⟩ (fun hHeld => ?_); clear hK K; refine norm_ (a' := ?_) ?_ ?_; rotate_left
           ·show Act.put _ (some 32) _ = _
            simp only [Act.put, zC, zD, zE, i64_w]; rfl
           refine pure_ (i := 13) (N := some 33) (v := ?_) (a' := ?_) #[true, true, true, true, true, true, true, true, true, true, true, true, true, true, true, true, true, true, true, false, false, false] rfl rfl (any_of HT_.out (by kernel_rfl)) (fun _ _ _ h => h) (Or.inl ⟨by rfl, ?_⟩) ?_ ?_; rotate_left
           ·intro w'
            go_simp
            with_reducible rfl
           rotate_left
           ·simp only [Act.put, zC, zD, zE, i64_w]
            rfl
           refine pure_ (i := 19) (N := some 39) (v := ?_) (a' := ?_) #[true, true, true, true, true, true, true, true, true, true, true, true, true, true, true, true, true, true, true, true, false, false] rfl rfl (any_of HT_.out (by kernel_rfl)) (fun _ _ _ h => h) (Or.inl ⟨by rfl, ?_⟩) ?_ ?_; rotate_left
           ·intro w'
            go_simp
            with_reducible rfl
           rotate_left
           ·simp only [Act.put, zC, zD, zE, i64_w]
            rfl
           refine pure_ (i := 20) (N := some 40) (v := ?_) (a' := ?_) #[true, true, true, true, true, true, true, true, true, true, true, true, true, true, true, true, true, true, true, true, true, false] rfl rfl (any_of HT_.out (by kernel_rfl)) (fun _ _ _ h => h) (Or.inl ⟨by rfl, ?_⟩) ?_ ?_; rotate_left
           ·intro w'
            go_simp
            with_reducible rfl
           rotate_left
           ·simp only [Act.put, zC, zD, zE, i64_w]
            rfl
           refine pure_ (i := 21) (N := some 3) (v := ?_) (a' := ?_) #[true, true, true, true, true, true, true, true, true, true, true, true, true, true, true, true, true, true, true, true, true, true] rfl rfl (any_of HT_.out (by kernel_rfl)) (fun _ _ _ h => h) (Or.inl ⟨by rfl, ?_⟩) ?_ ?_; rotate_left
           ·intro w'
            go_simp
            with_reducible rfl
           rotate_left
           ·simp only [Act.put, zC, zD, zE, i64_w]
            rfl
           refine done_ (done_of HT_.out (by kernel_rfl)) ?_
           try go_wp2
           go_roundg k1
           case measure => have := HK1.out; omega
           case rel => exact ⟨(x3_1 ++ (((t31 ++ (rdOf ByteArray.empty l0_0 x15_1)) ++ t34) ++ (rdOf ByteArray.empty l0_1 x15_1))), (wrap64 (x15_1 + 1)), (by first | rfl | (simp; done) | (simp [*]; done) | (simp [bne]; done)), (by first | rfl | (simp; done) | (simp [*]; done) | (simp [bne]; done)), H', ⟨by have := HK1.out; omega⟩, ⟨by (with_reducible repeat (first | refine zL ?_ _ | refine zN ?_ | refine zM ?_ _)); exact BK30.out⟩, ⟨by repeat (first | (with_reducible first | exact HB.out | apply zH | apply zF | apply zG | refine zI ?_ GE30.out) | exact HB.out)⟩⟩
          ·rw [if_neg c16] at H
           exact absurd H (by simp)
         ·rw [if_neg c15] at H
          exact absurd H (by simp)
        ·rw [if_neg c14] at H
         exact absurd H (by simp)
       ·rw [if_neg c12] at H
        exact absurd H (by simp)
      ·rw [if_neg c11] at H
       exact absurd H (by simp)
     ·rw [if_neg c9] at H
      exact absurd H (by simp)
    ·rw [if_neg c8] at H
     exact absurd H (by simp)
   ·rw [if_neg c7] at H
    have c7b0 : decide (x15_1 < (l0_0.length : Int)) = false := decide_eq_false c7; clear c7; replace H := zAF H; obtain ⟨t39, A40, H⟩ := H; replace H : (if x3_1.size + t39.size ≤ 9223372036854775807 then (impl_Shown_bytes.l1 k1 (x3_1 ++ t39) l0_2 (l0_2.length : Int) 0) else (none)) = some r := H; have A20 := zA A40; clear A40
    by_cases c21 : x3_1.size + t39.size ≤ 9223372036854775807
    ·rw [if_pos c21] at H
     have c21b0 := eq_true c21; have c21b1 : decide (x3_1.size + t39.size ≤ 9223372036854775807) = true := zX c21
     try have c21b2 : (9223372036854775807 < x3_1.size + t39.size) = False := eq_false (Nat.not_lt.2 c21)
     have H' := zA H; clear H; have hcz22_0 := yL BK30.out 0 (.slice A0_0 l0_0.length c0_0) rfl; have hcz22_1 := yL BK30.out 1 (.slice A0_1 l0_1.length c0_1) rfl; have hcz22_2 := yL BK30.out 2 (.slice A0_2 l0_2.length c0_2) rfl; have hcz22_3 := yL BK30.out 3 (.int .i64 a0_3) rfl; have hfz22_0 := zO BK30.out 0; have hfz22_1 := zO BK30.out 1; have hfz22_2 := zO BK30.out 2; have hfz22_3 := zO BK30.out 3; go_wp2_with (first | ((with_reducible refine yB (f := 124) rfl ?_); refine goesL_ (some 46) rfl rfl Tryz.func124 (by kernel_rfl) rfl #[.int .i64 (l0_2.length : Int)] rfl (by (try simp only [zAA, zAB, zAC]); first | done | rfl | (simp only [zZ, zY]; rfl)) ?_; (with_reducible refine (impl_oneByte.calls (l0_2.length : Int) t39 _ A20.out).mono ?_); rintro e w23 ⟨rfl, hb⟩; refine ⟨_, rfl, ?_⟩; have n0_ := zA (yE (g := gb30) (o := .cells #[.slice A0_0 l0_0.length c0_0, .slice A0_1 l0_1.length c0_1, .slice A0_2 l0_2.length c0_2, .int .i64 a0_3] 85 (0, 0)) (by (with_reducible repeat (first | refine zL ?_ _ | refine zN ?_ | refine zM ?_ _)); exact BK30.out) hb); have n1_ := zA (zAD (by repeat (first | (with_reducible first | exact HB.out | apply zH | apply zF | apply zG | refine zI ?_ GE30.out) | exact HB.out)) hb); clear BK30; clear HB; have BK30 := n0_; have HB := n1_; clear n0_ n1_; (try clear hb); have hcz24_0 := yL BK30.out 0 (.slice A0_0 l0_0.length c0_0) rfl; have hcz24_1 := yL BK30.out 1 (.slice A0_1 l0_1.length c0_1) rfl; have hcz24_2 := yL BK30.out 2 (.slice A0_2 l0_2.length c0_2) rfl; have hcz24_3 := yL BK30.out 3 (.int .i64 a0_3) rfl; have hfz24_0 := zO BK30.out 0; have hfz24_1 := zO BK30.out 1; have hfz24_2 := zO BK30.out 2; have hfz24_3 := zO BK30.out 3)); go_loopg [3, 51] k1 (fun kq v3 v51 w' => ∃ (x3_2 : ByteArray) (x51_2 : Int), v3 = .string x3_2 ∧ v51 = .int .i64 x51_2 ∧ Aside0 (impl_Shown_bytes.l1 kq x3_2 l0_2 (l0_2.length : Int) x51_2 = some r) ∧ Aside0 (kq ≤ k1) ∧ Aside0 (w'.heap[gb30]? = some (.cells #[(.slice A0_0 l0_0.length c0_0), (.slice A0_1 l0_1.length c0_1), (.slice A0_2 l0_2.length c0_2), .int .i64 a0_3] 85 (0, 0))) ∧ Aside0 (Below w.heap.size w w'))
     case atStart => exact ⟨(x3_1 ++ t39), (0), (by first | rfl | (simp; done) | (simp [*]; done) | (simp [bne]; done)), (by first | rfl | (simp; done) | (simp [*]; done) | (simp [bne]; done)), H', ⟨Nat.le_refl _⟩, ⟨by (with_reducible repeat (first | refine zL ?_ _ | refine zN ?_ | refine zM ?_ _)); exact BK30.out⟩, ⟨by repeat (first | (with_reducible first | exact HB.out | apply zH | apply zF | apply zG | refine zI ?_ GE30.out) | exact HB.out)⟩⟩
     case round =>
      clear H'
      try clear c1
      try clear c2
      try clear p2
      try clear p4
      try clear q4
      try clear hx4
      try clear p6
      try clear c7
      try clear c7b0
      try clear c8
      try clear c8b0
      try clear c9
      try clear c9b0
      try clear c11
      try clear c11b0
      try clear c11b1
      try clear c11b2
      try clear c12
      try clear c12b0
      try clear c14
      try clear c14b0
      try clear c14b1
      try clear c14b2
      try clear c15
      try clear c15b0
      try clear c15b1
      try clear c15b2
      try clear c16
      try clear c16b0
      try clear c16b1
      try clear c16b2
      try clear c21
      try clear c21b0
      try clear c21b1
      try clear c21b2
      try clear hcz22_0
      try clear hcz22_1
      try clear hcz22_2
      try clear hcz22_3
      try clear hcz24_0
      try clear hcz24_1
      try clear hcz24_2
      try clear hcz24_3
      try clear hcz4_0
      try clear hcz4_1
      try clear hcz4_2
      try clear hcz4_3
      try clear hcz6_0
      try clear hcz6_1
      try clear hcz6_2
      try clear hcz6_3
      try clear hfz22_0
      try clear hfz22_1
      try clear hfz22_2
      try clear hfz22_3
      try clear hfz24_0
      try clear hfz24_1
      try clear hfz24_2
      try clear hfz24_3
      try clear hfz4_0
      try clear hfz4_1
      try clear hfz4_2
      try clear hfz4_3
      try clear hfz6_0
      try clear hfz6_1
      try clear hfz6_2
      try clear hfz6_3
      try clear hx36_0
      try clear hx37_0
      try clear hx38_0
      try clear p2
      try clear p36
      try clear p37
      try clear p38
      try clear q36
      try clear q37
      try clear q38
      obtain ⟨x3_2, x51_2, rfl, rfl, HA, HK2, BK30, HB⟩ := hrel
      cases gk with
      | zero => exact absurd HA.out (by simp [impl_Shown_bytes.l1])
      | succ k2 =>
       have H := HA.out; clear HA; simp only [impl_Shown_bytes.l1] at H
       by_cases c25 : x51_2 < (l0_2.length : Int)
       ·rw [if_pos c25] at H
        have c25b0 : decide (x51_2 < (l0_2.length : Int)) = true := zX c25; clear c25
        by_cases c26 : 0 ≤ x51_2
        ·rw [if_pos c26] at H
         have c26b0 : decide (0 ≤ x51_2) = true := zX c26; clear c26
         by_cases c27 : x51_2 < (l0_2.length : Int)
         ·rw [if_pos c27] at H
          have c27b0 : decide (x51_2 < (l0_2.length : Int)) = true := zX c27; clear c27
          by_cases c28 : x3_2.size + (rdOf ByteArray.empty l0_2 x51_2).size ≤ 9223372036854775807
          ·rw [if_pos c28] at H
           have c28b0 := eq_true c28; have c28b1 : decide (x3_2.size + (rdOf ByteArray.empty l0_2 x51_2).size ≤ 9223372036854775807) = true := zX c28
           try have c28b2 : (9223372036854775807 < x3_2.size + (rdOf ByteArray.empty l0_2 x51_2).size) = False := eq_false (Nat.not_lt.2 c28)
           have H' := zA H; clear H; have p41 : 0 ≤ (x51_2 : Int) := zW (by first | (with_reducible assumption) | assumption); have q41 : x51_2 < (l0_2.length : Int) := zW (by first | (with_reducible assumption) | assumption); obtain ⟨ad41, e41, hx41_0⟩ := Kd.at_string HR0_2.out x51_2 p41 q41
           cases e41
           replace hx41_0 := (HB.out.cell (zB w _ hx41_0)).trans hx41_0; replace p41 := eq_true p41; replace q41 := eq_true q41; go_wp2; go_roundg k2
           case measure => have := HK1.out; have := HK2.out; omega
           case rel => exact ⟨(x3_2 ++ (rdOf ByteArray.empty l0_2 x51_2)), (wrap64 (x51_2 + 1)), (by first | rfl | (simp; done) | (simp [*]; done) | (simp [bne]; done)), (by first | rfl | (simp; done) | (simp [*]; done) | (simp [bne]; done)), H', ⟨by have := HK1.out; have := HK2.out; omega⟩, ⟨by (with_reducible repeat (first | refine zL ?_ _ | refine zN ?_ | refine zM ?_ _)); exact BK30.out⟩, ⟨by repeat (first | (with_reducible first | exact HB.out | apply zH | apply zF | apply zG | refine zI ?_ GE30.out) | exact HB.out)⟩⟩
          ·rw [if_neg c28] at H
           exact absurd H (by simp)
         ·rw [if_neg c27] at H
          exact absurd H (by simp)
        ·rw [if_neg c26] at H
         exact absurd H (by simp)
       ·rw [if_neg c25] at H
        have c25b0 : decide (x51_2 < (l0_2.length : Int)) = false := decide_eq_false c25; clear c25; obtain rfl := yM H; go_wp2; go_ret; exact ⟨by first | rfl | (simp <;> rfl) | (simp [*] <;> rfl), by repeat (first | (with_reducible first | exact HB.out | apply zH | apply zF | apply zG | refine zI ?_ GE30.out) | exact HB.out)⟩
    ·rw [if_neg c21] at H
     exact absurd H (by simp)
def impl_Shown_digest.f (k : Nat) (l0_0 : List ByteArray) (l0_1 : List ByteArray) (l0_2 : List ByteArray) (a0_3 : Int) : Option (ByteArray) := (impl_Shown_bytes.f k l0_0 l0_1 l0_2 a0_3).bind fun t10 => ((impl_digest.f k 103 t10).bind fun t11 => (some t11))
theorem impl_Shown_digest.calls (k : Nat) (A0_0 : Option Addr) (c0_0 : Nat) (l0_0 : List ByteArray) (A0_1 : Option Addr) (c0_1 : Nat) (l0_1 : List ByteArray) (A0_2 : Option Addr) (c0_2 : Nat) (l0_2 : List ByteArray) (a0_3 : Int) (r : ByteArray) (w : World) (hr0_0 : Kd.C Kd.string w A0_0 l0_0.length l0_0) (hc0_0 : l0_0.length ≤ c0_0) (hr0_1 : Kd.C Kd.string w A0_1 l0_1.length l0_1) (hc0_1 : l0_1.length ≤ c0_1) (hr0_2 : Kd.C Kd.string w A0_2 l0_2.length l0_2) (hc0_2 : l0_2.length ≤ c0_2) (h : impl_Shown_digest.f k l0_0 l0_1 l0_2 a0_3 = some r) :
  Calls Tryz.prog 65 #[.agg #[.slice A0_0 l0_0.length c0_0, .slice A0_1 l0_1.length c0_1, .slice A0_2 l0_2.length c0_2, .int .i64 a0_3]] w fun e w' => e = .returned (.string r) ∧ Below w.heap.size w w' := by
 have hu85 := Tryz.underlying85; have HR0_0 := zA hr0_0; have HC0_0 := zA hc0_0; clear hr0_0 hc0_0; have HR0_1 := zA hr0_1; have HC0_1 := zA hc0_1; clear hr0_1 hc0_1; have HR0_2 := zA hr0_2; have HC0_2 := zA hc0_2; clear hr0_2 hc0_2; have HB := zA (Below.refl w.heap.size w); have H : ((impl_Shown_bytes.f k l0_0 l0_1 l0_2 a0_3).bind fun t10 => ((impl_digest.f k 103 t10).bind fun t11 => (some t11))) = some r := h; clear h; replace H := zAF H; obtain ⟨t10, A20, H⟩ := H; replace H : ((impl_digest.f k 103 t10).bind fun t11 => (some t11)) = some r := H; have A2 := zA A20; clear A20; replace H := zAF H; obtain ⟨t11, A30, H⟩ := H; replace H : (some t11) = some r := H; have A3 := zA A30; clear A30; obtain rfl := yM H; go_enter Tryz.func65, Tryz.ntmps65; go_wp2_with (first | ((with_reducible refine gate_dst (N := 1) rfl ?_); refine box_event ?hg (N := 1) ?hd (cs := #[.slice A0_0 l0_0.length c0_0, .slice A0_1 l0_1.length c0_1, .slice A0_2 l0_2.length c0_2, .int .i64 a0_3]) (t := 85) ?hr ?_; (case hd => rfl); (case hg => rfl); (case hr => first | (go_simp; done) | (go_simp; rfl)); intro gb12 hg w4 hbox hb; have n0_ := zA (zAD (by (with_reducible repeat first | exact HB.out | apply zH | apply zF | apply zG) <;> exact HB.out) hb); have n1_ := zA (hbox); have n2_ := zA ((by rw [hg]; exact (zAE (by (with_reducible repeat first | exact HB.out | apply zH | apply zF | apply zG) <;> exact HB.out)) : w.heap.size ≤ gb12)); have n3_ := zA ((by rw [hg]; exact (zAE (by (with_reducible repeat first | exact HB.out | apply zH | apply zF | apply zG) <;> exact HB.out)) : w.heap.size ≤ gb12)); clear HB; have HB := n0_; have BK12 := n1_; have GW12 := n2_; have GE12 := n3_; clear n0_ n1_ n2_ n3_; clear hb hbox hg; have hcz5_0 := yL BK12.out 0 (.slice A0_0 l0_0.length c0_0) rfl; have hcz5_1 := yL BK12.out 1 (.slice A0_1 l0_1.length c0_1) rfl; have hcz5_2 := yL BK12.out 2 (.slice A0_2 l0_2.length c0_2) rfl; have hcz5_3 := yL BK12.out 3 (.int .i64 a0_3) rfl; have hfz5_0 := zO BK12.out 0; have hfz5_1 := zO BK12.out 1; have hfz5_2 := zO BK12.out 2; have hfz5_3 := zO BK12.out 3) | ((with_reducible refine yB (f := 96) rfl ?_); refine goesL_ (some 4) rfl rfl Tryz.func96 (by kernel_rfl) rfl #[.agg #[.slice A0_0 l0_0.length c0_0, .slice A0_1 l0_1.length c0_1, .slice A0_2 l0_2.length c0_2, .int .i64 a0_3]] rfl (by (try simp only [zAA, zAB, zAC]); first | done | rfl | (simp only [zZ, zY]; rfl)) ?_; (with_reducible refine (impl_Shown_bytes.calls k _ _ l0_0 _ _ l0_1 _ _ l0_2 a0_3 t10 _ ?side1 ?side2 ?side3 ?side4 ?side5 ?side6 A2.out).mono ?_); (case side1 => repeat (first | exact (yN HR0_0.out HB.out) | (with_reducible first | refine zT ?_ _ | refine zU ?_ _ | refine zV ?_))); (case side2 => exact HC0_0.out); (case side3 => repeat (first | exact (yN HR0_1.out HB.out) | (with_reducible first | refine zT ?_ _ | refine zU ?_ _ | refine zV ?_))); (case side4 => exact HC0_1.out); (case side5 => repeat (first | exact (yN HR0_2.out HB.out) | (with_reducible first | refine zT ?_ _ | refine zU ?_ _ | refine zV ?_))); (case side6 => exact HC0_2.out); rintro e w6 ⟨rfl, hb⟩; refine ⟨_, rfl, ?_⟩; have n0_ := zA (yE (g := gb12) (o := .cells #[.slice A0_0 l0_0.length c0_0, .slice A0_1 l0_1.length c0_1, .slice A0_2 l0_2.length c0_2, .int .i64 a0_3] 85 (0, 0)) (by (with_reducible repeat (first | refine zL ?_ _ | refine zN ?_ | refine zM ?_ _)); exact BK12.out) hb); have n1_ := zA (zAD (by repeat (first | (with_reducible first | exact HB.out | apply zH | apply zF | apply zG | refine zI ?_ GE12.out) | exact HB.out)) hb); clear BK12; clear HB; have BK12 := n0_; have HB := n1_; clear n0_ n1_; (try clear hb)) | ((with_reducible refine yB (f := 93) rfl ?_); refine goesL_ (some 5) rfl rfl Tryz.func93 (by kernel_rfl) rfl #[.int .u8 103, .string t10] rfl (by (try simp only [zAA, zAB, zAC]); first | done | rfl) ?_; (with_reducible refine (impl_digest.calls k 103 t10 t11 _ A3.out).mono ?_); rintro e w7 ⟨rfl, hb⟩; refine ⟨_, rfl, ?_⟩; have n0_ := zA (yE (g := gb12) (o := .cells #[.slice A0_0 l0_0.length c0_0, .slice A0_1 l0_1.length c0_1, .slice A0_2 l0_2.length c0_2, .int .i64 a0_3] 85 (0, 0)) (by (with_reducible repeat (first | refine zL ?_ _ | refine zN ?_ | refine zM ?_ _)); exact BK12.out) hb); have n1_ := zA (zAD (by repeat (first | (with_reducible first | exact HB.out | apply zH | apply zF | apply zG | refine zI ?_ GE12.out) | exact HB.out)) hb); clear BK12; clear HB; have BK12 := n0_; have HB := n1_; clear n0_ n1_; (try clear hb))); go_ret; exact ⟨by first | rfl | (simp <;> rfl) | (simp [*] <;> rfl), by repeat (first | (with_reducible first | exact HB.out | apply zH | apply zF | apply zG | refine zI ?_ GE12.out) | exact HB.out)⟩
def cmp_isNaN_string.f (a0 : ByteArray) : Option (Bool) := some (a0.toList != a0.toList)
theorem cmp_isNaN_string.calls (a0 : ByteArray) (r : Bool) (w : World) (h : cmp_isNaN_string.f a0 = some r) :
  Calls Tryz.prog 150 #[.string a0] w fun e w' => e = .returned (.bool r) ∧ Drawn0 w w' := by
 have H : (some (a0.toList != a0.toList)) = some r := h; clear h; obtain rfl := yM H; go_enter Tryz.func150, Tryz.ntmps150; go_wp2; go_ret; exact ⟨by first | rfl | (simp; done) | (simp [*]; done) | (simp [bne]; done), by repeat (first | exact Drawn0.refl _ | apply Drawn0.step)⟩
def cmp_Less_string.f (a0 : ByteArray) (a1 : ByteArray) : Option (Bool) := (cmp_isNaN_string.f a0).bind fun t10 => (if t10 = true then ((cmp_isNaN_string.f a1).bind fun t11 => (if t11 = true then (some (Op.bytesLess a0.toList a1.toList)) else (some true))) else (some (Op.bytesLess a0.toList a1.toList)))
theorem cmp_Less_string.calls (a0 : ByteArray) (a1 : ByteArray) (r : Bool) (w : World) (h : cmp_Less_string.f a0 a1 = some r) :
  Calls Tryz.prog 131 #[.string a0, .string a1] w fun e w' => e = .returned (.bool r) ∧ Drawn0 w w' := by
 have H : ((cmp_isNaN_string.f a0).bind fun t10 => (if t10 = true then ((cmp_isNaN_string.f a1).bind fun t11 => (if t11 = true then (some (Op.bytesLess a0.toList a1.toList)) else (some true))) else (some (Op.bytesLess a0.toList a1.toList)))) = some r := h; clear h; replace H := zAF H; obtain ⟨t10, A30, H⟩ := H; replace H : (if t10 = true then ((cmp_isNaN_string.f a1).bind fun t11 => (if t11 = true then (some (Op.bytesLess a0.toList a1.toList)) else (some true))) else (some (Op.bytesLess a0.toList a1.toList))) = some r := H; have A3 := zA A30; clear A30
 by_cases c4 : t10 = true
 ·subst c4
  have H1 : ((cmp_isNaN_string.f a1).bind fun t11 => (if t11 = true then (some (Op.bytesLess a0.toList a1.toList)) else (some true))) = some r := by rw [if_pos rfl] at H; exact H
  clear H; have H := H1; clear H1; replace H := zAF H; obtain ⟨t11, A50, H⟩ := H; replace H : (if t11 = true then (some (Op.bytesLess a0.toList a1.toList)) else (some true)) = some r := H; have A5 := zA A50; clear A50
  by_cases c6 : t11 = true
  ·subst c6
   have H1 : (some (Op.bytesLess a0.toList a1.toList)) = some r := by rw [if_pos rfl] at H; exact H
   clear H; have H := H1; clear H1; obtain rfl := yM H; go_enter Tryz.func131, Tryz.ntmps131; go_wp2_with (first | ((with_reducible refine yB (f := 150) rfl ?_); refine goesL_ (some 6) rfl rfl Tryz.func150 (by kernel_rfl) rfl #[.string a0] rfl (by (try simp only [zAA, zAB, zAC]); first | done | rfl) ?_; (with_reducible refine (cmp_isNaN_string.calls a0 true _ A3.out).mono ?_); rintro e w' ⟨rfl, ⟨nd, rfl⟩⟩; refine ⟨_, rfl, ?_⟩) | (go_at_call 150; (with_reducible refine (cmp_isNaN_string.calls a1 true _ A5.out).mono ?_); rintro e w' ⟨rfl, ⟨nd, rfl⟩⟩)); go_ret; exact ⟨by first | rfl | (simp; done) | (simp [*]; done) | (simp [bne]; done), by repeat (first | exact Drawn0.refl _ | apply Drawn0.step)⟩
  ·replace c6 := yO c6
   subst c6; have H1 : (some true) = some r := by rw [if_neg (show ¬ (false = true) by decide)] at H; exact H
   clear H; have H := H1; clear H1; obtain rfl := yM H; go_enter Tryz.func131, Tryz.ntmps131; go_wp2_with (first | ((with_reducible refine yB (f := 150) rfl ?_); refine goesL_ (some 6) rfl rfl Tryz.func150 (by kernel_rfl) rfl #[.string a0] rfl (by (try simp only [zAA, zAB, zAC]); first | done | rfl) ?_; (with_reducible refine (cmp_isNaN_string.calls a0 true _ A3.out).mono ?_); rintro e w' ⟨rfl, ⟨nd, rfl⟩⟩; refine ⟨_, rfl, ?_⟩) | (go_at_call 150; (with_reducible refine (cmp_isNaN_string.calls a1 false _ A5.out).mono ?_); rintro e w' ⟨rfl, ⟨nd, rfl⟩⟩)); go_ret; exact ⟨by first | rfl | (simp; done) | (simp [*]; done) | (simp [bne]; done), by repeat (first | exact Drawn0.refl _ | apply Drawn0.step)⟩
 ·replace c4 := yO c4
  subst c4; have H1 : (some (Op.bytesLess a0.toList a1.toList)) = some r := by rw [if_neg (show ¬ (false = true) by decide)] at H; exact H
  clear H; have H := H1; clear H1; obtain rfl := yM H; go_enter Tryz.func131, Tryz.ntmps131; go_wp2_with (first | ((with_reducible refine yB (f := 150) rfl ?_); refine goesL_ (some 6) rfl rfl Tryz.func150 (by kernel_rfl) rfl #[.string a0] rfl (by (try simp only [zAA, zAB, zAC]); first | done | rfl) ?_; (with_reducible refine (cmp_isNaN_string.calls a0 false _ A3.out).mono ?_); rintro e w' ⟨rfl, ⟨nd, rfl⟩⟩; refine ⟨_, rfl, ?_⟩)); go_ret; exact ⟨by first | rfl | (simp; done) | (simp [*]; done) | (simp [bne]; done), by repeat (first | exact Drawn0.refl _ | apply Drawn0.step)⟩
def slices_isNaN_string.f (a0 : ByteArray) : Option (Bool) := some (a0.toList != a0.toList)
theorem slices_isNaN_string.calls (a0 : ByteArray) (r : Bool) (w : World) (h : slices_isNaN_string.f a0 = some r) :
  Calls Tryz.prog 132 #[.string a0] w fun e w' => e = .returned (.bool r) ∧ Drawn0 w w' := by
 have H : (some (a0.toList != a0.toList)) = some r := h; clear h; obtain rfl := yM H; go_enter Tryz.func132, Tryz.ntmps132; go_wp2; go_ret; exact ⟨by first | rfl | (simp; done) | (simp [*]; done) | (simp [bne]; done), by repeat (first | exact Drawn0.refl _ | apply Drawn0.step)⟩
def slices_BinarySearch_string_string.l0 : Nat → List ByteArray → ByteArray → Int → Int → Int → Option (Int × Bool)
 | 0, _, _, _, _, _ => none
 | k + 1, x0, x1, x6, x7, x8 => if x7 < x8 then (if 0 ≤ (wrap64 ((IntKind.u64.wrap (wrap64 (x7 + x8))) / 2)) then (if (wrap64 ((IntKind.u64.wrap (wrap64 (x7 + x8))) / 2)) < (x0.length : Int) then ((cmp_Less_string.f (rdOf ByteArray.empty x0 (wrap64 ((IntKind.u64.wrap (wrap64 (x7 + x8))) / 2))) x1).bind fun t10 => (if t10 = true then (slices_BinarySearch_string_string.l0 k x0 x1 x6 (wrap64 ((wrap64 ((IntKind.u64.wrap (wrap64 (x7 + x8))) / 2)) + 1)) x8) else (slices_BinarySearch_string_string.l0 k x0 x1 x6 x7 (wrap64 ((IntKind.u64.wrap (wrap64 (x7 + x8))) / 2))))) else (none)) else (none)) else (if x7 < x6 then (if 0 ≤ x7 then (if x7 < (x0.length : Int) then (if (rdOf ByteArray.empty x0 x7).toList = x1.toList then (some (x7, true)) else ((slices_isNaN_string.f (rdOf ByteArray.empty x0 x7)).bind fun t11 => (if t11 = true then ((slices_isNaN_string.f x1).bind fun t12 => (some (x7, t12))) else (some (x7, false))))) else (none)) else (none)) else (some (x7, false)))
def slices_BinarySearch_string_string.f (k : Nat) (l0 : List ByteArray) (a1 : ByteArray) : Option (Int × Bool) := slices_BinarySearch_string_string.l0 k l0 a1 (l0.length : Int) 0 (l0.length : Int)
theorem slices_BinarySearch_string_string.calls (k : Nat) (A0 : Option Addr) (c0 : Nat) (l0 : List ByteArray) (a1 : ByteArray) (r1 : Int) (r2 : Bool) (w : World) (hr0 : Kd.C Kd.string w A0 l0.length l0) (hc0 : l0.length ≤ c0) (h : slices_BinarySearch_string_string.f k l0 a1 = some (r1, r2)) :
  Calls Tryz.prog 97 #[.slice A0 l0.length c0, .string a1] w fun e w' => e = .returned (.tuple #[.int .i64 r1, .bool r2]) ∧ Drawn0 w w' := by
 have HR0 := zA hr0; have HC0 := zA hc0; clear hr0 hc0; have H : (slices_BinarySearch_string_string.l0 k l0 a1 (l0.length : Int) 0 (l0.length : Int)) = some (r1, r2) := h; clear h; have H' := zA H; clear H; go_enter Tryz.func97, Tryz.ntmps97; go_wp2; go_loopg [7, 8] k (fun kq v7 v8 w' => ∃ (x7_1 : Int) (x8_1 : Int), v7 = .int .i64 x7_1 ∧ v8 = .int .i64 x8_1 ∧ Aside0 (slices_BinarySearch_string_string.l0 kq l0 a1 (l0.length : Int) x7_1 x8_1 = some (r1, r2)) ∧ Aside0 (kq ≤ k) ∧ Drawn0 w w')
 case atStart => exact ⟨(0), ((l0.length : Int)), (by first | rfl | (simp; done) | (simp [*]; done) | (simp [bne]; done)), (by first | rfl | (simp; done) | (simp [*]; done) | (simp [bne]; done)), H', ⟨Nat.le_refl _⟩, by repeat (first | exact Drawn0.refl _ | apply Drawn0.step)⟩
 case round =>
  clear H'
  try clear p2
  obtain ⟨x7_1, x8_1, rfl, rfl, HA, HK1, ⟨m1, rfl⟩⟩ := hrel
  cases gk with
  | zero => exact absurd HA.out (by simp [slices_BinarySearch_string_string.l0])
  | succ k1 =>
   have H := HA.out; clear HA; simp only [slices_BinarySearch_string_string.l0] at H
   by_cases c3 : x7_1 < x8_1
   ·rw [if_pos c3] at H
    have c3b0 : decide (x7_1 < x8_1) = true := zX c3; clear c3; obtain ⟨ji4, hji4⟩ : ∃ j_ : Int, (wrap64 ((IntKind.u64.wrap (wrap64 (x7_1 + x8_1))) / 2)) = j_ := ⟨_, rfl⟩; replace H : (if 0 ≤ (ji4) then (if (ji4) < (l0.length : Int) then ((cmp_Less_string.f (rdOf ByteArray.empty l0 (ji4)) a1).bind fun t16 => (if t16 = true then (slices_BinarySearch_string_string.l0 k1 l0 a1 (l0.length : Int) (wrap64 ((ji4) + 1)) x8_1) else (slices_BinarySearch_string_string.l0 k1 l0 a1 (l0.length : Int) x7_1 ji4))) else (none)) else (none)) = some (r1, r2) := by first | (rw [hji4] at H; exact H) | (simp only [hji4] at H ⊢; exact H)
    have hji4w : (IntKind.i64.wrap ((IntKind.u64.wrap (wrap64 (x7_1 + x8_1))) / 2)) = ji4 := (i64_w _).trans hji4
    by_cases c5 : 0 ≤ (ji4)
    ·rw [if_pos c5] at H
     have c5b0 : decide (0 ≤ (ji4)) = true := zX c5; clear c5
     by_cases c6 : (ji4) < (l0.length : Int)
     ·rw [if_pos c6] at H
      have c6b0 : decide ((ji4) < (l0.length : Int)) = true := zX c6; clear c6; replace H := zAF H; obtain ⟨t16, A70, H⟩ := H; replace H : (if t16 = true then (slices_BinarySearch_string_string.l0 k1 l0 a1 (l0.length : Int) (wrap64 ((ji4) + 1)) x8_1) else (slices_BinarySearch_string_string.l0 k1 l0 a1 (l0.length : Int) x7_1 ji4)) = some (r1, r2) := H; have A7 := zA A70; clear A70
      by_cases c8 : t16 = true
      ·subst c8
       have H1 : (slices_BinarySearch_string_string.l0 k1 l0 a1 (l0.length : Int) (wrap64 ((ji4) + 1)) x8_1) = some (r1, r2) := by rw [if_pos rfl] at H; exact H
       clear H; have H := H1; clear H1; have H' := zA H; clear H; have p17 : 0 ≤ ((ji4) : Int) := zW (by first | (with_reducible assumption) | assumption); have q17 : (ji4) < (l0.length : Int) := zW (by first | (with_reducible assumption) | assumption); obtain ⟨ad17, e17, hx17_0⟩ := Kd.at_string HR0.out (ji4) p17 q17
       cases e17
       replace p17 := eq_true p17; replace q17 := eq_true q17; go_wp2_with (first | ((with_reducible refine yB (f := 131) rfl ?_); refine goesL_ (some 27) rfl rfl Tryz.func131 (by kernel_rfl) rfl #[.string (rdOf ByteArray.empty l0 (ji4)), .string a1] rfl (by (try simp only [zAA, zAB, zAC]); first | done | (simp only [hji4]; rfl) | rfl | (simp only [zZ, zY]; rfl)) ?_; (with_reducible refine (cmp_Less_string.calls (rdOf ByteArray.empty l0 (ji4)) a1 true _ A7.out).mono ?_); rintro e w' ⟨rfl, ⟨nd, rfl⟩⟩; refine ⟨_, rfl, ?_⟩)); go_roundg k1
       case measure => have := HK1.out; omega
       case rel => exact ⟨(wrap64 ((ji4) + 1)), (x8_1), (by first | rfl | (simp; done) | (simp only [← hji4] <;> (first | rfl | simp)) | (simp [*]; done)), (by first | rfl | (simp; done) | (simp [*]; done) | (simp [bne]; done)), ⟨by first | exact H'.out | (rw [hji4]; exact H'.out) | (simp only [hji4]; exact H'.out)⟩, ⟨by have := HK1.out; omega⟩, by repeat (first | exact Drawn0.refl _ | apply Drawn0.step)⟩
      ·replace c8 := yO c8
       subst c8; have H1 : (slices_BinarySearch_string_string.l0 k1 l0 a1 (l0.length : Int) x7_1 ji4) = some (r1, r2) := by rw [if_neg (show ¬ (false = true) by decide)] at H; exact H
       clear H; have H := H1; clear H1; have H' := zA H; clear H; have p17 : 0 ≤ ((ji4) : Int) := zW (by first | (with_reducible assumption) | assumption); have q17 : (ji4) < (l0.length : Int) := zW (by first | (with_reducible assumption) | assumption); obtain ⟨ad17, e17, hx17_0⟩ := Kd.at_string HR0.out (ji4) p17 q17
       cases e17
       replace p17 := eq_true p17; replace q17 := eq_true q17; go_wp2_with (first | ((with_reducible refine yB (f := 131) rfl ?_); refine goesL_ (some 27) rfl rfl Tryz.func131 (by kernel_rfl) rfl #[.string (rdOf ByteArray.empty l0 (ji4)), .string a1] rfl (by (try simp only [zAA, zAB, zAC]); first | done | (simp only [hji4]; rfl) | rfl | (simp only [zZ, zY]; rfl)) ?_; (with_reducible refine (cmp_Less_string.calls (rdOf ByteArray.empty l0 (ji4)) a1 false _ A7.out).mono ?_); rintro e w' ⟨rfl, ⟨nd, rfl⟩⟩; refine ⟨_, rfl, ?_⟩)); go_roundg k1
       case measure => have := HK1.out; omega
       case rel => exact ⟨(x7_1), (ji4), (by first | rfl | (simp; done) | (simp [*]; done) | (simp [bne]; done)), (by first | rfl | (simp; done) | (simp only [← hji4] <;> (first | rfl | simp)) | (simp [*]; done)), ⟨by first | exact H'.out | (rw [hji4]; exact H'.out) | (simp only [hji4]; exact H'.out)⟩, ⟨by have := HK1.out; omega⟩, by repeat (first | exact Drawn0.refl _ | apply Drawn0.step)⟩
     ·rw [if_neg c6] at H
      exact absurd H (by simp)
    ·rw [if_neg c5] at H
     exact absurd H (by simp)
   ·rw [if_neg c3] at H
    have c3b0 : decide (x7_1 < x8_1) = false := decide_eq_false c3; clear c3
    by_cases c9 : x7_1 < (l0.length : Int)
    ·rw [if_pos c9] at H
     have c9b0 : decide (x7_1 < (l0.length : Int)) = true := zX c9; clear c9
     by_cases c10 : 0 ≤ x7_1
     ·rw [if_pos c10] at H
      have c10b0 : decide (0 ≤ x7_1) = true := zX c10; clear c10
      by_cases c11 : x7_1 < (l0.length : Int)
      ·rw [if_pos c11] at H
       have c11b0 : decide (x7_1 < (l0.length : Int)) = true := zX c11; clear c11
       by_cases c12 : (rdOf ByteArray.empty l0 x7_1).toList = a1.toList
       ·rw [if_pos c12] at H
        have c12b0 : ((rdOf ByteArray.empty l0 x7_1).toList == a1.toList) = true := beq_iff_eq.mpr c12; have c12b1 : ((rdOf ByteArray.empty l0 x7_1).toList != a1.toList) = false := bne_eq_false_iff_eq.mpr c12; clear c12; simp only [Option.some.injEq, Prod.mk.injEq] at H; obtain ⟨rfl, rfl⟩ := H; have p18 : 0 ≤ (x7_1 : Int) := zW (by first | (with_reducible assumption) | assumption); have q18 : x7_1 < (l0.length : Int) := zW (by first | (with_reducible assumption) | assumption); obtain ⟨ad18, e18, hx18_0⟩ := Kd.at_string HR0.out x7_1 p18 q18
        cases e18
        replace p18 := eq_true p18; replace q18 := eq_true q18; go_wp2; go_ret2; exact ⟨by first | rfl | (simp; done) | (simp [*]; done) | (simp [bne]; done), by repeat (first | exact Drawn0.refl _ | apply Drawn0.step)⟩
       ·rw [if_neg c12] at H
        have c12b0 : ((rdOf ByteArray.empty l0 x7_1).toList == a1.toList) = false := beq_eq_false_iff_ne.mpr c12; have c12b1 : ((rdOf ByteArray.empty l0 x7_1).toList != a1.toList) = true := bne_iff_ne.mpr c12; replace H := zAF H; obtain ⟨t19, A20, H⟩ := H; replace H : (if t19 = true then ((slices_isNaN_string.f a1).bind fun t21 => (some (x7_1, t21))) else (some (x7_1, false))) = some (r1, r2) := H; have A13 := zA A20; clear A20
        by_cases c14 : t19 = true
        ·subst c14
         have H1 : ((slices_isNaN_string.f a1).bind fun t21 => (some (x7_1, t21))) = some (r1, r2) := by rw [if_pos rfl] at H; exact H
         clear H; have H := H1; clear H1; replace H := zAF H; obtain ⟨t21, A22, H⟩ := H; replace H : (some (x7_1, t21)) = some (r1, r2) := H; have A15 := zA A22; clear A22; simp only [Option.some.injEq, Prod.mk.injEq] at H; obtain ⟨rfl, rfl⟩ := H; have p18 : 0 ≤ (x7_1 : Int) := zW (by first | (with_reducible assumption) | assumption); have q18 : x7_1 < (l0.length : Int) := zW (by first | (with_reducible assumption) | assumption); obtain ⟨ad18, e18, hx18_0⟩ := Kd.at_string HR0.out x7_1 p18 q18
         cases e18
         replace p18 := eq_true p18; replace q18 := eq_true q18; have p23 : 0 ≤ (x7_1 : Int) := zW (by first | (with_reducible assumption) | assumption); have q23 : x7_1 < (l0.length : Int) := zW (by first | (with_reducible assumption) | assumption); obtain ⟨ad23, e23, hx23_0⟩ := Kd.at_string HR0.out x7_1 p23 q23; obtain rfl : ad18 = ad23 := (by injection e23); replace p23 := eq_true p23; replace q23 := eq_true q23; go_wp2_with (first | (go_at_call 132; (with_reducible refine (slices_isNaN_string.calls (rdOf ByteArray.empty l0 x7_1) true _ A13.out).mono ?_); rintro e w' ⟨rfl, ⟨nd, rfl⟩⟩) | (go_at_call 132; (with_reducible refine (slices_isNaN_string.calls a1 t21 _ A15.out).mono ?_); rintro e w' ⟨rfl, ⟨nd, rfl⟩⟩)); go_ret2; exact ⟨by first | rfl | (simp; done) | (simp [*]; done) | (simp [bne]; done), by repeat (first | exact Drawn0.refl _ | apply Drawn0.step)⟩
        ·replace c14 := yO c14
         subst c14; have H1 : (some (x7_1, false)) = some (r1, r2) := by rw [if_neg (show ¬ (false = true) by decide)] at H; exact H
         clear H; have H := H1; clear H1; simp only [Option.some.injEq, Prod.mk.injEq] at H; obtain ⟨rfl, rfl⟩ := H; have p18 : 0 ≤ (x7_1 : Int) := zW (by first | (with_reducible assumption) | assumption); have q18 : x7_1 < (l0.length : Int) := zW (by first | (with_reducible assumption) | assumption); obtain ⟨ad18, e18, hx18_0⟩ := Kd.at_string HR0.out x7_1 p18 q18
         cases e18
         replace p18 := eq_true p18; replace q18 := eq_true q18; have p23 : 0 ≤ (x7_1 : Int) := zW (by first | (with_reducible assumption) | assumption); have q23 : x7_1 < (l0.length : Int) := zW (by first | (with_reducible assumption) | assumption); obtain ⟨ad23, e23, hx23_0⟩ := Kd.at_string HR0.out x7_1 p23 q23; obtain rfl : ad18 = ad23 := (by injection e23); replace p23 := eq_true p23; replace q23 := eq_true q23; go_wp2_with (first | (go_at_call 132; (with_reducible refine (slices_isNaN_string.calls (rdOf ByteArray.empty l0 x7_1) false _ A13.out).mono ?_); rintro e w' ⟨rfl, ⟨nd, rfl⟩⟩)); go_ret2; exact ⟨by first | rfl | (simp; done) | (simp [*]; done) | (simp [bne]; done), by repeat (first | exact Drawn0.refl _ | apply Drawn0.step)⟩
      ·rw [if_neg c11] at H
       exact absurd H (by simp)
     ·rw [if_neg c10] at H
      exact absurd H (by simp)
    ·rw [if_neg c9] at H
     have c9b0 : decide (x7_1 < (l0.length : Int)) = false := decide_eq_false c9; clear c9; simp only [Option.some.injEq, Prod.mk.injEq] at H; obtain ⟨rfl, rfl⟩ := H; go_wp2; go_ret2; exact ⟨by first | rfl | (simp; done) | (simp [*]; done) | (simp [bne]; done), by repeat (first | exact Drawn0.refl _ | apply Drawn0.step)⟩
def impl_less.f (k : Nat) (l0 : List ByteArray) (a1 : ByteArray) : Option (Int) := (slices_BinarySearch_string_string.f k l0 a1).bind fun bt10 => (some bt10.1)
theorem impl_less.calls (k : Nat) (A0 : Option Addr) (c0 : Nat) (l0 : List ByteArray) (a1 : ByteArray) (r : Int) (w : World) (hr0 : Kd.C Kd.string w A0 l0.length l0) (hc0 : l0.length ≤ c0) (h : impl_less.f k l0 a1 = some r) :
  Calls Tryz.prog 66 #[.slice A0 l0.length c0, .string a1] w fun e w' => e = .returned (.int .i64 r) ∧ Drawn0 w w' := by
 have HR0 := zA hr0; have HC0 := zA hc0; clear hr0 hc0; have H : ((slices_BinarySearch_string_string.f k l0 a1).bind fun bt10 => (some bt10.1)) = some r := h; clear h; replace H := zAF H; obtain ⟨⟨t10, t11⟩, A30, H⟩ := H; replace H : (some t10) = some r := H; have A3 := zA A30; clear A30; obtain rfl := yM H; go_enter Tryz.func66, Tryz.ntmps66; go_wp2_with (first | ((with_reducible refine yB (f := 97) rfl ?_); refine goesL_ (some 10) rfl rfl Tryz.func97 (by kernel_rfl) rfl #[.slice A0 l0.length c0, .string a1] rfl (by (try simp only [zAA, zAB, zAC]); first | done | rfl | (simp only [zZ, zY]; rfl)) ?_; (with_reducible refine (slices_BinarySearch_string_string.calls k _ _ l0 a1 t10 t11 _ ?side1 ?side2 A3.out).mono ?_); (case side1 => repeat (first | exact HR0.out | (with_reducible first | refine zT ?_ _ | refine zU ?_ _ | refine zV ?_))); (case side2 => exact HC0.out); rintro e w' ⟨rfl, ⟨nd, rfl⟩⟩; refine ⟨_, rfl, ?_⟩)); go_ret; exact ⟨by first | rfl | (simp; done) | (simp [*]; done) | (simp [bne]; done), by repeat (first | exact Drawn0.refl _ | apply Drawn0.step)⟩
def slices_IndexFunc_impl_CheckKey_1.l0 : Nat → List (S85) → Int → Int → Option (Int)
 | 0, _, _, _ => none
 | k + 1, x0, x7, x8 => if x8 < x7 then (if 0 ≤ x8 then (if x8 < (x0.length : Int) then ((impl_CheckKey_1.f k ((rd_T85 x0 x8).f0) ((rd_T85 x0 x8).f1) ((rd_T85 x0 x8).f2) ((rd_T85 x0 x8).f3)).bind fun t10 => (if t10 = true then (some x8) else (slices_IndexFunc_impl_CheckKey_1.l0 k x0 x7 (wrap64 (x8 + 1))))) else (none)) else (none)) else (some (-1))
def slices_IndexFunc_impl_CheckKey_1.f (k : Nat) (l0 : List (S85))  : Option (Int) := slices_IndexFunc_impl_CheckKey_1.l0 k l0 (l0.length : Int) 0
theorem slices_IndexFunc_impl_CheckKey_1.calls (k : Nat) (A0 : Option Addr) (c0 : Nat) (l0 : List (S85))  (r : Int) (w : World) (hr0 : Kd.C k85 w A0 l0.length l0) (hc0 : l0.length ≤ c0) (h : slices_IndexFunc_impl_CheckKey_1.f k l0 = some r) :
  Calls Tryz.prog 94 #[.slice A0 l0.length c0, .func (.func 62) #[] #[]] w fun e w' => e = .returned (.int .i64 r) ∧ Below w.heap.size w w' := by
 have hu85 := Tryz.underlying85; have HR0 := zA hr0; have HC0 := zA hc0; clear hr0 hc0; have HB := zA (Below.refl w.heap.size w); have H : (slices_IndexFunc_impl_CheckKey_1.l0 k l0 (l0.length : Int) 0) = some r := h; clear h; have H' := zA H; clear H; go_enter Tryz.func94, Tryz.ntmps94; go_wp2; go_loopg [8] k (fun kq v8 w' => ∃ (x8_1 : Int), v8 = .int .i64 x8_1 ∧ Aside0 (slices_IndexFunc_impl_CheckKey_1.l0 kq l0 (l0.length : Int) x8_1 = some r) ∧ Aside0 (kq ≤ k) ∧ Aside0 (Below w.heap.size w w'))
 case atStart => exact ⟨(0), (by first | rfl | (simp; done) | (simp [*]; done) | (simp [bne]; done)), H', ⟨Nat.le_refl _⟩, ⟨by (with_reducible repeat first | exact HB.out | apply zH | apply zF | apply zG) <;> exact HB.out⟩⟩
 case round =>
  clear H'
  try clear p2
  obtain ⟨x8_1, rfl, HA, HK1, HB⟩ := hrel
  cases gk with
  | zero => exact absurd HA.out (by simp [slices_IndexFunc_impl_CheckKey_1.l0])
  | succ k1 =>
   have H := HA.out; clear HA; simp only [slices_IndexFunc_impl_CheckKey_1.l0] at H
   by_cases c3 : x8_1 < (l0.length : Int)
   ·rw [if_pos c3] at H
    have c3b0 : decide (x8_1 < (l0.length : Int)) = true := zX c3; clear c3
    by_cases c4 : 0 ≤ x8_1
    ·rw [if_pos c4] at H
     have c4b0 : decide (0 ≤ x8_1) = true := zX c4; clear c4
     by_cases c5 : x8_1 < (l0.length : Int)
     ·rw [if_pos c5] at H
      have c5b0 : decide (x8_1 < (l0.length : Int)) = true := zX c5; clear c5; replace H := zAF H; obtain ⟨t10, A60, H⟩ := H; replace H : (if t10 = true then (some x8_1) else (slices_IndexFunc_impl_CheckKey_1.l0 k1 l0 (l0.length : Int) (wrap64 (x8_1 + 1)))) = some r := H; have A6 := zA A60; clear A60
      by_cases c7 : t10 = true
      ·subst c7
       have H1 : (some x8_1) = some r := by rw [if_pos rfl] at H; exact H
       clear H; have H := H1; clear H1; obtain rfl := yM H; have p11 : 0 ≤ (x8_1 : Int) := zW (by first | (with_reducible assumption) | assumption); have q11 : x8_1 < (l0.length : Int) := zW (by first | (with_reducible assumption) | assumption); obtain ⟨ad11, A11_0, c11_0, A11_1, c11_1, A11_2, c11_2, e11, hx11_0, hx11_1, hx11_2, hx11_3, hl11_0, hi11_0, hl11_1, hi11_1, hl11_2, hi11_2⟩ := at_T85 HR0.out x8_1 p11 q11
       cases e11
       replace hx11_0 := (HB.out.cell (zB w _ hx11_0)).trans hx11_0; replace hx11_1 := (HB.out.cell (zB w _ hx11_1)).trans hx11_1; replace hx11_2 := (HB.out.cell (zB w _ hx11_2)).trans hx11_2; replace hx11_3 := (HB.out.cell (zB w _ hx11_3)).trans hx11_3; have HR11_0 := zA hi11_0; have HC11_0 := zA hl11_0; clear hi11_0 hl11_0; have HR11_1 := zA hi11_1; have HC11_1 := zA hl11_1; clear hi11_1 hl11_1; have HR11_2 := zA hi11_2; have HC11_2 := zA hl11_2; clear hi11_2 hl11_2; replace p11 := eq_true p11; replace q11 := eq_true q11; go_wp2_with (first | (go_at_call 62; (with_reducible refine (impl_CheckKey_1.calls k1 _ _ ((rd_T85 l0 x8_1).f0) _ _ ((rd_T85 l0 x8_1).f1) _ _ ((rd_T85 l0 x8_1).f2) ((rd_T85 l0 x8_1).f3) true _ ?side1 ?side2 ?side3 ?side4 ?side5 ?side6 A6.out).mono ?_); (case side1 => repeat (first | exact (yN HR11_0.out HB.out) | (with_reducible first | refine zT ?_ _ | refine zU ?_ _ | refine zV ?_))); (case side2 => exact HC11_0.out); (case side3 => repeat (first | exact (yN HR11_1.out HB.out) | (with_reducible first | refine zT ?_ _ | refine zU ?_ _ | refine zV ?_))); (case side4 => exact HC11_1.out); (case side5 => repeat (first | exact (yN HR11_2.out HB.out) | (with_reducible first | refine zT ?_ _ | refine zU ?_ _ | refine zV ?_))); (case side6 => exact HC11_2.out); rintro e w8 ⟨rfl, hb⟩; have n0_ := zA (zAD (by (with_reducible repeat first | exact HB.out | apply zH | apply zF | apply zG) <;> exact HB.out) hb); clear HB; have HB := n0_; clear n0_; (try clear hb))); go_ret; exact ⟨by first | rfl | (simp <;> rfl) | (simp [*] <;> rfl), by (with_reducible repeat first | exact HB.out | apply zH | apply zF | apply zG) <;> exact HB.out⟩
      ·replace c7 := yO c7
       subst c7; have H1 : (slices_IndexFunc_impl_CheckKey_1.l0 k1 l0 (l0.length : Int) (wrap64 (x8_1 + 1))) = some r := by rw [if_neg (show ¬ (false = true) by decide)] at H; exact H
       clear H; have H := H1; clear H1; have H' := zA H; clear H; have p11 : 0 ≤ (x8_1 : Int) := zW (by first | (with_reducible assumption) | assumption); have q11 : x8_1 < (l0.length : Int) := zW (by first | (with_reducible assumption) | assumption); obtain ⟨ad11, A11_0, c11_0, A11_1, c11_1, A11_2, c11_2, e11, hx11_0, hx11_1, hx11_2, hx11_3, hl11_0, hi11_0, hl11_1, hi11_1, hl11_2, hi11_2⟩ := at_T85 HR0.out x8_1 p11 q11
       cases e11
       replace hx11_0 := (HB.out.cell (zB w _ hx11_0)).trans hx11_0; replace hx11_1 := (HB.out.cell (zB w _ hx11_1)).trans hx11_1; replace hx11_2 := (HB.out.cell (zB w _ hx11_2)).trans hx11_2; replace hx11_3 := (HB.out.cell (zB w _ hx11_3)).trans hx11_3; have HR11_0 := zA hi11_0; have HC11_0 := zA hl11_0; clear hi11_0 hl11_0; have HR11_1 := zA hi11_1; have HC11_1 := zA hl11_1; clear hi11_1 hl11_1; have HR11_2 := zA hi11_2; have HC11_2 := zA hl11_2; clear hi11_2 hl11_2; replace p11 := eq_true p11; replace q11 := eq_true q11; go_wp2_with (first | (go_at_call 62; (with_reducible refine (impl_CheckKey_1.calls k1 _ _ ((rd_T85 l0 x8_1).f0) _ _ ((rd_T85 l0 x8_1).f1) _ _ ((rd_T85 l0 x8_1).f2) ((rd_T85 l0 x8_1).f3) false _ ?side1 ?side2 ?side3 ?side4 ?side5 ?side6 A6.out).mono ?_); (case side1 => repeat (first | exact (yN HR11_0.out HB.out) | (with_reducible first | refine zT ?_ _ | refine zU ?_ _ | refine zV ?_))); (case side2 => exact HC11_0.out); (case side3 => repeat (first | exact (yN HR11_1.out HB.out) | (with_reducible first | refine zT ?_ _ | refine zU ?_ _ | refine zV ?_))); (case side4 => exact HC11_1.out); (case side5 => repeat (first | exact (yN HR11_2.out HB.out) | (with_reducible first | refine zT ?_ _ | refine zU ?_ _ | refine zV ?_))); (case side6 => exact HC11_2.out); rintro e w9 ⟨rfl, hb⟩; have n0_ := zA (zAD (by (with_reducible repeat first | exact HB.out | apply zH | apply zF | apply zG) <;> exact HB.out) hb); clear HB; have HB := n0_; clear n0_; (try clear hb))); go_roundg k1
       case measure => have := HK1.out; omega
       case rel => exact ⟨(wrap64 (x8_1 + 1)), (by first | rfl | (simp; done) | (simp [*]; done) | (simp [bne]; done)), H', ⟨by have := HK1.out; omega⟩, ⟨by (with_reducible repeat first | exact HB.out | apply zH | apply zF | apply zG) <;> exact HB.out⟩⟩
     ·rw [if_neg c5] at H
      exact absurd H (by simp)
    ·rw [if_neg c4] at H
     exact absurd H (by simp)
   ·rw [if_neg c3] at H
    have c3b0 : decide (x8_1 < (l0.length : Int)) = false := decide_eq_false c3; clear c3; obtain rfl := yM H; go_wp2; go_ret; exact ⟨by first | rfl | (simp <;> rfl) | (simp [*] <;> rfl), by (with_reducible repeat first | exact HB.out | apply zH | apply zF | apply zG) <;> exact HB.out⟩
def slices_ContainsFunc_impl_CheckKey_1.f (k : Nat) (l0 : List (S85))  : Option (Bool) := (slices_IndexFunc_impl_CheckKey_1.f k l0).bind fun t10 => (some (decide (t10 ≥ 0)))
theorem slices_ContainsFunc_impl_CheckKey_1.calls (k : Nat) (A0 : Option Addr) (c0 : Nat) (l0 : List (S85))  (r : Bool) (w : World) (hr0 : Kd.C k85 w A0 l0.length l0) (hc0 : l0.length ≤ c0) (h : slices_ContainsFunc_impl_CheckKey_1.f k l0 = some r) :
  Calls Tryz.prog 61 #[.slice A0 l0.length c0, .func (.func 62) #[] #[]] w fun e w' => e = .returned (.bool r) ∧ Below w.heap.size w w' := by
 have HR0 := zA hr0; have HC0 := zA hc0; clear hr0 hc0; have HB := zA (Below.refl w.heap.size w); have H : ((slices_IndexFunc_impl_CheckKey_1.f k l0).bind fun t10 => (some (decide (t10 ≥ 0)))) = some r := h; clear h; replace H := zAF H; obtain ⟨t10, A30, H⟩ := H; replace H : (some (decide (t10 ≥ 0))) = some r := H; have A3 := zA A30; clear A30; obtain rfl := yM H; go_enter Tryz.func61, Tryz.ntmps61; go_wp2_with (first | ((with_reducible refine yB (f := 94) rfl ?_); refine goesL_ (some 7) rfl rfl Tryz.func94 (by kernel_rfl) rfl #[.slice A0 l0.length c0, .func (.func 62) #[] #[]] rfl (by (try simp only [zAA, zAB, zAC]); first | done | rfl) ?_; (with_reducible refine (slices_IndexFunc_impl_CheckKey_1.calls k _ _ l0  t10 _ ?side1 ?side2 A3.out).mono ?_); (case side1 => repeat (first | exact HR0.out | (with_reducible first | refine zT ?_ _ | refine zU ?_ _ | refine zV ?_))); (case side2 => exact HC0.out); rintro e w4 ⟨rfl, hb⟩; refine ⟨_, rfl, ?_⟩; have n0_ := zA (zAD (by (with_reducible repeat first | exact HB.out | apply zH | apply zF | apply zG) <;> exact HB.out) hb); clear HB; have HB := n0_; clear n0_; (try clear hb))); go_ret; exact ⟨by first | rfl | (simp <;> rfl) | (simp [*] <;> rfl), by (with_reducible repeat first | exact HB.out | apply zH | apply zF | apply zG) <;> exact HB.out⟩
mutual
def impl_CheckKey.j0 : Nat → ByteArray → ByteArray → List (S85) → Bool → Option (ByteArray × Bool × Bool)
 | 0, _, _, _, _ => none
 | k + 1, x0, x1, x2, x29 => if x29 = true then (some ((⟨#[]⟩ : ByteArray), false, false)) else (impl_CheckKey.l0 k x0 x1 x2 x2 (x2.length : Int) 0)
def impl_CheckKey.l0 : Nat → ByteArray → ByteArray → List (S85) → List (S85) → Int → Int → Option (ByteArray × Bool × Bool)
 | 0, _, _, _, _, _, _ => none
 | k + 1, x0, x1, x2, x30, x31, x32 => if x32 < x31 then (if 0 ≤ x32 then (if x32 < (x30.length : Int) then ((impl_hasAt.f ((rd_T85 x30 x32).f0) ((rd_T85 x30 x32).f3) x1).bind fun t10 => ((impl_Shown_digest.f k ((rd_T85 x30 x32).f0) ((rd_T85 x30 x32).f1) ((rd_T85 x30 x32).f2) ((rd_T85 x30 x32).f3)).bind fun t12 => (if t12.toList = x0.toList then ((impl_less.f k ((rd_T85 x30 x32).f0) x1).bind fun t13 => (impl_CheckKey.j2 k x1 x2 x32 t10 x30 x31 x32 (((rd_T85 x30 x32).f3) != t13) ((rd_T85 x30 x32).f0) ((rd_T85 x30 x32).f1) ((rd_T85 x30 x32).f2) ((rd_T85 x30 x32).f3))) else (impl_CheckKey.j2 k x1 x2 x32 t10 x30 x31 x32 true ((rd_T85 x30 x32).f0) ((rd_T85 x30 x32).f1) ((rd_T85 x30 x32).f2) ((rd_T85 x30 x32).f3))))) else (none)) else (none)) else (some ((⟨#[]⟩ : ByteArray), false, false))
def impl_CheckKey.j2 : Nat → ByteArray → List (S85) → Int → Bool → List (S85) → Int → Int → Bool → List ByteArray → List ByteArray → List ByteArray → Int → Option (ByteArray × Bool × Bool)
 | 0, _, _, _, _, _, _, _, _, _, _, _, _ => none
 | k + 1, x1, x2, x9, x11, x30, x31, x32, x43, x14, x15, x16, x17 => if x43 = true then (some ((⟨#[]⟩ : ByteArray), false, false)) else (if x9 = (wrap64 ((x2.length : Int) - 1)) then (impl_CheckKey.j3 k x1 x2 x9 x11 x30 x31 x32 x11 x14 x15 x16 x17) else (impl_CheckKey.j3 k x1 x2 x9 x11 x30 x31 x32 false x14 x15 x16 x17))
def impl_CheckKey.j3 : Nat → ByteArray → List (S85) → Int → Bool → List (S85) → Int → Int → Bool → List ByteArray → List ByteArray → List ByteArray → Int → Option (ByteArray × Bool × Bool)
 | 0, _, _, _, _, _, _, _, _, _, _, _, _ => none
 | k + 1, x1, x2, x9, x11, x30, x31, x32, x57, x14, x15, x16, x17 => if x57 = true then (if 0 ≤ x17 then (if x17 < (x15.length : Int) then (some (rdOf ByteArray.empty x15 x17, true, true)) else (none)) else (none)) else (if x9 = (wrap64 ((x2.length : Int) - 1)) then (some ((⟨#[]⟩ : ByteArray), false, ((x16.length : Int) == 0))) else (if x11 = true then (some ((⟨#[]⟩ : ByteArray), false, false)) else (if (x16.length : Int) = 0 then (some ((⟨#[]⟩ : ByteArray), false, false)) else (if 0 ≤ x17 then (if x17 < (x16.length : Int) then (impl_CheckKey.l0 k (rdOf ByteArray.empty x16 x17) x1 x2 x30 x31 (wrap64 (x32 + 1))) else (none)) else (none)))))
end
def impl_CheckKey.f (k : Nat) (a0 : ByteArray) (a1 : ByteArray) (l2 : List (S85)) : Option (ByteArray × Bool × Bool) := (impl_isDigest.f a0).bind fun t10 => (if t10 = true then ((impl_isKey.f a1).bind fun t11 => (if t11 = true then ((impl_within.f (l2.length : Int) 1 10).bind fun t12 => (if t12 = true then ((slices_ContainsFunc_impl_CheckKey_1.f k l2).bind fun t13 => (impl_CheckKey.j0 k a0 a1 l2 t13)) else (impl_CheckKey.j0 k a0 a1 l2 true))) else (impl_CheckKey.j0 k a0 a1 l2 true))) else (impl_CheckKey.j0 k a0 a1 l2 true))
def impl_CheckKey.T7 : Bool × List (List Nat × List Nat) := (true, [([], []), ([0], [0]), ([], []), ([1, 2], [1, 2]), ([3, 1], [3]), ([4], [4]), ([5, 4], [4, 5]), ([4], [4]), ([7, 4], [4, 7]), ([4], [4]), ([8, 9, 4, 4], [4, 8, 9]), ([6, 10, 4], [4, 6, 10]), ([4, 11], [4, 11]), ([12, 10], [12])])
def impl_CheckKey.B7 : List Nat := [0, 1, 0, 7, 15, 31, 63, 31, 159, 31, 927, 2047, 4095, 8191]
theorem impl_CheckKey.tab7 : rtab .any (opsOf Tryz.f26 7) = impl_CheckKey.T7 := by kernel_rfl
theorem impl_CheckKey.bits7 : waitsOk impl_CheckKey.T7.2 impl_CheckKey.B7 = true := by kernel_rfl
theorem impl_CheckKey.calls (k : Nat) (a0 : ByteArray) (a1 : ByteArray) (A2 : Option Addr) (c2 : Nat) (l2 : List (S85)) (r1 : ByteArray) (r2 : Bool) (r3 : Bool) (w : World) (hr2 : Kd.C k85 w A2 l2.length l2) (hc2 : l2.length ≤ c2) (h : impl_CheckKey.f k a0 a1 l2 = some (r1, r2, r3)) :
  Calls Tryz.prog 26 #[.string a0, .string a1, .slice A2 l2.length c2] w fun e w' => e = .returned (.tuple #[.string r1, .bool r2, .bool r3]) ∧ Below w.heap.size w w' := by
 have hu85 := Tryz.underlying85; have HR2 := zA hr2; have HC2 := zA hc2; clear hr2 hc2; have HB := zA (Below.refl w.heap.size w); have H : ((impl_isDigest.f a0).bind fun t45 => (if t45 = true then ((impl_isKey.f a1).bind fun t46 => (if t46 = true then ((impl_within.f (l2.length : Int) 1 10).bind fun t47 => (if t47 = true then ((slices_ContainsFunc_impl_CheckKey_1.f k l2).bind fun t48 => (impl_CheckKey.j0 k a0 a1 l2 t48)) else (impl_CheckKey.j0 k a0 a1 l2 true))) else (impl_CheckKey.j0 k a0 a1 l2 true))) else (impl_CheckKey.j0 k a0 a1 l2 true))) = some (r1, r2, r3) := h; clear h; have HC4 := zA H; clear H; go_enter Tryz.func26, Tryz.ntmps26; go_upto_region 1 with (fail)
 go_cut [29] (fun v29 wc => ∃ (kq : Nat) (x29_3 : Bool), v29 = .bool x29_3 ∧ Aside0 (impl_CheckKey.j0 kq a0 a1 l2 x29_3 = some (r1, r2, r3)) ∧ Aside0 (kq ≤ k) ∧ Aside0 (Below w.heap.size w wc))
 case first =>
  have H := HC4.out; clear HC4; replace H := zAF H; obtain ⟨t45, A50, H⟩ := H; replace H : (if t45 = true then ((impl_isKey.f a1).bind fun t46 => (if t46 = true then ((impl_within.f (l2.length : Int) 1 10).bind fun t47 => (if t47 = true then ((slices_ContainsFunc_impl_CheckKey_1.f k l2).bind fun t48 => (impl_CheckKey.j0 k a0 a1 l2 t48)) else (impl_CheckKey.j0 k a0 a1 l2 true))) else (impl_CheckKey.j0 k a0 a1 l2 true))) else (impl_CheckKey.j0 k a0 a1 l2 true)) = some (r1, r2, r3) := H; have A5 := zA A50; clear A50
  by_cases c6 : t45 = true
  ·subst c6
   have H1 : ((impl_isKey.f a1).bind fun t46 => (if t46 = true then ((impl_within.f (l2.length : Int) 1 10).bind fun t47 => (if t47 = true then ((slices_ContainsFunc_impl_CheckKey_1.f k l2).bind fun t48 => (impl_CheckKey.j0 k a0 a1 l2 t48)) else (impl_CheckKey.j0 k a0 a1 l2 true))) else (impl_CheckKey.j0 k a0 a1 l2 true))) = some (r1, r2, r3) := by rw [if_pos rfl] at H; exact H
   clear H; have H := H1; clear H1; replace H := zAF H; obtain ⟨t46, A70, H⟩ := H; replace H : (if t46 = true then ((impl_within.f (l2.length : Int) 1 10).bind fun t47 => (if t47 = true then ((slices_ContainsFunc_impl_CheckKey_1.f k l2).bind fun t48 => (impl_CheckKey.j0 k a0 a1 l2 t48)) else (impl_CheckKey.j0 k a0 a1 l2 true))) else (impl_CheckKey.j0 k a0 a1 l2 true)) = some (r1, r2, r3) := H; have A7 := zA A70; clear A70
   by_cases c8 : t46 = true
   ·subst c8
    have H1 : ((impl_within.f (l2.length : Int) 1 10).bind fun t47 => (if t47 = true then ((slices_ContainsFunc_impl_CheckKey_1.f k l2).bind fun t48 => (impl_CheckKey.j0 k a0 a1 l2 t48)) else (impl_CheckKey.j0 k a0 a1 l2 true))) = some (r1, r2, r3) := by rw [if_pos rfl] at H; exact H
    clear H; have H := H1; clear H1; replace H := zAF H; obtain ⟨t47, A90, H⟩ := H; replace H : (if t47 = true then ((slices_ContainsFunc_impl_CheckKey_1.f k l2).bind fun t48 => (impl_CheckKey.j0 k a0 a1 l2 t48)) else (impl_CheckKey.j0 k a0 a1 l2 true)) = some (r1, r2, r3) := H; have A9 := zA A90; clear A90
    by_cases c10 : t47 = true
    ·subst c10
     have H1 : ((slices_ContainsFunc_impl_CheckKey_1.f k l2).bind fun t48 => (impl_CheckKey.j0 k a0 a1 l2 t48)) = some (r1, r2, r3) := by rw [if_pos rfl] at H; exact H
     clear H; have H := H1; clear H1; replace H := zAF H; obtain ⟨t48, A49, H⟩ := H; replace H : (impl_CheckKey.j0 k a0 a1 l2 t48) = some (r1, r2, r3) := H; have A11 := zA A49; clear A49; have H' := zA H; clear H; go_wp2_with (first | ((with_reducible refine yB (f := 54) rfl ?_); refine goesL_ (some 13) rfl rfl Tryz.func54 (by kernel_rfl) rfl #[.string a0] rfl (by (try simp only [zAA, zAB, zAC]); first | done | rfl) ?_; (with_reducible refine (impl_isDigest.calls a0 true _ A5.out).mono ?_); rintro e w' ⟨rfl, ⟨nd, rfl⟩⟩; refine ⟨_, rfl, ?_⟩) | (go_at_call 60; (with_reducible refine (impl_isKey.calls a1 true _ A7.out).mono ?_); rintro e w' ⟨rfl, ⟨nd, rfl⟩⟩) | (go_at_call 51; (with_reducible refine (impl_within.calls (l2.length : Int) 1 10 true _ A9.out).mono ?_); rintro e w' ⟨rfl, ⟨nd, rfl⟩⟩) | (go_at_call 61; (with_reducible refine (slices_ContainsFunc_impl_CheckKey_1.calls k _ _ l2  t48 _ ?side1 ?side2 A11.out).mono ?_); (case side1 => repeat (first | exact (yN HR2.out (by (with_reducible repeat first | exact HB.out | apply zH | apply zF | apply zG) <;> exact HB.out)) | (with_reducible first | refine zT ?_ _ | refine zU ?_ _ | refine zV ?_))); (case side2 => exact HC2.out); rintro e w12 ⟨rfl, hb⟩; have n0_ := zA (zAD (by (with_reducible repeat first | exact HB.out | apply zH | apply zF | apply zG) <;> exact HB.out) hb); clear HB; have HB := n0_; clear n0_; (try clear hb))); go_meet
     case rel => exact ⟨_, (t48), (by first | rfl | (simp; done) | (simp [*]; done) | (simp [bne]; done)), H', ⟨by first | omega | exact Nat.le_refl _⟩, ⟨by (with_reducible repeat first | exact HB.out | apply zH | apply zF | apply zG) <;> exact HB.out⟩⟩
    ·replace c10 := yO c10
     subst c10; have H1 : (impl_CheckKey.j0 k a0 a1 l2 true) = some (r1, r2, r3) := by rw [if_neg (show ¬ (false = true) by decide)] at H; exact H
     clear H; have H := H1; clear H1; have H' := zA H; clear H; go_wp2_with (first | ((with_reducible refine yB (f := 54) rfl ?_); refine goesL_ (some 13) rfl rfl Tryz.func54 (by kernel_rfl) rfl #[.string a0] rfl (by (try simp only [zAA, zAB, zAC]); first | done | rfl) ?_; (with_reducible refine (impl_isDigest.calls a0 true _ A5.out).mono ?_); rintro e w' ⟨rfl, ⟨nd, rfl⟩⟩; refine ⟨_, rfl, ?_⟩) | (go_at_call 60; (with_reducible refine (impl_isKey.calls a1 true _ A7.out).mono ?_); rintro e w' ⟨rfl, ⟨nd, rfl⟩⟩) | (go_at_call 51; (with_reducible refine (impl_within.calls (l2.length : Int) 1 10 false _ A9.out).mono ?_); rintro e w' ⟨rfl, ⟨nd, rfl⟩⟩)); go_meet
     case rel => exact ⟨_, (true), (by first | rfl | (simp; done) | (simp [*]; done) | (simp [bne]; done)), H', ⟨by first | omega | exact Nat.le_refl _⟩, ⟨by (with_reducible repeat first | exact HB.out | apply zH | apply zF | apply zG) <;> exact HB.out⟩⟩
   ·replace c8 := yO c8
    subst c8; have H1 : (impl_CheckKey.j0 k a0 a1 l2 true) = some (r1, r2, r3) := by rw [if_neg (show ¬ (false = true) by decide)] at H; exact H
    clear H; have H := H1; clear H1; have H' := zA H; clear H; go_wp2_with (first | ((with_reducible refine yB (f := 54) rfl ?_); refine goesL_ (some 13) rfl rfl Tryz.func54 (by kernel_rfl) rfl #[.string a0] rfl (by (try simp only [zAA, zAB, zAC]); first | done | rfl) ?_; (with_reducible refine (impl_isDigest.calls a0 true _ A5.out).mono ?_); rintro e w' ⟨rfl, ⟨nd, rfl⟩⟩; refine ⟨_, rfl, ?_⟩) | (go_at_call 60; (with_reducible refine (impl_isKey.calls a1 false _ A7.out).mono ?_); rintro e w' ⟨rfl, ⟨nd, rfl⟩⟩)); go_meet
    case rel => exact ⟨_, (true), (by first | rfl | (simp; done) | (simp [*]; done) | (simp [bne]; done)), H', ⟨by first | omega | exact Nat.le_refl _⟩, ⟨by (with_reducible repeat first | exact HB.out | apply zH | apply zF | apply zG) <;> exact HB.out⟩⟩
  ·replace c6 := yO c6
   subst c6; have H1 : (impl_CheckKey.j0 k a0 a1 l2 true) = some (r1, r2, r3) := by rw [if_neg (show ¬ (false = true) by decide)] at H; exact H
   clear H; have H := H1; clear H1; have H' := zA H; clear H; go_wp2_with (first | ((with_reducible refine yB (f := 54) rfl ?_); refine goesL_ (some 13) rfl rfl Tryz.func54 (by kernel_rfl) rfl #[.string a0] rfl (by (try simp only [zAA, zAB, zAC]); first | done | rfl) ?_; (with_reducible refine (impl_isDigest.calls a0 false _ A5.out).mono ?_); rintro e w' ⟨rfl, ⟨nd, rfl⟩⟩; refine ⟨_, rfl, ?_⟩)); go_meet
   case rel => exact ⟨_, (true), (by first | rfl | (simp; done) | (simp [*]; done) | (simp [bne]; done)), H', ⟨by first | omega | exact Nat.le_refl _⟩, ⟨by (with_reducible repeat first | exact HB.out | apply zH | apply zF | apply zG) <;> exact HB.out⟩⟩
 case rest =>
  clear HC4
  try clear c1
  try clear c2
  try clear p2
  try clear c5
  try clear c6
  try clear c8
  try clear c10
  obtain ⟨kq, x29_3, rfl, HA, HJ3, HB⟩ := hcut
  cases kq with
  | zero => exact absurd HA.out (by simp [impl_CheckKey.j0])
  | succ kj3 =>
   have H := HA.out; clear HA; simp only [impl_CheckKey.j0] at H
   by_cases c13 : x29_3 = true
   ·subst c13
    have H1 : (some ((⟨#[]⟩ : ByteArray), false, false)) = some (r1, r2, r3) := by rw [if_pos rfl] at H; exact H
    clear H; have H := H1; clear H1; simp only [Option.some.injEq, Prod.mk.injEq] at H; obtain ⟨rfl, rfl, rfl⟩ := H; go_wp2; go_ret3; exact ⟨by first | rfl | (simp <;> rfl) | (simp [*] <;> rfl), by (with_reducible repeat first | exact HB.out | apply zH | apply zF | apply zG) <;> exact HB.out⟩
   ·replace c13 := yO c13
    subst c13; have H1 : (impl_CheckKey.l0 kj3 a0 a1 l2 l2 (l2.length : Int) 0) = some (r1, r2, r3) := by rw [if_neg (show ¬ (false = true) by decide)] at H; exact H
    clear H; have H := H1; clear H1; have H' := zA H; clear H; go_wp2; go_loopg [0, 32] kj3 (fun kq v0 v32 w' => ∃ (x0_2 : ByteArray) (x32_2 : Int), v0 = .string x0_2 ∧ v32 = .int .i64 x32_2 ∧ Aside0 (impl_CheckKey.l0 kq x0_2 a1 l2 l2 (l2.length : Int) x32_2 = some (r1, r2, r3)) ∧ Aside0 (kq ≤ kj3) ∧ Aside0 (Below w.heap.size w w'))
    case atStart => exact ⟨(a0), (0), (by first | rfl | (simp; done) | (simp [*]; done) | (simp [bne]; done)), (by first | rfl | (simp; done) | (simp [*]; done) | (simp [bne]; done)), H', ⟨Nat.le_refl _⟩, ⟨by (with_reducible repeat first | exact HB.out | apply zH | apply zF | apply zG) <;> exact HB.out⟩⟩
    case round =>
     clear H'
     try clear c1
     try clear c2
     try clear p2
     try clear c5
     try clear c6
     try clear c8
     try clear c10
     try clear c13
     try clear p2
     obtain ⟨x0_2, x32_2, rfl, rfl, HA, HK2, HB⟩ := hrel
     cases gk with
     | zero => exact absurd HA.out (by simp [impl_CheckKey.l0])
     | succ k2 =>
      have H := HA.out; clear HA; simp only [impl_CheckKey.l0] at H
      by_cases c14 : x32_2 < (l2.length : Int)
      ·rw [if_pos c14] at H
       have c14b0 : decide (x32_2 < (l2.length : Int)) = true := zX c14; clear c14
       by_cases c15 : 0 ≤ x32_2
       ·rw [if_pos c15] at H
        have c15b0 : decide (0 ≤ x32_2) = true := zX c15; clear c15
        by_cases c16 : x32_2 < (l2.length : Int)
        ·rw [if_pos c16] at H
         have c16b0 : decide (x32_2 < (l2.length : Int)) = true := zX c16; clear c16; replace H := zAF H; obtain ⟨t51, A52, H⟩ := H; replace H : ((impl_Shown_digest.f k2 ((rd_T85 l2 x32_2).f0) ((rd_T85 l2 x32_2).f1) ((rd_T85 l2 x32_2).f2) ((rd_T85 l2 x32_2).f3)).bind fun t53 => (if t53.toList = x0_2.toList then ((impl_less.f k2 ((rd_T85 l2 x32_2).f0) a1).bind fun t54 => (impl_CheckKey.j2 k2 a1 l2 x32_2 t51 l2 (l2.length : Int) x32_2 (((rd_T85 l2 x32_2).f3) != t54) ((rd_T85 l2 x32_2).f0) ((rd_T85 l2 x32_2).f1) ((rd_T85 l2 x32_2).f2) ((rd_T85 l2 x32_2).f3))) else (impl_CheckKey.j2 k2 a1 l2 x32_2 t51 l2 (l2.length : Int) x32_2 true ((rd_T85 l2 x32_2).f0) ((rd_T85 l2 x32_2).f1) ((rd_T85 l2 x32_2).f2) ((rd_T85 l2 x32_2).f3)))) = some (r1, r2, r3) := H; have A17 := zA A52; clear A52; have HC18 := zA H; clear H; have p55 : 0 ≤ (x32_2 : Int) := zW (by first | (with_reducible assumption) | assumption); have q55 : x32_2 < (l2.length : Int) := zW (by first | (with_reducible assumption) | assumption); obtain ⟨ad55, A55_0, c55_0, A55_1, c55_1, A55_2, c55_2, e55, hx55_0, hx55_1, hx55_2, hx55_3, hl55_0, hi55_0, hl55_1, hi55_1, hl55_2, hi55_2⟩ := at_T85 HR2.out x32_2 p55 q55
         cases e55
         replace hx55_0 := (HB.out.cell (zB w _ hx55_0)).trans hx55_0; replace hx55_1 := (HB.out.cell (zB w _ hx55_1)).trans hx55_1; replace hx55_2 := (HB.out.cell (zB w _ hx55_2)).trans hx55_2; replace hx55_3 := (HB.out.cell (zB w _ hx55_3)).trans hx55_3; have HR55_0 := zA hi55_0; have HC55_0 := zA hl55_0; clear hi55_0 hl55_0; have HR55_1 := zA hi55_1; have HC55_1 := zA hl55_1; clear hi55_1 hl55_1; have HR55_2 := zA hi55_2; have HC55_2 := zA hl55_2; clear hi55_2 hl55_2; replace p55 := eq_true p55; replace q55 := eq_true q55; go_upto_region 7 with (first | ((with_reducible refine gate_dst (N := 10) rfl ?_); (try (refine gate_guard (by rfl) ?_; dsimp only)); refine box_event ?hg (N := 10) ?hd (cs := #[.slice none 0 0, .slice none 0 0, .slice none 0 0, .int .i64 0]) (t := 85) ?hr ?_; (case hd => rfl); (case hg => rfl); (case hr => first | (go_simp; done) | (go_simp; rfl)); intro gb56 hg w19 hbox hb; have n0_ := zA (zAD (by (with_reducible repeat first | exact HB.out | apply zH | apply zF | apply zG) <;> exact HB.out) hb); have n1_ := zA (hbox); have n2_ := zA ((by rw [hg]; exact (zAE (by (with_reducible repeat first | exact HB.out | apply zH | apply zF | apply zG) <;> exact HB.out)) : w.heap.size ≤ gb56)); have n3_ := zA ((by rw [hg]; exact (zAE (by (with_reducible repeat first | exact HB.out | apply zH | apply zF | apply zG) <;> exact HB.out)) : w.heap.size ≤ gb56)); clear HB; have HB := n0_; have BK56 := n1_; have GW56 := n2_; have GE56 := n3_; clear n0_ n1_ n2_ n3_; clear hb hbox hg; have hcz20_0 := yL BK56.out 0 (.slice none 0 0) rfl; have hcz20_1 := yL BK56.out 1 (.slice none 0 0) rfl; have hcz20_2 := yL BK56.out 2 (.slice none 0 0) rfl; have hcz20_3 := yL BK56.out 3 (.int .i64 0) rfl; have hfz20_0 := zO BK56.out 0; have hfz20_1 := zO BK56.out 1; have hfz20_2 := zO BK56.out 2; have hfz20_3 := zO BK56.out 3) | ((with_reducible refine yB (f := 64) rfl ?_); refine goesL_ (some 42) rfl rfl Tryz.func64 (by kernel_rfl) rfl #[.slice A55_0 ((rd_T85 l2 x32_2).f0).length c55_0, .int .i64 ((rd_T85 l2 x32_2).f3), .string a1] rfl (by (try simp only [zAA, zAB, zAC]); first | done | rfl | (simp only [zZ, zY]; rfl)) ?_; (with_reducible refine (impl_hasAt.calls _ _ ((rd_T85 l2 x32_2).f0) ((rd_T85 l2 x32_2).f3) a1 t51 _ ?side1 ?side2 A17.out).mono ?_); (case side1 => exact yN HR55_0.out (by repeat (first | (with_reducible first | exact HB.out | apply zH | apply zF | apply zG | refine zI ?_ GE56.out) | exact HB.out))); (case side2 => exact HC55_0.out); rintro e w' ⟨rfl, ⟨nd, rfl⟩⟩; refine ⟨_, rfl, ?_⟩))
         (try simp only [Act.put, zC, zD, zE]); go_cut [43] (fun v43 wc => ∃ (kq : Nat) (x43_17 : Bool), v43 = .bool x43_17 ∧ Aside0 (impl_CheckKey.j2 kq a1 l2 x32_2 t51 l2 (l2.length : Int) x32_2 x43_17 ((rd_T85 l2 x32_2).f0) ((rd_T85 l2 x32_2).f1) ((rd_T85 l2 x32_2).f2) ((rd_T85 l2 x32_2).f3) = some (r1, r2, r3)) ∧ Aside0 (kq ≤ k2) ∧ Aside0 (wc.heap[gb56]? = some (.cells #[(.slice A55_0 ((rd_T85 l2 x32_2).f0).length c55_0), (.slice A55_1 ((rd_T85 l2 x32_2).f1).length c55_1), (.slice A55_2 ((rd_T85 l2 x32_2).f2).length c55_2), .int .i64 ((rd_T85 l2 x32_2).f3)] 85 (0, 0))) ∧ Aside0 (Below w.heap.size w wc))
         case first =>
          have H := HC18.out; clear HC18; replace H := zAF H; obtain ⟨t53, A58, H⟩ := H; replace H : (if t53.toList = x0_2.toList then ((impl_less.f k2 ((rd_T85 l2 x32_2).f0) a1).bind fun t54 => (impl_CheckKey.j2 k2 a1 l2 x32_2 t51 l2 (l2.length : Int) x32_2 (((rd_T85 l2 x32_2).f3) != t54) ((rd_T85 l2 x32_2).f0) ((rd_T85 l2 x32_2).f1) ((rd_T85 l2 x32_2).f2) ((rd_T85 l2 x32_2).f3))) else (impl_CheckKey.j2 k2 a1 l2 x32_2 t51 l2 (l2.length : Int) x32_2 true ((rd_T85 l2 x32_2).f0) ((rd_T85 l2 x32_2).f1) ((rd_T85 l2 x32_2).f2) ((rd_T85 l2 x32_2).f3))) = some (r1, r2, r3) := H; have A21 := zA A58; clear A58
          by_cases c22 : t53.toList = x0_2.toList
          ·rw [if_pos c22] at H
           have c22b0 : (t53.toList == x0_2.toList) = true := beq_iff_eq.mpr c22; have c22b1 : (t53.toList != x0_2.toList) = false := bne_eq_false_iff_eq.mpr c22; clear c22; (first | rw [c22b0] | (simp only [i64_w, i32_w]; rw [c22b0]) | skip); replace H := zAF H; obtain ⟨t54, A59, H⟩ := H; replace H : (impl_CheckKey.j2 k2 a1 l2 x32_2 t51 l2 (l2.length : Int) x32_2 (((rd_T85 l2 x32_2).f3) != t54) ((rd_T85 l2 x32_2).f0) ((rd_T85 l2 x32_2).f1) ((rd_T85 l2 x32_2).f2) ((rd_T85 l2 x32_2).f3)) = some (r1, r2, r3) := H; have A23 := zA A59; clear A59; have H' := zA H; clear H
           try go_wp2
           have n0_ : Aside0 (((((w19.setCell ⟨gb56, 0, none⟩ (.slice A55_0 ((rd_T85 l2 x32_2).f0).length c55_0)).setCell ⟨gb56, 1, none⟩ (.slice A55_1 ((rd_T85 l2 x32_2).f1).length c55_1)).setCell ⟨gb56, 2, none⟩ (.slice A55_2 ((rd_T85 l2 x32_2).f2).length c55_2)).setCell ⟨gb56, 3, none⟩ (.int .i64 ((rd_T85 l2 x32_2).f3))).heap[gb56]? = some (.cells #[.slice A55_0 ((rd_T85 l2 x32_2).f0).length c55_0, .slice A55_1 ((rd_T85 l2 x32_2).f1).length c55_1, .slice A55_2 ((rd_T85 l2 x32_2).f2).length c55_2, .int .i64 ((rd_T85 l2 x32_2).f3)] 85 (0, 0))) := ⟨by (with_reducible repeat (first | refine zL ?_ _ | refine zN ?_ | refine zM ?_ _)); refine blk_put (cs := #[.slice A55_0 ((rd_T85 l2 x32_2).f0).length c55_0, .slice A55_1 ((rd_T85 l2 x32_2).f1).length c55_1, .slice A55_2 ((rd_T85 l2 x32_2).f2).length c55_2, .int .i64 0]) ?_ 3 _ rfl; (with_reducible repeat (first | refine zL ?_ _ | refine zN ?_ | refine zM ?_ _)); refine blk_put (cs := #[.slice A55_0 ((rd_T85 l2 x32_2).f0).length c55_0, .slice A55_1 ((rd_T85 l2 x32_2).f1).length c55_1, .slice none 0 0, .int .i64 0]) ?_ 2 _ rfl; (with_reducible repeat (first | refine zL ?_ _ | refine zN ?_ | refine zM ?_ _)); refine blk_put (cs := #[.slice A55_0 ((rd_T85 l2 x32_2).f0).length c55_0, .slice none 0 0, .slice none 0 0, .int .i64 0]) ?_ 1 _ rfl; (with_reducible repeat (first | refine zL ?_ _ | refine zN ?_ | refine zM ?_ _)); refine blk_put (cs := #[.slice none 0 0, .slice none 0 0, .slice none 0 0, .int .i64 0]) ?_ 0 _ rfl; (with_reducible repeat (first | refine zL ?_ _ | refine zN ?_ | refine zM ?_ _)); exact BK56.out⟩; have n1_ : Aside0 (Below w.heap.size w ((((w19.setCell ⟨gb56, 0, none⟩ (.slice A55_0 ((rd_T85 l2 x32_2).f0).length c55_0)).setCell ⟨gb56, 1, none⟩ (.slice A55_1 ((rd_T85 l2 x32_2).f1).length c55_1)).setCell ⟨gb56, 2, none⟩ (.slice A55_2 ((rd_T85 l2 x32_2).f2).length c55_2)).setCell ⟨gb56, 3, none⟩ (.int .i64 ((rd_T85 l2 x32_2).f3)))) := ⟨by repeat (first | (with_reducible first | exact HB.out | apply zH | apply zF | apply zG | refine zI ?_ GE56.out) | exact HB.out)⟩; (try clear BK56); (try clear HB); generalize ((((w19.setCell ⟨gb56, 0, none⟩ (.slice A55_0 ((rd_T85 l2 x32_2).f0).length c55_0)).setCell ⟨gb56, 1, none⟩ (.slice A55_1 ((rd_T85 l2 x32_2).f1).length c55_1)).setCell ⟨gb56, 2, none⟩ (.slice A55_2 ((rd_T85 l2 x32_2).f2).length c55_2)).setCell ⟨gb56, 3, none⟩ (.int .i64 ((rd_T85 l2 x32_2).f3))) = w24 at n0_ n1_ ⊢; have BK56 := n0_; have HB := n1_; clear n0_ n1_; (try (rw [show w24.drewN nd = w24.drewN nd from rfl]; have n0_ := zA (zL BK56.out nd); have n1_ := zA (zF HB.out nd); clear BK56 HB; generalize w24.drewN nd = w_nd at n0_ n1_ ⊢; have BK56 := n0_; have HB := n1_; clear n0_ n1_ w24; rename World => w24)); have n0_ := zA (zN BK56.out); have n1_ := zA (zG HB.out); clear BK56 HB; have BK56 := n0_; have HB := n1_; clear n0_ n1_; refine start_ (n := 14) (S := fun w' => w'.cell? ⟨gb56, 0, none⟩ = some (.slice A55_0 ((rd_T85 l2 x32_2).f0).length c55_0) ∧ w'.cell? ⟨gb56, 1, none⟩ = some (.slice A55_1 ((rd_T85 l2 x32_2).f1).length c55_1) ∧ w'.cell? ⟨gb56, 2, none⟩ = some (.slice A55_2 ((rd_T85 l2 x32_2).f2).length c55_2) ∧ w'.cell? ⟨gb56, 3, none⟩ = some (.int .i64 ((rd_T85 l2 x32_2).f3))) (ds := []) #[false, false, false, false, false, false, false, false, false, false, false, false, false, false] (by kernel_rfl) rfl rfl ⟨(zP BK56.out 0).trans rfl, (zP BK56.out 1).trans rfl, (zP BK56.out 2).trans rfl, (zP BK56.out 3).trans rfl⟩ (fun hHeld => ?_); refine with_tabW impl_CheckKey.tab7 impl_CheckKey.bits7 (fun HT_ HW_ => ?_); generalize w24.drew = w25 at BK56 HB hHeld ⊢; refine pure_ (i := 2) (N := some 46) (v := ?_) (a' := ?_) #[false, false, true, false, false, false, false, false, false, false, false, false, false, false] rfl rfl (any_of HT_.out (by kernel_rfl)) (fun _ _ _ h => h) (Or.inl ⟨by rfl, ?_⟩) ?_ ?_; rotate_left
           ·intro w'
            go_simp
            with_reducible rfl
           rotate_left
           ·simp only [Act.put, zC, zD, zE, i64_w]
            rfl
           refine take_ (i := 0) (N := some 44) (v := ?_) (a' := ?_) #[true, false, true, false, false, false, false, false, false, false, false, false, false, false] rfl rfl (take_ofW HT_.out HW_.out (by kernel_rfl)) (fun _ _ _ h => h) (Or.inl ⟨by rfl, ?_⟩) hHeld ?_ ?_; rotate_left
           ·rintro w' ⟨s0, s1, s2, s3⟩
            go_simp
            with_reducible rfl
           rotate_left
           ·simp only [Act.put, zC, zD, zE, i64_w]
            rfl
           refine one_ (i := 1) (N := some 45) #[true, true, true, false, false, false, false, false, false, false, false, false, false, false] rfl rfl (one_of HT_.out (by kernel_rfl)) (by decide) (fun K hK => ?_); refine goes_ Tryz.func65 (by kernel_rfl) rfl #[.agg #[.slice A55_0 ((rd_T85 l2 x32_2).f0).length c55_0, .slice A55_1 ((rd_T85 l2 x32_2).f1).length c55_1, .slice A55_2 ((rd_T85 l2 x32_2).f2).length c55_2, .int .i64 ((rd_T85 l2 x32_2).f3)]] (by rfl) rfl rfl (by (try simp only [zAA, zAB, zAC]); first | done | rfl | (simp only [zZ, zY]; rfl)) ?_
           with_reducible refine (impl_Shown_digest.calls k2 _ _ ((rd_T85 l2 x32_2).f0) _ _ ((rd_T85 l2 x32_2).f1) _ _ ((rd_T85 l2 x32_2).f2) ((rd_T85 l2 x32_2).f3) t53 _ ?side1 ?side2 ?side3 ?side4 ?side5 ?side6 A21.out).mono ?_
           (case side1 => repeat (first | exact (yN HR55_0.out HB.out) | (with_reducible first | refine zT ?_ _ | refine zU ?_ _ | refine zV ?_))); (case side2 => exact HC55_0.out); (case side3 => repeat (first | exact (yN HR55_1.out HB.out) | (with_reducible first | refine zT ?_ _ | refine zU ?_ _ | refine zV ?_))); (case side4 => exact HC55_1.out); (case side5 => repeat (first | exact (yN HR55_2.out HB.out) | (with_reducible first | refine zT ?_ _ | refine zU ?_ _ | refine zV ?_))); (case side6 => exact HC55_2.out); rintro e w26 ⟨rfl, hb⟩; refine ⟨_, rfl, ?_⟩; have n0_ := zA (yE (g := gb56) (o := .cells #[.slice A55_0 ((rd_T85 l2 x32_2).f0).length c55_0, .slice A55_1 ((rd_T85 l2 x32_2).f1).length c55_1, .slice A55_2 ((rd_T85 l2 x32_2).f2).length c55_2, .int .i64 ((rd_T85 l2 x32_2).f3)] 85 (0, 0)) (by (with_reducible repeat (first | refine zL ?_ _ | refine zN ?_ | refine zM ?_ _)); exact BK56.out) hb); have n1_ := zA (zAD (by repeat (first | (with_reducible first | exact HB.out | apply zH | apply zF | apply zG | refine zI ?_ GE56.out) | exact HB.out)) hb); clear BK56 HB; have BK56 := n0_; have HB := n1_; clear n0_ n1_; (try clear hb); refine hK.out _ _ ⟨(zP BK56.out 0).trans rfl, (zP BK56.out 1).trans rfl, (zP BK56.out 2).trans rfl, (zP BK56.out 3).trans rfl⟩ (fun hHeld => ?_); clear hK K; refine norm_ (a' := ?_) ?_ ?_; rotate_left
           ·show Act.put _ (some 45) _ = _
            simp only [Act.put, zC, zD, zE, i64_w]; rfl
           refine pure_ (i := 3) (N := some 47) (v := ?_) (a' := ?_) #[true, true, true, true, false, false, false, false, false, false, false, false, false, false] rfl rfl (any_of HT_.out (by kernel_rfl)) (fun _ _ _ h => h) (Or.inl ⟨by rfl, ?_⟩) ?_ ?_; rotate_left
           ·intro w'
            go_simp
            with_reducible rfl
           rotate_left
           ·simp only [Act.put, zC, zD, zE, i64_w]
            rfl
           refine pure_ (i := 4) (N := some 48) (v := ?_) (a' := ?_) #[true, true, true, true, true, false, false, false, false, false, false, false, false, false] rfl rfl (any_of HT_.out (by kernel_rfl)) (fun _ _ _ h => h) (Or.inl ⟨by rfl, ?_⟩) ?_ ?_; rotate_left
           ·intro w'
            go_simp
            with_reducible rfl
           rotate_left
           ·simp only [Act.put, zC, zD, zE, i64_w]
            rfl
           refine pure_ (i := 5) (N := some 49) (v := ?_) (a' := ?_) #[true, true, true, true, true, true, false, false, false, false, false, false, false, false] rfl rfl (any_of HT_.out (by kernel_rfl)) (fun _ _ _ h => h) (Or.inl ⟨by rfl, ?_⟩) ?_ ?_; rotate_left
           ·intro w'
            go_simp
            with_reducible rfl
           rotate_left
           ·simp only [Act.put, zC, zD, zE, i64_w]
            rfl
           refine pure_ (i := 7) (N := some 51) (v := ?_) (a' := ?_) #[true, true, true, true, true, true, false, true, false, false, false, false, false, false] rfl rfl (any_of HT_.out (by kernel_rfl)) (fun _ _ _ h => h) (Or.inl ⟨by rfl, ?_⟩) ?_ ?_; rotate_left
           ·intro w'
            go_simp
            with_reducible rfl
           rotate_left
           ·simp only [Act.put, zC, zD, zE, i64_w]
            rfl
           refine pure_ (i := 9) (N := some 53) (v := ?_) (a' := ?_) #[true, true, true, true, true, true, false, true, false, true, false, false, false, false] rfl rfl (any_of HT_.out (by kernel_rfl)) (fun _ _ _ h => h) (Or.inl ⟨by rfl, ?_⟩) ?_ ?_; rotate_left
           ·intro w'
            go_simp
            with_reducible rfl
           rotate_left
           ·simp only [Act.put, zC, zD, zE, i64_w]
            rfl
           refine take_ (i := 6) (N := some 50) (v := ?_) (a' := ?_) #[true, true, true, true, true, true, true, true, false, true, false, false, false, false] rfl rfl (take_ofW HT_.out HW_.out (by kernel_rfl)) (fun _ _ _ h => h) (Or.inl ⟨by rfl, ?_⟩) hHeld ?_ ?_; rotate_left
           ·rintro w' ⟨s0, s1, s2, s3⟩
            go_simp
            with_reducible rfl
           rotate_left
           ·simp only [Act.put, zC, zD, zE, i64_w]
            rfl
           refine take_ (i := 8) (N := some 52) (v := ?_) (a' := ?_) #[true, true, true, true, true, true, true, true, true, true, false, false, false, false] rfl rfl (take_ofW HT_.out HW_.out (by kernel_rfl)) (fun _ _ _ h => h) (Or.inl ⟨by rfl, ?_⟩) hHeld ?_ ?_; rotate_left
           ·rintro w' ⟨s0, s1, s2, s3⟩
            go_simp
            with_reducible rfl
           rotate_left
           ·simp only [Act.put, zC, zD, zE, i64_w]
            rfl
           refine one_ (i := 10) (N := some 54) #[true, true, true, true, true, true, true, true, true, true, true, false, false, false] rfl rfl (one_of HT_.out (by kernel_rfl)) (by decide) (fun K hK => ?_); refine goes_ Tryz.func66 (by kernel_rfl) rfl #[.slice A55_0 ((rd_T85 l2 x32_2).f0).length c55_0, .string a1] (by rfl) rfl rfl (by (try simp only [zAA, zAB, zAC]); first | done | rfl | (simp only [zZ, zY]; rfl)) ?_
           with_reducible refine (impl_less.calls k2 _ _ ((rd_T85 l2 x32_2).f0) a1 t54 _ ?side1 ?side2 A23.out).mono ?_
           (case side1 => repeat (first | exact (yN HR55_0.out HB.out) | (with_reducible first | refine zT ?_ _ | refine zU ?_ _ | refine zV ?_))); (case side2 => exact HC55_0.out); rintro e w' ⟨rfl, ⟨nd, rfl⟩⟩; refine ⟨_, rfl, ?_⟩; refine hK.out _ _ ⟨(zP BK56.out 0).trans rfl, (zP BK56.out 1).trans rfl, (zP BK56.out 2).trans rfl, (zP BK56.out 3).trans rfl⟩ (fun hHeld => ?_); clear hK K; refine norm_ (a' := ?_) ?_ ?_; rotate_left
           ·show Act.put _ (some 54) _ = _
            simp only [Act.put, zC, zD, zE, i64_w]; rfl
           refine pure_ (i := 11) (N := some 55) (v := ?_) (a' := ?_) #[true, true, true, true, true, true, true, true, true, true, true, true, false, false] rfl rfl (any_of HT_.out (by kernel_rfl)) (fun _ _ _ h => h) (Or.inl ⟨by rfl, ?_⟩) ?_ ?_; rotate_left
           ·intro w'
            go_simp
            with_reducible rfl
           rotate_left
           ·simp only [Act.put, zC, zD, zE, i64_w]
            rfl
           refine pure_ (i := 12) (N := some 56) (v := ?_) (a' := ?_) #[true, true, true, true, true, true, true, true, true, true, true, true, true, false] rfl rfl (any_of HT_.out (by kernel_rfl)) (fun _ _ _ h => h) (Or.inl ⟨by rfl, ?_⟩) ?_ ?_; rotate_left
           ·intro w'
            go_simp
            with_reducible rfl
           rotate_left
           ·simp only [Act.put, zC, zD, zE, i64_w]
            rfl
           refine pure_ (i := 13) (N := some 43) (v := ?_) (a' := ?_) #[true, true, true, true, true, true, true, true, true, true, true, true, true, true] rfl rfl (any_of HT_.out (by kernel_rfl)) (fun _ _ _ h => h) (Or.inl ⟨by rfl, ?_⟩) ?_ ?_; rotate_left
           ·intro w'
            go_simp
            with_reducible rfl
           rotate_left
           ·simp only [Act.put, zC, zD, zE, i64_w]
            rfl
           refine done_ (done_of HT_.out (by kernel_rfl)) ?_
           try go_wp2
           go_meet
           case rel => exact ⟨_, ((((rd_T85 l2 x32_2).f3) != t54)), (by first | rfl | (simp; done) | (simp [*]; done) | (simp [bne]; done)), H', ⟨by have := HJ3.out; have := HK2.out; first | omega | exact Nat.le_refl _⟩, ⟨by (with_reducible repeat (first | refine zL ?_ _ | refine zN ?_ | refine zM ?_ _)); exact BK56.out⟩, ⟨by repeat (first | (with_reducible first | exact HB.out | apply zH | apply zF | apply zG | refine zI ?_ GE56.out) | exact HB.out)⟩⟩
          ·rw [if_neg c22] at H
           have c22b0 : (t53.toList == x0_2.toList) = false := beq_eq_false_iff_ne.mpr c22; have c22b1 : (t53.toList != x0_2.toList) = true := bne_iff_ne.mpr c22; (first | rw [c22b0] | (simp only [i64_w, i32_w]; rw [c22b0]) | skip); have H' := zA H; clear H
           try go_wp2
           have n0_ : Aside0 (((((w19.setCell ⟨gb56, 0, none⟩ (.slice A55_0 ((rd_T85 l2 x32_2).f0).length c55_0)).setCell ⟨gb56, 1, none⟩ (.slice A55_1 ((rd_T85 l2 x32_2).f1).length c55_1)).setCell ⟨gb56, 2, none⟩ (.slice A55_2 ((rd_T85 l2 x32_2).f2).length c55_2)).setCell ⟨gb56, 3, none⟩ (.int .i64 ((rd_T85 l2 x32_2).f3))).heap[gb56]? = some (.cells #[.slice A55_0 ((rd_T85 l2 x32_2).f0).length c55_0, .slice A55_1 ((rd_T85 l2 x32_2).f1).length c55_1, .slice A55_2 ((rd_T85 l2 x32_2).f2).length c55_2, .int .i64 ((rd_T85 l2 x32_2).f3)] 85 (0, 0))) := ⟨by (with_reducible repeat (first | refine zL ?_ _ | refine zN ?_ | refine zM ?_ _)); refine blk_put (cs := #[.slice A55_0 ((rd_T85 l2 x32_2).f0).length c55_0, .slice A55_1 ((rd_T85 l2 x32_2).f1).length c55_1, .slice A55_2 ((rd_T85 l2 x32_2).f2).length c55_2, .int .i64 0]) ?_ 3 _ rfl; (with_reducible repeat (first | refine zL ?_ _ | refine zN ?_ | refine zM ?_ _)); refine blk_put (cs := #[.slice A55_0 ((rd_T85 l2 x32_2).f0).length c55_0, .slice A55_1 ((rd_T85 l2 x32_2).f1).length c55_1, .slice none 0 0, .int .i64 0]) ?_ 2 _ rfl; (with_reducible repeat (first | refine zL ?_ _ | refine zN ?_ | refine zM ?_ _)); refine blk_put (cs := #[.slice A55_0 ((rd_T85 l2 x32_2).f0).length c55_0, .slice none 0 0, .slice none 0 0, .int .i64 0]) ?_ 1 _ rfl; (with_reducible repeat (first | refine zL ?_ _ | refine zN ?_ | refine zM ?_ _)); refine blk_put (cs := #[.slice none 0 0, .slice none 0 0, .slice none 0 0, .int .i64 0]) ?_ 0 _ rfl; (with_reducible repeat (first | refine zL ?_ _ | refine zN ?_ | refine zM ?_ _)); exact BK56.out⟩; have n1_ : Aside0 (Below w.heap.size w ((((w19.setCell ⟨gb56, 0, none⟩ (.slice A55_0 ((rd_T85 l2 x32_2).f0).length c55_0)).setCell ⟨gb56, 1, none⟩ (.slice A55_1 ((rd_T85 l2 x32_2).f1).length c55_1)).setCell ⟨gb56, 2, none⟩ (.slice A55_2 ((rd_T85 l2 x32_2).f2).length c55_2)).setCell ⟨gb56, 3, none⟩ (.int .i64 ((rd_T85 l2 x32_2).f3)))) := ⟨by repeat (first | (with_reducible first | exact HB.out | apply zH | apply zF | apply zG | refine zI ?_ GE56.out) | exact HB.out)⟩; (try clear BK56); (try clear HB); generalize ((((w19.setCell ⟨gb56, 0, none⟩ (.slice A55_0 ((rd_T85 l2 x32_2).f0).length c55_0)).setCell ⟨gb56, 1, none⟩ (.slice A55_1 ((rd_T85 l2 x32_2).f1).length c55_1)).setCell ⟨gb56, 2, none⟩ (.slice A55_2 ((rd_T85 l2 x32_2).f2).length c55_2)).setCell ⟨gb56, 3, none⟩ (.int .i64 ((rd_T85 l2 x32_2).f3))) = w27 at n0_ n1_ ⊢; have BK56 := n0_; have HB := n1_; clear n0_ n1_; (try (rw [show w27.drewN nd = w27.drewN nd from rfl]; have n0_ := zA (zL BK56.out nd); have n1_ := zA (zF HB.out nd); clear BK56 HB; generalize w27.drewN nd = w_nd at n0_ n1_ ⊢; have BK56 := n0_; have HB := n1_; clear n0_ n1_ w27; rename World => w27)); have n0_ := zA (zN BK56.out); have n1_ := zA (zG HB.out); clear BK56 HB; have BK56 := n0_; have HB := n1_; clear n0_ n1_; refine start_ (n := 14) (S := fun w' => w'.cell? ⟨gb56, 0, none⟩ = some (.slice A55_0 ((rd_T85 l2 x32_2).f0).length c55_0) ∧ w'.cell? ⟨gb56, 1, none⟩ = some (.slice A55_1 ((rd_T85 l2 x32_2).f1).length c55_1) ∧ w'.cell? ⟨gb56, 2, none⟩ = some (.slice A55_2 ((rd_T85 l2 x32_2).f2).length c55_2) ∧ w'.cell? ⟨gb56, 3, none⟩ = some (.int .i64 ((rd_T85 l2 x32_2).f3))) (ds := []) #[false, false, false, false, false, false, false, false, false, false, false, false, false, false] (by kernel_rfl) rfl rfl ⟨(zP BK56.out 0).trans rfl, (zP BK56.out 1).trans rfl, (zP BK56.out 2).trans rfl, (zP BK56.out 3).trans rfl⟩ (fun hHeld => ?_); refine with_tabW impl_CheckKey.tab7 impl_CheckKey.bits7 (fun HT_ HW_ => ?_); generalize w27.drew = w28 at BK56 HB hHeld ⊢; refine pure_ (i := 2) (N := some 46) (v := ?_) (a' := ?_) #[false, false, true, false, false, false, false, false, false, false, false, false, false, false] rfl rfl (any_of HT_.out (by kernel_rfl)) (fun _ _ _ h => h) (Or.inl ⟨by rfl, ?_⟩) ?_ ?_; rotate_left
           ·intro w'
            go_simp
            with_reducible rfl
           rotate_left
           ·simp only [Act.put, zC, zD, zE, i64_w]
            rfl
           refine take_ (i := 0) (N := some 44) (v := ?_) (a' := ?_) #[true, false, true, false, false, false, false, false, false, false, false, false, false, false] rfl rfl (take_ofW HT_.out HW_.out (by kernel_rfl)) (fun _ _ _ h => h) (Or.inl ⟨by rfl, ?_⟩) hHeld ?_ ?_; rotate_left
           ·rintro w' ⟨s0, s1, s2, s3⟩
            go_simp
            with_reducible rfl
           rotate_left
           ·simp only [Act.put, zC, zD, zE, i64_w]
            rfl
           refine one_ (i := 1) (N := some 45) #[true, true, true, false, false, false, false, false, false, false, false, false, false, false] rfl rfl (one_of HT_.out (by kernel_rfl)) (by decide) (fun K hK => ?_); refine goes_ Tryz.func65 (by kernel_rfl) rfl #[.agg #[.slice A55_0 ((rd_T85 l2 x32_2).f0).length c55_0, .slice A55_1 ((rd_T85 l2 x32_2).f1).length c55_1, .slice A55_2 ((rd_T85 l2 x32_2).f2).length c55_2, .int .i64 ((rd_T85 l2 x32_2).f3)]] (by rfl) rfl rfl (by (try simp only [zAA, zAB, zAC]); first | done | rfl | (simp only [zZ, zY]; rfl)) ?_
           with_reducible refine (impl_Shown_digest.calls k2 _ _ ((rd_T85 l2 x32_2).f0) _ _ ((rd_T85 l2 x32_2).f1) _ _ ((rd_T85 l2 x32_2).f2) ((rd_T85 l2 x32_2).f3) t53 _ ?side1 ?side2 ?side3 ?side4 ?side5 ?side6 A21.out).mono ?_
           (case side1 => repeat (first | exact (yN HR55_0.out HB.out) | (with_reducible first | refine zT ?_ _ | refine zU ?_ _ | refine zV ?_))); (case side2 => exact HC55_0.out); (case side3 => repeat (first | exact (yN HR55_1.out HB.out) | (with_reducible first | refine zT ?_ _ | refine zU ?_ _ | refine zV ?_))); (case side4 => exact HC55_1.out); (case side5 => repeat (first | exact (yN HR55_2.out HB.out) | (with_reducible first | refine zT ?_ _ | refine zU ?_ _ | refine zV ?_))); (case side6 => exact HC55_2.out); rintro e w29 ⟨rfl, hb⟩; refine ⟨_, rfl, ?_⟩; have n0_ := zA (yE (g := gb56) (o := .cells #[.slice A55_0 ((rd_T85 l2 x32_2).f0).length c55_0, .slice A55_1 ((rd_T85 l2 x32_2).f1).length c55_1, .slice A55_2 ((rd_T85 l2 x32_2).f2).length c55_2, .int .i64 ((rd_T85 l2 x32_2).f3)] 85 (0, 0)) (by (with_reducible repeat (first | refine zL ?_ _ | refine zN ?_ | refine zM ?_ _)); exact BK56.out) hb); have n1_ := zA (zAD (by repeat (first | (with_reducible first | exact HB.out | apply zH | apply zF | apply zG | refine zI ?_ GE56.out) | exact HB.out)) hb); clear BK56 HB; have BK56 := n0_; have HB := n1_; clear n0_ n1_; (try clear hb); refine hK.out _ _ ⟨(zP BK56.out 0).trans rfl, (zP BK56.out 1).trans rfl, (zP BK56.out 2).trans rfl, (zP BK56.out 3).trans rfl⟩ (fun hHeld => ?_); clear hK K; refine norm_ (a' := ?_) ?_ ?_; rotate_left
           ·show Act.put _ (some 45) _ = _
            simp only [Act.put, zC, zD, zE, i64_w]; rfl
           refine pure_ (i := 3) (N := some 47) (v := ?_) (a' := ?_) #[true, true, true, true, false, false, false, false, false, false, false, false, false, false] rfl rfl (any_of HT_.out (by kernel_rfl)) (fun _ _ _ h => h) (Or.inl ⟨by rfl, ?_⟩) ?_ ?_; rotate_left
           ·intro w'
            go_simp
            with_reducible rfl
           rotate_left
           ·simp only [Act.put, zC, zD, zE, i64_w]
            rfl
           refine pure_ (i := 4) (N := some 48) (v := ?_) (a' := ?_) #[true, true, true, true, true, false, false, false, false, false, false, false, false, false] rfl rfl (any_of HT_.out (by kernel_rfl)) (fun _ _ _ h => h) (Or.inl ⟨by rfl, ?_⟩) ?_ ?_; rotate_left
           ·intro w'
            go_simp
            with_reducible rfl
           rotate_left
           ·simp only [Act.put, zC, zD, zE, i64_w]
            rfl
           refine pure_ (i := 5) (N := some 49) (v := undef) (a' := ?_) #[true, true, true, true, true, true, false, false, false, false, false, false, false, false] rfl rfl (any_of HT_.out (by kernel_rfl)) (fun _ _ _ h => h) (Or.inr ⟨by rfl, rfl⟩) ?_ ?_; rotate_left
           ·simp only [Act.put, zC, zD, zE, i64_w]
            rfl
           refine pure_ (i := 6) (N := some 50) (v := undef) (a' := ?_) #[true, true, true, true, true, true, true, false, false, false, false, false, false, false] rfl rfl (any_of HT_.out (by kernel_rfl)) (fun _ _ _ h => h) (Or.inr ⟨by rfl, rfl⟩) ?_ ?_; rotate_left
           ·simp only [Act.put, zC, zD, zE, i64_w]
            rfl
           refine pure_ (i := 7) (N := some 51) (v := undef) (a' := ?_) #[true, true, true, true, true, true, true, true, false, false, false, false, false, false] rfl rfl (any_of HT_.out (by kernel_rfl)) (fun _ _ _ h => h) (Or.inr ⟨by rfl, rfl⟩) ?_ ?_; rotate_left
           ·simp only [Act.put, zC, zD, zE, i64_w]
            rfl
           refine pure_ (i := 8) (N := some 52) (v := undef) (a' := ?_) #[true, true, true, true, true, true, true, true, true, false, false, false, false, false] rfl rfl (any_of HT_.out (by kernel_rfl)) (fun _ _ _ h => h) (Or.inr ⟨by rfl, rfl⟩) ?_ ?_; rotate_left
           ·simp only [Act.put, zC, zD, zE, i64_w]
            rfl
           refine pure_ (i := 9) (N := some 53) (v := undef) (a' := ?_) #[true, true, true, true, true, true, true, true, true, true, false, false, false, false] rfl rfl (any_of HT_.out (by kernel_rfl)) (fun _ _ _ h => h) (Or.inr ⟨by rfl, rfl⟩) ?_ ?_; rotate_left
           ·simp only [Act.put, zC, zD, zE, i64_w]
            rfl
           refine pure_ (i := 10) (N := some 54) (v := undef) (a' := ?_) #[true, true, true, true, true, true, true, true, true, true, true, false, false, false] rfl rfl (any_of HT_.out (by kernel_rfl)) (fun _ _ _ h => h) (Or.inr ⟨by rfl, rfl⟩) ?_ ?_; rotate_left
           ·simp only [Act.put, zC, zD, zE, i64_w]
            rfl
           refine pure_ (i := 11) (N := some 55) (v := undef) (a' := ?_) #[true, true, true, true, true, true, true, true, true, true, true, true, false, false] rfl rfl (any_of HT_.out (by kernel_rfl)) (fun _ _ _ h => h) (Or.inr ⟨by rfl, rfl⟩) ?_ ?_; rotate_left
           ·simp only [Act.put, zC, zD, zE, i64_w]
            rfl
           refine pure_ (i := 12) (N := some 56) (v := ?_) (a' := ?_) #[true, true, true, true, true, true, true, true, true, true, true, true, true, false] rfl rfl (any_of HT_.out (by kernel_rfl)) (fun _ _ _ h => h) (Or.inl ⟨by rfl, ?_⟩) ?_ ?_; rotate_left
           ·intro w'
            go_simp
            with_reducible rfl
           rotate_left
           ·simp only [Act.put, zC, zD, zE, i64_w]
            rfl
           refine pure_ (i := 13) (N := some 43) (v := ?_) (a' := ?_) #[true, true, true, true, true, true, true, true, true, true, true, true, true, true] rfl rfl (any_of HT_.out (by kernel_rfl)) (fun _ _ _ h => h) (Or.inl ⟨by rfl, ?_⟩) ?_ ?_; rotate_left
           ·intro w'
            go_simp
            with_reducible rfl
           rotate_left
           ·simp only [Act.put, zC, zD, zE, i64_w]
            rfl
           refine done_ (done_of HT_.out (by kernel_rfl)) ?_
           try go_wp2
           go_meet
           case rel => exact ⟨_, (true), (by first | rfl | (simp; done) | (simp [*]; done) | (simp [bne]; done)), H', ⟨by have := HJ3.out; have := HK2.out; first | omega | exact Nat.le_refl _⟩, ⟨by (with_reducible repeat (first | refine zL ?_ _ | refine zN ?_ | refine zM ?_ _)); exact BK56.out⟩, ⟨by repeat (first | (with_reducible first | exact HB.out | apply zH | apply zF | apply zG | refine zI ?_ GE56.out) | exact HB.out)⟩⟩
         case rest =>
          clear HC18
          try clear c1
          try clear c2
          try clear p2
          try clear c4
          try clear p4
          try clear q4
          try clear hx4
          try clear c5
          try clear c6
          try clear c8
          try clear c10
          try clear c13
          try clear c14
          try clear c14b0
          try clear c15
          try clear c15b0
          try clear c16
          try clear c16b0
          try clear c22
          try clear c22b0
          try clear c22b1
          try clear c26
          try clear hcz20_0
          try clear hcz20_1
          try clear hcz20_2
          try clear hcz20_3
          try clear hfz20_0
          try clear hfz20_1
          try clear hfz20_2
          try clear hfz20_3
          try clear hx55_0
          try clear hx55_1
          try clear hx55_2
          try clear hx55_3
          try clear p2
          try clear p55
          try clear q55
          obtain ⟨kq, x43_17, rfl, HA, HJ17, BK56, HB⟩ := hcut
          cases kq with
          | zero => exact absurd HA.out (by simp [impl_CheckKey.j2])
          | succ kj17 =>
           have H := HA.out; clear HA; simp only [impl_CheckKey.j2] at H
           by_cases c30 : x43_17 = true
           ·subst c30
            have H1 : (some ((⟨#[]⟩ : ByteArray), false, false)) = some (r1, r2, r3) := by rw [if_pos rfl] at H; exact H
            clear H; have H := H1; clear H1; simp only [Option.some.injEq, Prod.mk.injEq] at H; obtain ⟨rfl, rfl, rfl⟩ := H; go_wp2; go_ret3; exact ⟨by first | rfl | (simp <;> rfl) | (simp [*] <;> rfl), by repeat (first | (with_reducible first | exact HB.out | apply zH | apply zF | apply zG | refine zI ?_ GE56.out) | exact HB.out)⟩
           ·replace c30 := yO c30
            subst c30; have H1 : (if x32_2 = (wrap64 ((l2.length : Int) - 1)) then (impl_CheckKey.j3 kj17 a1 l2 x32_2 t51 l2 (l2.length : Int) x32_2 t51 ((rd_T85 l2 x32_2).f0) ((rd_T85 l2 x32_2).f1) ((rd_T85 l2 x32_2).f2) ((rd_T85 l2 x32_2).f3)) else (impl_CheckKey.j3 kj17 a1 l2 x32_2 t51 l2 (l2.length : Int) x32_2 false ((rd_T85 l2 x32_2).f0) ((rd_T85 l2 x32_2).f1) ((rd_T85 l2 x32_2).f2) ((rd_T85 l2 x32_2).f3))) = some (r1, r2, r3) := by rw [if_neg (show ¬ (false = true) by decide)] at H; exact H
            clear H; have H := H1; clear H1; have HC31 := zA H; clear H; go_upto_region 9 with (fail)
            go_cut [57] (fun v57 wc => ∃ (kq : Nat) (x57_30 : Bool), v57 = .bool x57_30 ∧ Aside0 (impl_CheckKey.j3 kq a1 l2 x32_2 t51 l2 (l2.length : Int) x32_2 x57_30 ((rd_T85 l2 x32_2).f0) ((rd_T85 l2 x32_2).f1) ((rd_T85 l2 x32_2).f2) ((rd_T85 l2 x32_2).f3) = some (r1, r2, r3)) ∧ Aside0 (kq ≤ kj17) ∧ Aside0 (wc.heap[gb56]? = some (.cells #[(.slice A55_0 ((rd_T85 l2 x32_2).f0).length c55_0), (.slice A55_1 ((rd_T85 l2 x32_2).f1).length c55_1), (.slice A55_2 ((rd_T85 l2 x32_2).f2).length c55_2), .int .i64 ((rd_T85 l2 x32_2).f3)] 85 (0, 0))) ∧ Aside0 (Below w.heap.size w wc))
            case first =>
             have H := HC31.out; clear HC31
             by_cases c32 : x32_2 = (wrap64 ((l2.length : Int) - 1))
             ·rw [if_pos c32] at H
              have c32b0 : (x32_2 == (wrap64 ((l2.length : Int) - 1))) = true := beq_iff_eq.mpr c32; have c32b1 : (x32_2 != (wrap64 ((l2.length : Int) - 1))) = false := bne_eq_false_iff_eq.mpr c32; clear c32; (first | rw [c32b0] | (simp only [i64_w, i32_w]; rw [c32b0]) | skip); have H' := zA H; clear H; go_wp2; go_meet
              case rel => exact ⟨_, (t51), (by first | rfl | (simp; done) | (simp [*]; done) | (simp [bne]; done)), H', ⟨by have := HJ3.out; have := HK2.out; have := HJ17.out; first | omega | exact Nat.le_refl _⟩, ⟨by (with_reducible repeat (first | refine zL ?_ _ | refine zN ?_ | refine zM ?_ _)); exact BK56.out⟩, ⟨by repeat (first | (with_reducible first | exact HB.out | apply zH | apply zF | apply zG | refine zI ?_ GE56.out) | exact HB.out)⟩⟩
             ·rw [if_neg c32] at H
              have c32b0 : (x32_2 == (wrap64 ((l2.length : Int) - 1))) = false := beq_eq_false_iff_ne.mpr c32; have c32b1 : (x32_2 != (wrap64 ((l2.length : Int) - 1))) = true := bne_iff_ne.mpr c32; (first | rw [c32b0] | (simp only [i64_w, i32_w]; rw [c32b0]) | skip); have H' := zA H; clear H; go_wp2; go_meet
              case rel => exact ⟨_, (false), (by first | rfl | (simp; done) | (simp [*]; done) | (simp [bne]; done)), H', ⟨by have := HJ3.out; have := HK2.out; have := HJ17.out; first | omega | exact Nat.le_refl _⟩, ⟨by (with_reducible repeat (first | refine zL ?_ _ | refine zN ?_ | refine zM ?_ _)); exact BK56.out⟩, ⟨by repeat (first | (with_reducible first | exact HB.out | apply zH | apply zF | apply zG | refine zI ?_ GE56.out) | exact HB.out)⟩⟩
            case rest =>
             clear HC31
             try clear c1
             try clear c2
             try clear p2
             try clear c3
             try clear c4
             try clear p4
             try clear q4
             try clear hx4
             try clear c5
             try clear c6
             try clear p6
             try clear c8
             try clear c10
             try clear c13
             try clear c14
             try clear c14b0
             try clear c15
             try clear c15b0
             try clear c16
             try clear c16b0
             try clear c22
             try clear c22b0
             try clear c22b1
             try clear c26
             try clear c30
             try clear c32
             try clear c32b0
             try clear c32b1
             try clear hcz20_0
             try clear hcz20_1
             try clear hcz20_2
             try clear hcz20_3
             try clear hfz20_0
             try clear hfz20_1
             try clear hfz20_2
             try clear hfz20_3
             try clear hx55_0
             try clear hx55_1
             try clear hx55_2
             try clear hx55_3
             try clear p2
             try clear p4
             try clear p55
             try clear q4
             try clear q55
             obtain ⟨kq, x57_30, rfl, HA, HJ30, BK56, HB⟩ := hcut
             cases kq with
             | zero => exact absurd HA.out (by simp [impl_CheckKey.j3])
             | succ kj30 =>
              have H := HA.out; clear HA; simp only [impl_CheckKey.j3] at H
              by_cases c33 : x57_30 = true
              ·subst c33
               have H1 : (if 0 ≤ ((rd_T85 l2 x32_2).f3) then (if ((rd_T85 l2 x32_2).f3) < (((rd_T85 l2 x32_2).f1).length : Int) then (some (rdOf ByteArray.empty ((rd_T85 l2 x32_2).f1) ((rd_T85 l2 x32_2).f3), true, true)) else (none)) else (none)) = some (r1, r2, r3) := by rw [if_pos rfl] at H; exact H
               clear H; have H := H1; clear H1
               by_cases c34 : 0 ≤ ((rd_T85 l2 x32_2).f3)
               ·rw [if_pos c34] at H
                have c34b0 : decide (0 ≤ ((rd_T85 l2 x32_2).f3)) = true := zX c34; clear c34
                by_cases c35 : ((rd_T85 l2 x32_2).f3) < (((rd_T85 l2 x32_2).f1).length : Int)
                ·rw [if_pos c35] at H
                 have c35b0 : decide (((rd_T85 l2 x32_2).f3) < (((rd_T85 l2 x32_2).f1).length : Int)) = true := zX c35; clear c35; simp only [Option.some.injEq, Prod.mk.injEq] at H; obtain ⟨rfl, rfl, rfl⟩ := H; have hcz36_0 := yL BK56.out 0 (.slice A55_0 ((rd_T85 l2 x32_2).f0).length c55_0) rfl; have hcz36_1 := yL BK56.out 1 (.slice A55_1 ((rd_T85 l2 x32_2).f1).length c55_1) rfl; have hcz36_2 := yL BK56.out 2 (.slice A55_2 ((rd_T85 l2 x32_2).f2).length c55_2) rfl; have hcz36_3 := yL BK56.out 3 (.int .i64 ((rd_T85 l2 x32_2).f3)) rfl; have hfz36_0 := zO BK56.out 0; have hfz36_1 := zO BK56.out 1; have hfz36_2 := zO BK56.out 2; have hfz36_3 := zO BK56.out 3; have p60 : 0 ≤ (((rd_T85 l2 x32_2).f3) : Int) := zW (by first | (with_reducible assumption) | assumption); have q60 : ((rd_T85 l2 x32_2).f3) < (((rd_T85 l2 x32_2).f1).length : Int) := zW (by first | (with_reducible assumption) | assumption); obtain ⟨ad60, e60, hx60_0⟩ := Kd.at_string HR55_1.out ((rd_T85 l2 x32_2).f3) p60 q60
                 cases e60
                 replace hx60_0 := (HB.out.cell (zB w _ hx60_0)).trans hx60_0; replace p60 := eq_true p60; replace q60 := eq_true q60; go_wp2; go_ret3; exact ⟨by first | rfl | (simp <;> rfl) | (simp [*] <;> rfl), by repeat (first | (with_reducible first | exact HB.out | apply zH | apply zF | apply zG | refine zI ?_ GE56.out) | exact HB.out)⟩
                ·rw [if_neg c35] at H
                 exact absurd H (by simp)
               ·rw [if_neg c34] at H
                exact absurd H (by simp)
              ·replace c33 := yO c33
               subst c33; have H1 : (if x32_2 = (wrap64 ((l2.length : Int) - 1)) then (some ((⟨#[]⟩ : ByteArray), false, ((((rd_T85 l2 x32_2).f2).length : Int) == 0))) else (if t51 = true then (some ((⟨#[]⟩ : ByteArray), false, false)) else (if (((rd_T85 l2 x32_2).f2).length : Int) = 0 then (some ((⟨#[]⟩ : ByteArray), false, false)) else (if 0 ≤ ((rd_T85 l2 x32_2).f3) then (if ((rd_T85 l2 x32_2).f3) < (((rd_T85 l2 x32_2).f2).length : Int) then (impl_CheckKey.l0 kj30 (rdOf ByteArray.empty ((rd_T85 l2 x32_2).f2) ((rd_T85 l2 x32_2).f3)) a1 l2 l2 (l2.length : Int) (wrap64 (x32_2 + 1))) else (none)) else (none))))) = some (r1, r2, r3) := by rw [if_neg (show ¬ (false = true) by decide)] at H; exact H
               clear H; have H := H1; clear H1
               by_cases c37 : x32_2 = (wrap64 ((l2.length : Int) - 1))
               ·rw [if_pos c37] at H
                have c37b0 : (x32_2 == (wrap64 ((l2.length : Int) - 1))) = true := beq_iff_eq.mpr c37; have c37b1 : (x32_2 != (wrap64 ((l2.length : Int) - 1))) = false := bne_eq_false_iff_eq.mpr c37; clear c37; simp only [Option.some.injEq, Prod.mk.injEq] at H; obtain ⟨rfl, rfl, rfl⟩ := H
                try go_wp2
                have n0_ := zA (zN BK56.out); have n1_ := zA (zG HB.out); clear BK56 HB; have BK56 := n0_; have HB := n1_; clear n0_ n1_; refine start_ (n := 7) (S := fun w' => w'.cell? ⟨gb56, 0, none⟩ = some (.slice A55_0 ((rd_T85 l2 x32_2).f0).length c55_0) ∧ w'.cell? ⟨gb56, 1, none⟩ = some (.slice A55_1 ((rd_T85 l2 x32_2).f1).length c55_1) ∧ w'.cell? ⟨gb56, 2, none⟩ = some (.slice A55_2 ((rd_T85 l2 x32_2).f2).length c55_2) ∧ w'.cell? ⟨gb56, 3, none⟩ = some (.int .i64 ((rd_T85 l2 x32_2).f3))) (ds := []) #[false, false, false, false, false, false, false] (by kernel_rfl) rfl rfl ⟨(zP BK56.out 0).trans rfl, (zP BK56.out 1).trans rfl, (zP BK56.out 2).trans rfl, (zP BK56.out 3).trans rfl⟩ (fun hHeld => ?_); generalize wc.drew = w38 at BK56 HB hHeld ⊢; refine pure_ (i := 0) (N := some 78) (v := ?_) (a' := ?_) #[true, false, false, false, false, false, false] rfl rfl (by kernel_rfl) (fun _ _ _ h => h) (Or.inl ⟨by rfl, ?_⟩) ?_ ?_; rotate_left
                ·intro w'
                 go_simp
                 with_reducible rfl
                rotate_left
                ·simp only [Act.put, zC, zD, zE, i64_w]
                 rfl
                refine pure_ (i := 4) (N := some 6) (v := ?_) (a' := ?_) #[true, false, false, false, true, false, false] rfl rfl (by kernel_rfl) (fun _ _ _ h => h) (Or.inl ⟨by rfl, ?_⟩) ?_ ?_; rotate_left
                ·intro w'
                 go_simp
                 with_reducible rfl
                rotate_left
                ·simp only [Act.put, zC, zD, zE, i64_w]
                 rfl
                refine pure_ (i := 5) (N := some 7) (v := ?_) (a' := ?_) #[true, false, false, false, true, true, false] rfl rfl (by kernel_rfl) (fun _ _ _ h => h) (Or.inl ⟨by rfl, ?_⟩) ?_ ?_; rotate_left
                ·intro w'
                 go_simp
                 with_reducible rfl
                rotate_left
                ·simp only [Act.put, zC, zD, zE, i64_w]
                 rfl
                refine take_ (i := 1) (N := some 79) (v := ?_) (a' := ?_) #[true, true, false, false, true, true, false] rfl rfl (by kernel_rfl) (fun _ _ _ h => h) (Or.inl ⟨by rfl, ?_⟩) hHeld ?_ ?_; rotate_left
                ·rintro w' ⟨s0, s1, s2, s3⟩
                 go_simp
                 with_reducible rfl
                rotate_left
                ·simp only [Act.put, zC, zD, zE, i64_w]
                 rfl
                refine pure_ (i := 2) (N := some 80) (v := ?_) (a' := ?_) #[true, true, true, false, true, true, false] rfl rfl (by kernel_rfl) (fun _ _ _ h => h) (Or.inl ⟨by rfl, ?_⟩) ?_ ?_; rotate_left
                ·intro w'
                 go_simp
                 with_reducible rfl
                rotate_left
                ·simp only [Act.put, zC, zD, zE, i64_w]
                 rfl
                refine pure_ (i := 3) (N := some 81) (v := ?_) (a' := ?_) #[true, true, true, true, true, true, false] rfl rfl (by kernel_rfl) (fun _ _ _ h => h) (Or.inl ⟨by rfl, ?_⟩) ?_ ?_; rotate_left
                ·intro w'
                 go_simp
                 with_reducible rfl
                rotate_left
                ·simp only [Act.put, zC, zD, zE, i64_w]
                 rfl
                refine pure_ (i := 6) (N := some 8) (v := ?_) (a' := ?_) #[true, true, true, true, true, true, true] rfl rfl (by kernel_rfl) (fun _ _ _ h => h) (Or.inl ⟨by rfl, ?_⟩) ?_ ?_; rotate_left
                ·intro w'
                 go_simp
                 with_reducible rfl
                rotate_left
                ·simp only [Act.put, zC, zD, zE, i64_w]
                 rfl
                refine done_ (by kernel_rfl) ?_
                try go_wp2
                go_ret3; exact ⟨by first | rfl | (simp <;> rfl) | (simp [*] <;> rfl), by repeat (first | (with_reducible first | exact HB.out | apply zH | apply zF | apply zG | refine zI ?_ GE56.out) | exact HB.out)⟩
               ·rw [if_neg c37] at H
                have c37b0 : (x32_2 == (wrap64 ((l2.length : Int) - 1))) = false := beq_eq_false_iff_ne.mpr c37; have c37b1 : (x32_2 != (wrap64 ((l2.length : Int) - 1))) = true := bne_iff_ne.mpr c37
                by_cases c39 : t51 = true
                ·subst c39
                 have H1 : (some ((⟨#[]⟩ : ByteArray), false, false)) = some (r1, r2, r3) := by rw [if_pos rfl] at H; exact H
                 clear H; have H := H1; clear H1; simp only [Option.some.injEq, Prod.mk.injEq] at H; obtain ⟨rfl, rfl, rfl⟩ := H; go_wp2; go_ret3; exact ⟨by first | rfl | (simp <;> rfl) | (simp [*] <;> rfl), by repeat (first | (with_reducible first | exact HB.out | apply zH | apply zF | apply zG | refine zI ?_ GE56.out) | exact HB.out)⟩
                ·replace c39 := yO c39
                 subst c39; have H1 : (if (((rd_T85 l2 x32_2).f2).length : Int) = 0 then (some ((⟨#[]⟩ : ByteArray), false, false)) else (if 0 ≤ ((rd_T85 l2 x32_2).f3) then (if ((rd_T85 l2 x32_2).f3) < (((rd_T85 l2 x32_2).f2).length : Int) then (impl_CheckKey.l0 kj30 (rdOf ByteArray.empty ((rd_T85 l2 x32_2).f2) ((rd_T85 l2 x32_2).f3)) a1 l2 l2 (l2.length : Int) (wrap64 (x32_2 + 1))) else (none)) else (none))) = some (r1, r2, r3) := by rw [if_neg (show ¬ (false = true) by decide)] at H; exact H
                 clear H; have H := H1; clear H1
                 by_cases c40 : (((rd_T85 l2 x32_2).f2).length : Int) = 0
                 ·rw [if_pos c40] at H
                  have c40b0 : ((((rd_T85 l2 x32_2).f2).length : Int) == 0) = true := beq_iff_eq.mpr c40; have c40b1 : ((((rd_T85 l2 x32_2).f2).length : Int) != 0) = false := bne_eq_false_iff_eq.mpr c40; clear c40; simp only [Option.some.injEq, Prod.mk.injEq] at H; obtain ⟨rfl, rfl, rfl⟩ := H; have hcz41_0 := yL BK56.out 0 (.slice A55_0 ((rd_T85 l2 x32_2).f0).length c55_0) rfl; have hcz41_1 := yL BK56.out 1 (.slice A55_1 ((rd_T85 l2 x32_2).f1).length c55_1) rfl; have hcz41_2 := yL BK56.out 2 (.slice A55_2 ((rd_T85 l2 x32_2).f2).length c55_2) rfl; have hcz41_3 := yL BK56.out 3 (.int .i64 ((rd_T85 l2 x32_2).f3)) rfl; have hfz41_0 := zO BK56.out 0; have hfz41_1 := zO BK56.out 1; have hfz41_2 := zO BK56.out 2; have hfz41_3 := zO BK56.out 3; go_wp2; go_ret3; exact ⟨by first | rfl | (simp <;> rfl) | (simp [*] <;> rfl), by repeat (first | (with_reducible first | exact HB.out | apply zH | apply zF | apply zG | refine zI ?_ GE56.out) | exact HB.out)⟩
                 ·rw [if_neg c40] at H
                  have c40b0 : ((((rd_T85 l2 x32_2).f2).length : Int) == 0) = false := beq_eq_false_iff_ne.mpr c40; have c40b1 : ((((rd_T85 l2 x32_2).f2).length : Int) != 0) = true := bne_iff_ne.mpr c40; have c40b2 : ¬ (((rd_T85 l2 x32_2).f2) = []) := fun h_ => c40 (by rw [h_]; rfl)
                  by_cases c42 : 0 ≤ ((rd_T85 l2 x32_2).f3)
                  ·rw [if_pos c42] at H
                   have c42b0 : decide (0 ≤ ((rd_T85 l2 x32_2).f3)) = true := zX c42; clear c42
                   by_cases c43 : ((rd_T85 l2 x32_2).f3) < (((rd_T85 l2 x32_2).f2).length : Int)
                   ·rw [if_pos c43] at H
                    have c43b0 : decide (((rd_T85 l2 x32_2).f3) < (((rd_T85 l2 x32_2).f2).length : Int)) = true := zX c43; clear c43; have H' := zA H; clear H; have hcz44_0 := yL BK56.out 0 (.slice A55_0 ((rd_T85 l2 x32_2).f0).length c55_0) rfl; have hcz44_1 := yL BK56.out 1 (.slice A55_1 ((rd_T85 l2 x32_2).f1).length c55_1) rfl; have hcz44_2 := yL BK56.out 2 (.slice A55_2 ((rd_T85 l2 x32_2).f2).length c55_2) rfl; have hcz44_3 := yL BK56.out 3 (.int .i64 ((rd_T85 l2 x32_2).f3)) rfl; have hfz44_0 := zO BK56.out 0; have hfz44_1 := zO BK56.out 1; have hfz44_2 := zO BK56.out 2; have hfz44_3 := zO BK56.out 3; have p61 : 0 ≤ (((rd_T85 l2 x32_2).f3) : Int) := zW (by first | (with_reducible assumption) | assumption); have q61 : ((rd_T85 l2 x32_2).f3) < (((rd_T85 l2 x32_2).f2).length : Int) := zW (by first | (with_reducible assumption) | assumption); obtain ⟨ad61, e61, hx61_0⟩ := Kd.at_string HR55_2.out ((rd_T85 l2 x32_2).f3) p61 q61
                    cases e61
                    replace hx61_0 := (HB.out.cell (zB w _ hx61_0)).trans hx61_0; replace p61 := eq_true p61; replace q61 := eq_true q61; go_wp2; go_roundg kj30
                    case measure => have := HJ3.out; have := HK2.out; have := HJ17.out; have := HJ30.out; omega
                    case rel => exact ⟨(rdOf ByteArray.empty ((rd_T85 l2 x32_2).f2) ((rd_T85 l2 x32_2).f3)), (wrap64 (x32_2 + 1)), (by first | rfl | (simp; done) | (simp [*]; done) | (simp [bne]; done)), (by first | rfl | (simp; done) | (simp [*]; done) | (simp [bne]; done)), H', ⟨by have := HJ3.out; have := HK2.out; have := HJ17.out; have := HJ30.out; omega⟩, ⟨by repeat (first | (with_reducible first | exact HB.out | apply zH | apply zF | apply zG | refine zI ?_ GE56.out) | exact HB.out)⟩⟩
                   ·rw [if_neg c43] at H
                    exact absurd H (by simp)
                  ·rw [if_neg c42] at H
                   exact absurd H (by simp)
        ·rw [if_neg c16] at H
         exact absurd H (by simp)
       ·rw [if_neg c15] at H
        exact absurd H (by simp)
      ·rw [if_neg c14] at H
       have c14b0 : decide (x32_2 < (l2.length : Int)) = false := decide_eq_false c14; clear c14; simp only [Option.some.injEq, Prod.mk.injEq] at H; obtain ⟨rfl, rfl, rfl⟩ := H; go_wp2; go_ret3; exact ⟨by first | rfl | (simp <;> rfl) | (simp [*] <;> rfl), by (with_reducible repeat first | exact HB.out | apply zH | apply zF | apply zG) <;> exact HB.out⟩
end Go.Proofs.YtmfipefpmjcddaaGreatDoor.PA
end
