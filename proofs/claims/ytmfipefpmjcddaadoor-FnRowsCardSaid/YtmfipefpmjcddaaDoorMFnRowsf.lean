/- For the law FnRows (laid by merge.py). -/
import Derived.Test.YtmfipefpmjcddaaDoorMFnRowse
import Derived.Laws.BitsLemmas
section
namespace Go.Proofs.YtmfipefpmjcddaaDoor.PA
open Go.RowKit Go.Proofs.YtmfipefpmjcddaaDoorW.PrintWords Go.Proofs.YtmfipefpmjcddaaDoorW.PrintLast Go.Proofs.YtmfipefpmjcddaaDoorW.PrintMore
attribute [local go_sem] max2_int min2_int max_two min_two max_three min_three max_four min_four
set_option linter.unusedVariables false
set_option linter.unusedSimpArgs false
set_option maxHeartbeats 60000000
set_option maxRecDepth 100000
def spec_ReadRow.l0 : Nat → ByteArray → List (S39) → Int → Option ((List (S39)) × Bool)
 | 0, _, _, _ => none
 | k + 1, x0, x4, x5 => if x5 < (x0.size : Int) then ((spec_l4Read.f k x0 x5).bind fun bt10 => (if bt10.2.2.2 < 0 then (some (([] : List (S39)), false)) else (if x4.length < 4398046511104 then (spec_ReadRow.l0 k x0 (x4 ++ [(⟨bt10.1, bt10.2.1, bt10.2.2.1⟩ : S39)]) bt10.2.2.2) else (none)))) else (if (x4.length : Int) > 6 then (some (([] : List (S39)), false)) else (some (x4, true)))
def spec_ReadRow.f (k : Nat) (a0 : ByteArray) : Option ((List (S39)) × Bool) := if (a0.size : Int) > 600 then (some (([] : List (S39)), false)) else (spec_ReadRow.l0 k a0 ([] : List (S39)) 0)
theorem spec_ReadRow.calls (k : Nat) (a0 : ByteArray) (r1 : List (S39)) (r2 : Bool) (w : World) (h : spec_ReadRow.f k a0 = some (r1, r2)) :
  Calls Tryd.prog 15 #[.string a0] w fun e w' => ∃ v0_ : Value, e = .returned (.tuple #[v0_, .bool r2]) ∧ Kd.R k39 39 w' w.heap.size (fun _ => True) v0_ r1 ∧ Below w.heap.size w w' := by
 have hu39 := Tryd.underlying39; have HB := zA (Below.refl w.heap.size w); have H : (if (a0.size : Int) > 600 then (some (([] : List (S39)), false)) else (spec_ReadRow.l0 k a0 ([] : List (S39)) 0)) = some (r1, r2) := h; clear h
 by_cases c2 : (a0.size : Int) > 600
 ·rw [if_pos c2] at H
  have c2b0 : decide (600 < (a0.size : Int)) = true := zX c2; have c2b1 : decide (600 < a0.size) = true := zX (by omega); clear c2; simp only [Option.some.injEq, Prod.mk.injEq] at H; obtain ⟨rfl, rfl⟩ := H; go_enter Tryd.func15, Tryd.ntmps15; go_wp2; go_ret2; exact ⟨_, by first | rfl | (simp <;> rfl) | (simp [*] <;> rfl), by first | exact Kd.R_nil _ _ _ _ _ | exact Kd.N_nil _ _ _ _ _ | exact Kd.V_nil _ _ _ _ _ | exact Kd.Q_nil _ _ _ _ _ | exact Kd.S_nil _ _ _ _ _, by (with_reducible repeat first | exact HB.out | apply zH | apply zF | apply zG) <;> exact HB.out⟩
 ·rw [if_neg c2] at H
  have c2b0 : decide (600 < (a0.size : Int)) = false := decide_eq_false c2; have c2b1 : decide (600 < a0.size) = false := decide_eq_false (by omega); clear c2; have H' := zA H; clear H; go_enter Tryd.func15, Tryd.ntmps15; go_wp2; go_loopg [4, 5] k (fun kq v4 v5 w' => ∃ (x4_1 : List (S39)) (x5_1 : Int), v5 = .int .i64 x5_1 ∧ Aside0 (spec_ReadRow.l0 kq a0 x4_1 x5_1 = some (r1, r2)) ∧ Aside0 (kq ≤ k) ∧ Aside0 (Kd.R k39 39 w' w.heap.size (fun _ => True) v4 x4_1) ∧ Aside0 (Below w.heap.size w w'))
  case atStart => exact ⟨(([] : List (S39))), (0), (by first | rfl | (simp; done) | (simp [*]; done) | (simp [bne]; done)), H', ⟨Nat.le_refl _⟩, ⟨by first | exact Kd.R_nil _ _ _ _ _ | exact Kd.N_nil _ _ _ _ _ | exact Kd.V_nil _ _ _ _ _ | exact Kd.Q_nil _ _ _ _ _ | exact Kd.S_nil _ _ _ _ _⟩, ⟨by (with_reducible repeat first | exact HB.out | apply zH | apply zF | apply zG) <;> exact HB.out⟩⟩
  case round =>
   clear H'
   try clear c1
   try clear c2
   try clear c2b0
   try clear c2b1
   try clear p2
   obtain ⟨x4_1, x5_1, rfl, HA, HK1, HO_4, HB⟩ := hrel
   cases gk with
   | zero => exact absurd HA.out (by simp [spec_ReadRow.l0])
   | succ k1 =>
    have H := HA.out; clear HA; simp only [spec_ReadRow.l0] at H
    by_cases c3 : x5_1 < (a0.size : Int)
    ·rw [if_pos c3] at H
     have c3b0 : decide (x5_1 < (a0.size : Int)) = true := zX c3; clear c3; replace H := zAF H; obtain ⟨⟨t17, t18, t19, t20⟩, A40, H⟩ := H; replace H : (if t20 < 0 then (some (([] : List (S39)), false)) else (if x4_1.length < 4398046511104 then (spec_ReadRow.l0 k1 a0 (x4_1 ++ [(⟨t17, t18, t19⟩ : S39)]) t20) else (none))) = some (r1, r2) := H; have A4 := zA A40; clear A40
     by_cases c5 : t20 < 0
     ·rw [if_pos c5] at H
      have c5b0 : decide (t20 < 0) = true := zX c5; clear c5; simp only [Option.some.injEq, Prod.mk.injEq] at H; obtain ⟨rfl, rfl⟩ := H; go_wp2_with (first | ((with_reducible refine yB (f := 32) rfl ?_); refine goesL_ (some 18) rfl rfl Tryd.func32 (by kernel_rfl) rfl #[.string a0, .int .i64 x5_1] rfl (by (try simp only [zAA, zAB, zAC]); first | done | rfl) ?_; (with_reducible refine (spec_l4Read.calls k1 a0 x5_1 t17 t18 t19 t20 _ A4.out).mono ?_); rintro e w6 ⟨rfl, hb⟩; refine ⟨_, rfl, ?_⟩; have n0_ := zA (Kd.R_below (by (with_reducible repeat first | apply zQ | apply zR | apply zS); exact HO_4.out) hb); have n1_ := zA (zAD (by (with_reducible repeat first | exact HB.out | apply zH | apply zF | apply zG) <;> exact HB.out) hb); clear HO_4; clear HB; have HO_4 := n0_; have HB := n1_; clear n0_ n1_; (try clear hb)) | ((with_reducible refine gate_dst (N := 6) rfl ?_); refine box_event ?hg (N := 6) ?hd (cs := #[.int .i64 0, .int .i64 0, .string (⟨#[]⟩ : ByteArray)]) (t := 39) ?hr ?_; (case hd => rfl); (case hg => rfl); (case hr => first | (go_simp; done) | (go_simp; rfl)); intro gb21 hg w7 hbox hb; have n0_ := zA (Kd.R_below (Kd.R_elderB (by (with_reducible repeat first | apply zQ | apply zR | apply zS); exact HO_4.out) gb21 (Nat.le_of_eq hg.symm)) hb); have n1_ := zA (zAD (by (with_reducible repeat first | exact HB.out | apply zH | apply zF | apply zG) <;> exact HB.out) hb); have n2_ := zA (hbox); have n3_ := zA ((by rw [hg]; exact (zAE (by (with_reducible repeat first | exact HB.out | apply zH | apply zF | apply zG) <;> exact HB.out)) : w.heap.size ≤ gb21)); have n4_ := zA ((by rw [hg]; exact (zAE (by (with_reducible repeat first | exact HB.out | apply zH | apply zF | apply zG) <;> exact HB.out)) : w.heap.size ≤ gb21)); clear HO_4; clear HB; have HO_4 := n0_; have HB := n1_; have BK21 := n2_; have GW21 := n3_; have GE21 := n4_; clear n0_ n1_ n2_ n3_ n4_; clear hb hbox hg; have hcz8_0 : w7.cell? ⟨gb21, 0, none⟩ = some (.int .i64 0) := (zP BK21.out 0).trans rfl; have hcz8_1 : w7.cell? ⟨gb21, 1, none⟩ = some (.int .i64 0) := (zP BK21.out 1).trans rfl; have hcz8_2 : w7.cell? ⟨gb21, 2, none⟩ = some (.string (⟨#[]⟩ : ByteArray)) := (zP BK21.out 2).trans rfl; have hfz8_0 := zO BK21.out 0; have hfz8_1 := zO BK21.out 1; have hfz8_2 := zO BK21.out 2)); go_ret2; exact ⟨_, by first | rfl | (simp <;> rfl) | (simp [*] <;> rfl), by first | exact Kd.R_nil _ _ _ _ _ | exact Kd.N_nil _ _ _ _ _ | exact Kd.V_nil _ _ _ _ _ | exact Kd.Q_nil _ _ _ _ _ | exact Kd.S_nil _ _ _ _ _, by repeat (first | (with_reducible first | exact HB.out | apply zH | apply zF | apply zG | refine zI ?_ GE21.out) | exact HB.out)⟩
     ·rw [if_neg c5] at H
      have c5b0 : decide (t20 < 0) = false := decide_eq_false c5; clear c5
      by_cases c9 : x4_1.length < 4398046511104
      ·rw [if_pos c9] at H
       have LMc9 := zA c9; clear c9; obtain ⟨y22, hy22⟩ : ∃ y_ : List (S39), y_ = (x4_1 ++ [(⟨t17, t18, t19⟩ : S39)]) := ⟨_, rfl⟩; replace H : (spec_ReadRow.l0 k1 a0 y22 t20) = some (r1, r2) := by first | (rw [hy22]; with_reducible exact H) | (have H2_ := (Option.bind_some _ _).symm.trans H; rw [hy22]; with_reducible exact H2_) | (have H2_ := (Option.bind_some _ _).symm.trans H; with_reducible exact H2_) | with_reducible exact H | (rw [hy22]; exact H) | exact H
       have Ny22 := zA hy22; clear hy22; have H' := zA H; clear H; go_wp2_with (first | ((with_reducible refine yB (f := 32) rfl ?_); refine goesL_ (some 18) rfl rfl Tryd.func32 (by kernel_rfl) rfl #[.string a0, .int .i64 x5_1] rfl (by (try simp only [zAA, zAB, zAC]); first | done | rfl) ?_; (with_reducible refine (spec_l4Read.calls k1 a0 x5_1 t17 t18 t19 t20 _ A4.out).mono ?_); rintro e w10 ⟨rfl, hb⟩; refine ⟨_, rfl, ?_⟩; have n0_ := zA (Kd.R_below (by (with_reducible repeat first | apply zQ | apply zR | apply zS); exact HO_4.out) hb); have n1_ := zA (zAD (by (with_reducible repeat first | exact HB.out | apply zH | apply zF | apply zG) <;> exact HB.out) hb); clear HO_4; clear HB; have HO_4 := n0_; have HB := n1_; clear n0_ n1_; (try clear hb)) | ((with_reducible refine gate_dst (N := 6) rfl ?_); refine box_event ?hg (N := 6) ?hd (cs := #[.int .i64 0, .int .i64 0, .string (⟨#[]⟩ : ByteArray)]) (t := 39) ?hr ?_; (case hd => rfl); (case hg => rfl); (case hr => first | (go_simp; done) | (go_simp; rfl)); intro gb21 hg w11 hbox hb; have n0_ := zA (Kd.R_below (Kd.R_elderB (by (with_reducible repeat first | apply zQ | apply zR | apply zS); exact HO_4.out) gb21 (Nat.le_of_eq hg.symm)) hb); have n1_ := zA (zAD (by (with_reducible repeat first | exact HB.out | apply zH | apply zF | apply zG) <;> exact HB.out) hb); have n2_ := zA (hbox); have n3_ := zA ((by rw [hg]; exact (zAE (by (with_reducible repeat first | exact HB.out | apply zH | apply zF | apply zG) <;> exact HB.out)) : w.heap.size ≤ gb21)); have n4_ := zA ((by rw [hg]; exact (zAE (by (with_reducible repeat first | exact HB.out | apply zH | apply zF | apply zG) <;> exact HB.out)) : w.heap.size ≤ gb21)); clear HO_4; clear HB; have HO_4 := n0_; have HB := n1_; have BK21 := n2_; have GW21 := n3_; have GE21 := n4_; clear n0_ n1_ n2_ n3_ n4_; clear hb hbox hg; have hcz12_0 : w11.cell? ⟨gb21, 0, none⟩ = some (.int .i64 0) := (zP BK21.out 0).trans rfl; have hcz12_1 : w11.cell? ⟨gb21, 1, none⟩ = some (.int .i64 0) := (zP BK21.out 1).trans rfl; have hcz12_2 : w11.cell? ⟨gb21, 2, none⟩ = some (.string (⟨#[]⟩ : ByteArray)) := (zP BK21.out 2).trans rfl; have hfz12_0 := zO BK21.out 0; have hfz12_1 := zO BK21.out 1; have hfz12_2 := zO BK21.out 2) | ((with_reducible refine gate_builtin (b := .append) (xs := #[.tmp 23, .tmp 25]) rfl ?_); at_builtin; refine Kd.R_append k39 (w0 := w) w.heap.size rfl (.tmp 23) (.tmp 25) 23 39 (.agg #[(.int .i64 0), (.int .i64 0), (.string ⟨#[]⟩)]) 32 rfl Tryd.underlying23 info39 rfl (by decide) (by omega) u4 x4_1 (⟨t17, t18, t19⟩ : S39) [.int .i64 t17, .int .i64 t18, .string t19] (fun k_ => k_ ≠ gb21) (fun _ => False) rfl (by first | (go_simp; done) | (go_simp; rfl)) ?aP (fun _ hk => hk.elim) ?aF ?aO ?aB ?aS ?aL ?_; (case aP => exact k39_mkM _ _ _ (⟨t17, t18, t19⟩ : S39)); (case aB => exact (by repeat (first | (with_reducible first | exact HB.out | apply zH | apply zF | apply zG | refine zI ?_ GE21.out) | exact HB.out))); (case aF => exact (fun k_ hk => Kd.freshB (g := gb21) (o := .cells #[.int .i64 t17, .int .i64 t18, .string t19] 39 (0, 0)) (by (with_reducible repeat (first | refine zL ?_ _ | refine zN ?_ | refine zM ?_ _)); refine blk_put (cs := #[.int .i64 t17, .int .i64 t18, .string (⟨#[]⟩ : ByteArray)]) ?_ 2 _ rfl; (with_reducible repeat (first | refine zL ?_ _ | refine zN ?_ | refine zM ?_ _)); refine blk_put (cs := #[.int .i64 t17, .int .i64 0, .string (⟨#[]⟩ : ByteArray)]) ?_ 1 _ rfl; (with_reducible repeat (first | refine zL ?_ _ | refine zN ?_ | refine zM ?_ _)); refine blk_put (cs := #[.int .i64 0, .int .i64 0, .string (⟨#[]⟩ : ByteArray)]) ?_ 0 _ rfl; (with_reducible repeat (first | refine zL ?_ _ | refine zN ?_ | refine zM ?_ _)); exact BK21.out) k_ hk)); (case aO => exact (by (with_reducible repeat first | apply zQ | apply zR | apply zS); exact yC (Kd.R_far (p := ⟨gb21, 2, none⟩) (Kd.R_far (p := ⟨gb21, 1, none⟩) (Kd.R_far (p := ⟨gb21, 0, none⟩) (yC HO_4.out (fun k_ hk => (⟨hk, hk.2⟩ : _ ∧ k_ ≠ gb21))) (fun _ hk => hk.2) (.int .i64 t17)) (fun _ hk => hk.2) (.int .i64 t18)) (fun _ hk => hk.2) (.string t19)) (fun _ hk => hk.1.2))); (case aS => exact (zAE (by repeat (first | (with_reducible first | exact HB.out | apply zH | apply zF | apply zG | refine zI ?_ GE21.out) | exact HB.out)))); (case aL => have := LMc9.out; omega); intro v23 w13 ho hb hg hat; rw [← Ny22.out] at ho; have n0_ := zA (blk_grown (g := gb21) (o := .cells #[.int .i64 t17, .int .i64 t18, .string t19] 39 (0, 0)) (by (with_reducible repeat (first | refine zL ?_ _ | refine zN ?_ | refine zM ?_ _)); refine blk_put (cs := #[.int .i64 t17, .int .i64 t18, .string (⟨#[]⟩ : ByteArray)]) ?_ 2 _ rfl; (with_reducible repeat (first | refine zL ?_ _ | refine zN ?_ | refine zM ?_ _)); refine blk_put (cs := #[.int .i64 t17, .int .i64 0, .string (⟨#[]⟩ : ByteArray)]) ?_ 1 _ rfl; (with_reducible repeat (first | refine zL ?_ _ | refine zN ?_ | refine zM ?_ _)); refine blk_put (cs := #[.int .i64 0, .int .i64 0, .string (⟨#[]⟩ : ByteArray)]) ?_ 0 _ rfl; (with_reducible repeat (first | refine zL ?_ _ | refine zN ?_ | refine zM ?_ _)); exact BK21.out) hg (Kd.R_away HO_4.out (fun _ hk => hk.2))); have n1_ := zA (hb); have n2_ := zA (ho); clear BK21; clear HB; clear HO_4; have BK21 := n0_; have HB := n1_; have HO24 := n2_; clear n0_ n1_ n2_; clear ho hb hg hat))
       go_roundg k1
       case measure => have := HK1.out; omega
       case rel => exact ⟨(y22), (t20), (by first | rfl | (simp; done) | (simp [*]; done) | (simp [bne]; done)), H', ⟨by have := HK1.out; omega⟩, ⟨by (with_reducible repeat first | apply zQ | apply zR | apply zS); exact yC HO24.out (fun _ hk => trivial)⟩, ⟨by repeat (first | (with_reducible first | exact HB.out | apply zH | apply zF | apply zG | refine zI ?_ GE21.out) | exact HB.out)⟩⟩
      ·rw [if_neg c9] at H
       exact absurd H (by simp)
    ·rw [if_neg c3] at H
     have c3b0 : decide (x5_1 < (a0.size : Int)) = false := decide_eq_false c3; clear c3
     by_cases c14 : (x4_1.length : Int) > 6
     ·rw [if_pos c14] at H
      have c14b0 : decide (6 < (x4_1.length : Int)) = true := zX c14; have c14b1 : decide (6 < x4_1.length) = true := zX (by omega); clear c14; simp only [Option.some.injEq, Prod.mk.injEq] at H; obtain ⟨rfl, rfl⟩ := H; obtain ⟨Ao15, co15, eo15⟩ := Kd.R_slice HO_4.out; subst eo15; go_wp2; go_ret2; exact ⟨_, by first | rfl | (simp <;> rfl) | (simp [*] <;> rfl), by first | exact Kd.R_nil _ _ _ _ _ | exact Kd.N_nil _ _ _ _ _ | exact Kd.V_nil _ _ _ _ _ | exact Kd.Q_nil _ _ _ _ _ | exact Kd.S_nil _ _ _ _ _, by (with_reducible repeat first | exact HB.out | apply zH | apply zF | apply zG) <;> exact HB.out⟩
     ·rw [if_neg c14] at H
      have c14b0 : decide (6 < (x4_1.length : Int)) = false := decide_eq_false c14; have c14b1 : decide (6 < x4_1.length) = false := decide_eq_false (by omega); clear c14; simp only [Option.some.injEq, Prod.mk.injEq] at H; obtain ⟨rfl, rfl⟩ := H; obtain ⟨Ao16, co16, eo16⟩ := Kd.R_slice HO_4.out; subst eo16; go_wp2; go_ret2; exact ⟨_, by first | rfl | (simp <;> rfl) | (simp [*] <;> rfl), by (with_reducible repeat first | apply zQ | apply zR | apply zS); exact HO_4.out, by (with_reducible repeat first | exact HB.out | apply zH | apply zF | apply zG) <;> exact HB.out⟩
def spec_DrawRowBytes.f (k : Nat) (l0 : List Int) : Option ((List (S39))) := (spec_l1Cur_row.f k l0 0 0).bind fun bt10 => (some bt10.1)
theorem spec_DrawRowBytes.calls (k : Nat) (A0 : Option Addr) (c0 : Nat) (l0 : List Int) (r : List (S39)) (w : World) (hr0 : Kd.C (Kd.int .u8) w A0 l0.length l0) (hc0 : l0.length ≤ c0) (h : spec_DrawRowBytes.f k l0 = some r) :
  Calls Tryd.prog 16 #[.slice A0 l0.length c0] w fun e w' => ∃ v0_ : Value, e = .returned (v0_) ∧ Kd.R k39 39 w' w.heap.size (fun _ => True) v0_ r ∧ Below w.heap.size w w' := by
 have hu46 := Tryd.underlying46; have HR0 := zA hr0; have HC0 := zA hc0; clear hr0 hc0; have HB := zA (Below.refl w.heap.size w); have H : ((spec_l1Cur_row.f k l0 0 0).bind fun bt10 => (some bt10.1)) = some r := h; clear h; replace H := zAF H; obtain ⟨⟨t10, t11, t12⟩, A20, H⟩ := H; replace H : (some t10) = some r := H; have A2 := zA A20; clear A20; obtain rfl := Option.some.inj H; go_enter Tryd.func16, Tryd.ntmps16; go_wp2_with (first | ((with_reducible refine gate_dst (N := 6) rfl ?_); refine box_event ?hg (N := 6) ?hd (cs := #[.slice A0 l0.length c0, .int .i64 0, .int .u64 0]) (t := 46) ?hr ?_; (case hd => rfl); (case hg => rfl); (case hr => first | (go_simp; done) | (go_simp; rfl)); intro gb13 hg w3 hbox hb; have n0_ := zA (zAD (by (with_reducible repeat first | exact HB.out | apply zH | apply zF | apply zG) <;> exact HB.out) hb); have n1_ := zA ((show I46 w w3 gb13 l0 0 0 from ⟨A0, c0, hbox, (by rw [hg]; exact (zAE (by (with_reducible repeat first | exact HB.out | apply zH | apply zF | apply zG) <;> exact HB.out)) : w.heap.size ≤ gb13), HR0.out⟩)); clear HB; have HB := n0_; have HI13 := n1_; clear n0_ n1_; clear hb hbox hg) | ((with_reducible refine yB (f := 19) rfl ?_); refine goesL_ (some 8) rfl rfl Tryd.func19 (by kernel_rfl) rfl #[.pointer (some ⟨gb13, 0, none⟩)] rfl (by (try simp only [zAA, zAB, zAC]); first | done | rfl) ?_; (with_reducible refine (spec_l1Cur_row.calls k gb13 l0 0 0 t10 t11 t12 w _ ?side1 ?side2 A2.out).mono ?_); (case side1 => repeat (first | (with_reducible first | exact HI13.out | apply I46.a | apply I46.n | apply I46.d | apply I46.s1 | apply I46.s2) | exact HI13.out)); (case side2 => repeat (first | (with_reducible first | exact HB.out | apply zH | apply zF | apply zG | refine zI ?_ (I46.ge HI13.out)) | exact HB.out)); rintro e w4 ⟨v14, rfl, ho0, hi, hb, hk⟩; refine ⟨_, rfl, ?_⟩; have n0_ := zA (Kd.R_lower ho0 (zAE (by repeat (first | (with_reducible first | exact HB.out | apply zH | apply zF | apply zG | refine zI ?_ (I46.ge HI13.out)) | exact HB.out)))); have n1_ := zA (hb); have n2_ := zA (hi); clear HB; clear HI13; have HO15 := n0_; have HB := n1_; have HI13 := n2_; clear n0_ n1_ n2_; (try clear hb); (try clear hk); (try clear hi); (try clear ho0))); go_ret; exact ⟨_, by first | rfl | (simp <;> rfl) | (simp [*] <;> rfl), by (with_reducible repeat first | apply zQ | apply zR | apply zS); exact HO15.out, by repeat (first | (with_reducible first | exact HB.out | apply zH | apply zF | apply zG | refine zI ?_ (I46.ge HI13.out)) | exact HB.out)⟩
def spec_AfterBeginning.f (k : Nat) (l0 : List (S39)) : Option (ByteArray × ByteArray × Bool) := (spec_l4Row.f k l0).bind fun t10 => (if t10 = true then ((spec_l4RowBytes.f k l0).bind fun t11 => (if t11.size + 1 ≤ 9223372036854775807 then (some (t11, t11 ++ (⟨#[255]⟩ : ByteArray), true)) else (none))) else (some ((⟨#[]⟩ : ByteArray), (⟨#[]⟩ : ByteArray), false)))
theorem spec_AfterBeginning.calls (k : Nat) (A0 : Option Addr) (c0 : Nat) (l0 : List (S39)) (r1 : ByteArray) (r2 : ByteArray) (r3 : Bool) (w : World) (hr0 : Kd.C k39 w A0 l0.length l0) (hc0 : l0.length ≤ c0) (h : spec_AfterBeginning.f k l0 = some (r1, r2, r3)) :
  Calls Tryd.prog 18 #[.slice A0 l0.length c0] w fun e w' => e = .returned (.tuple #[.string r1, .string r2, .bool r3]) ∧ Below w.heap.size w w' := by
 have HR0 := zA hr0; have HC0 := zA hc0; clear hr0 hc0; have HB := zA (Below.refl w.heap.size w); have H : ((spec_l4Row.f k l0).bind fun t10 => (if t10 = true then ((spec_l4RowBytes.f k l0).bind fun t11 => (if t11.size + 1 ≤ 9223372036854775807 then (some (t11, t11 ++ (⟨#[255]⟩ : ByteArray), true)) else (none))) else (some ((⟨#[]⟩ : ByteArray), (⟨#[]⟩ : ByteArray), false)))) = some (r1, r2, r3) := h; clear h; replace H := zAF H; obtain ⟨t10, A20, H⟩ := H; replace H : (if t10 = true then ((spec_l4RowBytes.f k l0).bind fun t11 => (if t11.size + 1 ≤ 9223372036854775807 then (some (t11, t11 ++ (⟨#[255]⟩ : ByteArray), true)) else (none))) else (some ((⟨#[]⟩ : ByteArray), (⟨#[]⟩ : ByteArray), false))) = some (r1, r2, r3) := H; have A2 := zA A20; clear A20
 by_cases c3 : t10 = true
 ·subst c3
  have H1 : ((spec_l4RowBytes.f k l0).bind fun t11 => (if t11.size + 1 ≤ 9223372036854775807 then (some (t11, t11 ++ (⟨#[255]⟩ : ByteArray), true)) else (none))) = some (r1, r2, r3) := by rw [if_pos rfl] at H; exact H
  clear H; have H := H1; clear H1; replace H := zAF H; obtain ⟨t11, A40, H⟩ := H; replace H : (if t11.size + 1 ≤ 9223372036854775807 then (some (t11, t11 ++ (⟨#[255]⟩ : ByteArray), true)) else (none)) = some (r1, r2, r3) := H; have A4 := zA A40; clear A40
  by_cases c5 : t11.size + 1 ≤ 9223372036854775807
  ·rw [if_pos c5] at H
   have c5b0 := eq_true c5; have c5b1 : decide (t11.size + 1 ≤ 9223372036854775807) = true := zX c5
   try have c5b2 : (9223372036854775807 < t11.size + 1) = False := eq_false (Nat.not_lt.2 c5)
   simp only [Option.some.injEq, Prod.mk.injEq] at H; obtain ⟨rfl, rfl, rfl⟩ := H; go_enter Tryd.func18, Tryd.ntmps18; go_wp2_with (first | ((with_reducible refine yB (f := 25) rfl ?_); refine goesL_ (some 7) rfl rfl Tryd.func25 (by kernel_rfl) rfl #[.slice A0 l0.length c0] rfl (by (try simp only [zAA, zAB, zAC]); first | done | rfl | (simp only [zZ, zY]; rfl)) ?_; (with_reducible refine (spec_l4Row.calls k _ _ l0 true _ ?side1 ?side2 A2.out).mono ?_); (case side1 => repeat (first | exact HR0.out | (with_reducible refine zT ?_ _) | (with_reducible refine zU ?_ _) | (with_reducible refine zV ?_))); (case side2 => exact HC0.out); rintro e w6 ⟨rfl, hb⟩; refine ⟨_, rfl, ?_⟩; have n0_ := zA (zAD (by (with_reducible repeat first | exact HB.out | apply zH | apply zF | apply zG) <;> exact HB.out) hb); clear HB; have HB := n0_; clear n0_; (try clear hb)) | ((with_reducible refine yB (f := 33) rfl ?_); refine goesL_ (some 10) rfl rfl Tryd.func33 (by kernel_rfl) rfl #[.slice A0 l0.length c0] rfl (by (try simp only [zAA, zAB, zAC]); first | done | rfl | (simp only [zZ, zY]; rfl)) ?_; (with_reducible refine (spec_l4RowBytes.calls k _ _ l0 t11 _ ?side1 ?side2 A4.out).mono ?_); (case side1 => repeat (first | exact (Kd.C_below HR0.out HB.out) | (with_reducible refine zT ?_ _) | (with_reducible refine zU ?_ _) | (with_reducible refine zV ?_))); (case side2 => exact HC0.out); rintro e w7 ⟨rfl, hb⟩; refine ⟨_, rfl, ?_⟩; have n0_ := zA (zAD (by (with_reducible repeat first | exact HB.out | apply zH | apply zF | apply zG) <;> exact HB.out) hb); clear HB; have HB := n0_; clear n0_; (try clear hb))); go_ret3; exact ⟨by first | rfl | (simp <;> rfl) | (simp [*] <;> rfl), by (with_reducible repeat first | exact HB.out | apply zH | apply zF | apply zG) <;> exact HB.out⟩
  ·rw [if_neg c5] at H
   exact absurd H (by simp)
 ·replace c3 := Bool.eq_false_iff.mpr c3
  subst c3; have H1 : (some ((⟨#[]⟩ : ByteArray), (⟨#[]⟩ : ByteArray), false)) = some (r1, r2, r3) := by rw [if_neg (show ¬ (false = true) by decide)] at H; exact H
  clear H; have H := H1; clear H1; simp only [Option.some.injEq, Prod.mk.injEq] at H; obtain ⟨rfl, rfl, rfl⟩ := H; go_enter Tryd.func18, Tryd.ntmps18; go_wp2_with (first | ((with_reducible refine yB (f := 25) rfl ?_); refine goesL_ (some 7) rfl rfl Tryd.func25 (by kernel_rfl) rfl #[.slice A0 l0.length c0] rfl (by (try simp only [zAA, zAB, zAC]); first | done | rfl | (simp only [zZ, zY]; rfl)) ?_; (with_reducible refine (spec_l4Row.calls k _ _ l0 false _ ?side1 ?side2 A2.out).mono ?_); (case side1 => repeat (first | exact HR0.out | (with_reducible refine zT ?_ _) | (with_reducible refine zU ?_ _) | (with_reducible refine zV ?_))); (case side2 => exact HC0.out); rintro e w8 ⟨rfl, hb⟩; refine ⟨_, rfl, ?_⟩; have n0_ := zA (zAD (by (with_reducible repeat first | exact HB.out | apply zH | apply zF | apply zG) <;> exact HB.out) hb); clear HB; have HB := n0_; clear n0_; (try clear hb))); go_ret3; exact ⟨by first | rfl | (simp <;> rfl) | (simp [*] <;> rfl), by (with_reducible repeat first | exact HB.out | apply zH | apply zF | apply zG) <;> exact HB.out⟩
mutual
def laws_FnRows.j0 : Nat → List Int → List (S39) → List (S39) → Int → Bool → Bool → Option (Bool)
 | 0, _, _, _, _, _, _ => none
 | k + 1, x1, x5, x6, x7, x8, x73 => if x73 = true then (some false) else (if x8 = true then ((impl_RowBytes.f k x5).bind fun bt10 => ((impl_RowBytes.f k x6).bind fun bt11 => ((impl_ReadRow.f k bt10.1).bind fun bt12 => (if bt10.2 = true then (if bt11.2 = true then ((laws_sameWay.f bt10.1 bt11.1).bind fun t14 => (if t14 = x7 then (if bt12.2 = true then ((laws_sameValues.f k bt12.1 x5).bind fun t15 => (laws_FnRows.j1 k x1 x5 x6 bt11.1 (!t15))) else (laws_FnRows.j1 k x1 x5 x6 bt11.1 true)) else (laws_FnRows.j1 k x1 x5 x6 bt11.1 true))) else (laws_FnRows.j1 k x1 x5 x6 bt11.1 true)) else (laws_FnRows.j1 k x1 x5 x6 bt11.1 true))))) else (laws_FnRows.j4 k x1))
def laws_FnRows.j4 : Nat → List Int → Option (Bool)
 | 0, _ => none
 | k + 1, x1 => (spec_DrawReadRow.f k x1).bind fun t16 => ((impl_ReadRow.f k t16).bind fun bt23 => ((spec_ReadRow.f k t16).bind fun bt24 => ((spec_DrawRowBytes.f k x1).bind fun t28 => ((impl_RowBytes.f k t28).bind fun bt29 => ((spec_RowBytes.f k t28).bind fun bt30 => ((impl_AfterBeginning.f k t28).bind fun bt31 => ((spec_AfterBeginning.f k t28).bind fun bt32 => (if (bt23.2 != bt24.2) = true then (laws_FnRows.j5 k t16 bt23.1 bt23.2 true) else ((laws_sameValues.f k bt23.1 bt24.1).bind fun t33 => (if t33 = true then (if (bt29.2 != bt30.2) = true then (laws_FnRows.j5 k t16 bt23.1 bt23.2 true) else (if bt29.1.toList = bt30.1.toList then (if (bt31.2.2 != bt32.2.2) = true then (laws_FnRows.j5 k t16 bt23.1 bt23.2 true) else (if bt31.1.toList = bt32.1.toList then (laws_FnRows.j5 k t16 bt23.1 bt23.2 (bt31.2.1.toList != bt32.2.1.toList)) else (laws_FnRows.j5 k t16 bt23.1 bt23.2 true))) else (laws_FnRows.j5 k t16 bt23.1 bt23.2 true))) else (laws_FnRows.j5 k t16 bt23.1 bt23.2 true)))))))))))
def laws_FnRows.j5 : Nat → ByteArray → List (S39) → Bool → Bool → Option (Bool)
 | 0, _, _, _, _ => none
 | k + 1, x25, x26, x27, x34 => if x34 = true then (some false) else (if x27 = true then ((impl_RowBytes.f k x26).bind fun bt35 => (if bt35.2 = true then (some (bt35.1.toList == x25.toList)) else (some false))) else (some true))
def laws_FnRows.j1 : Nat → List Int → List (S39) → List (S39) → ByteArray → Bool → Option (Bool)
 | 0, _, _, _, _, _ => none
 | k + 1, x1, x5, x6, x13, x36 => if x36 = true then (some false) else ((laws_numberOf.f k x1).bind fun t37 => (if (wrap64 ((x5.length : Int) + 1)) = 0 then (none) else (if 0 ≤ (Int.tmod t37 (wrap64 ((x5.length : Int) + 1))) then (if (Int.tmod t37 (wrap64 ((x5.length : Int) + 1))) ≤ (x5.length : Int) then ((impl_AfterBeginning.f k (x5.take ((Int.tmod t37 (wrap64 ((x5.length : Int) + 1))) : Int).toNat)).bind fun bt38 => (laws_FnRows.l0 k x1 x5 x6 x13 (Int.tmod t37 (wrap64 ((x5.length : Int) + 1))) bt38.1 bt38.2.1 bt38.2.2 (decide ((x6.length : Int) ≥ (Int.tmod t37 (wrap64 ((x5.length : Int) + 1))))) 0)) else (none)) else (none))))
def laws_FnRows.l0 : Nat → List Int → List (S39) → List (S39) → ByteArray → Int → ByteArray → ByteArray → Bool → Bool → Int → Option (Bool)
 | 0, _, _, _, _, _, _, _, _, _, _ => none
 | k + 1, x1, x5, x6, x13, x17, x18, x19, x20, x21, x22 => if x21 = true then (laws_FnRows.j3 k x1 x5 x6 x13 x17 x18 x19 x20 x21 x22 (decide (x22 < x17))) else (laws_FnRows.j3 k x1 x5 x6 x13 x17 x18 x19 x20 x21 x22 false)
def laws_FnRows.j3 : Nat → List Int → List (S39) → List (S39) → ByteArray → Int → ByteArray → ByteArray → Bool → Bool → Int → Bool → Option (Bool)
 | 0, _, _, _, _, _, _, _, _, _, _, _ => none
 | k + 1, x1, x5, x6, x13, x17, x18, x19, x20, x21, x22, x39 => if x39 = true then (if 0 ≤ x22 then (if x22 < (x5.length : Int) then (if x22 < (x6.length : Int) then ((impl_CompareValues.f k ((rd_T39 x5 x22).f0) ((rd_T39 x5 x22).f1) ((rd_T39 x5 x22).f2) ((rd_T39 x6 x22).f0) ((rd_T39 x6 x22).f1) ((rd_T39 x6 x22).f2)).bind fun bt40 => (if bt40.2 = true then (laws_FnRows.l0 k x1 x5 x6 x13 x17 x18 x19 x20 (bt40.1 == 0) (wrap64 (x22 + 1))) else (some false))) else (none)) else (none)) else (none)) else (if x20 = true then (if ((Op.bytesLess x13.toList x18.toList) = true) then (if (false != x21) = true then (some false) else (laws_FnRows.j4 k x1)) else (if ((Op.bytesLess x13.toList x19.toList) != x21) = true then (some false) else (laws_FnRows.j4 k x1))) else (some false))
end
def laws_FnRows.f (k : Nat) (l0 : List Int) (l1 : List Int) : Option (Bool) := if (wrap64 ((l0.length : Int) + (l1.length : Int))) > 1048576 then (some true) else ((spec_DrawCompareRows.f k l0).bind fun bt10 => ((impl_CompareRows.f k bt10.1 bt10.2).bind fun bt11 => ((spec_CompareRows.f k bt10.1 bt10.2).bind fun bt12 => (if (bt11.2 != bt12.2) = true then (laws_FnRows.j0 k l1 bt10.1 bt10.2 bt11.1 bt11.2 true) else (laws_FnRows.j0 k l1 bt10.1 bt10.2 bt11.1 bt11.2 (bt11.1 != bt12.1))))))
def laws_FnRows.T20 : Bool × List (List Nat × List Nat) := (true, [([], []), ([], []), ([0, 1], [0, 1]), ([2], [2]), ([], []), ([], []), ([4, 5], [4, 5]), ([6], [6]), ([3, 7], [3, 7]), ([8], [8]), ([9], [9]), ([9], [9]), ([10, 8, 0, 1, 2, 3, 4, 5, 6, 7, 8, 9, 10], [10]), ([11, 12, 0, 1, 2, 3, 4, 5, 6, 7, 8, 9, 10, 11, 12], [11])])
def laws_FnRows.B20 : List Nat := [0, 0, 3, 7, 0, 0, 48, 112, 255, 511, 1023, 1023, 2047, 8191]
theorem laws_FnRows.tab20 : rtab .any (opsOf Tryd.f3 20) = laws_FnRows.T20 := by kernel_rfl
theorem laws_FnRows.bits20 : waitsOk laws_FnRows.T20.2 laws_FnRows.B20 = true := by kernel_rfl
theorem laws_FnRows.calls (k : Nat) (A0 : Option Addr) (c0 : Nat) (l0 : List Int) (A1 : Option Addr) (c1 : Nat) (l1 : List Int) (r : Bool) (w : World) (hr0 : Kd.C (Kd.int .u8) w A0 l0.length l0) (hc0 : l0.length ≤ c0) (hr1 : Kd.C (Kd.int .u8) w A1 l1.length l1) (hc1 : l1.length ≤ c1) (h : laws_FnRows.f k l0 l1 = some r) (hr_ : Aside0 (r = true)) :
  Calls Tryd.prog 3 #[.slice A0 l0.length c0, .slice A1 l1.length c1] w fun e w' => e = .returned (.bool r) ∧ Below w.heap.size w w' := by
 have hu39 := Tryd.underlying39; have HR0 := zA hr0; have HC0 := zA hc0; clear hr0 hc0; have HR1 := zA hr1; have HC1 := zA hc1; clear hr1 hc1; have HB := zA (Below.refl w.heap.size w); have H : (if (wrap64 ((l0.length : Int) + (l1.length : Int))) > 1048576 then (some true) else ((spec_DrawCompareRows.f k l0).bind fun bt87 => ((impl_CompareRows.f k bt87.1 bt87.2).bind fun bt88 => ((spec_CompareRows.f k bt87.1 bt87.2).bind fun bt89 => (if (bt88.2 != bt89.2) = true then (laws_FnRows.j0 k l1 bt87.1 bt87.2 bt88.1 bt88.2 true) else (laws_FnRows.j0 k l1 bt87.1 bt87.2 bt88.1 bt88.2 (bt88.1 != bt89.1))))))) = some r := h; clear h
 by_cases c3 : (wrap64 ((l0.length : Int) + (l1.length : Int))) > 1048576
 ·rw [if_pos c3] at H
  have c3b0 : decide (1048576 < (wrap64 ((l0.length : Int) + (l1.length : Int)))) = true := zX c3; clear c3
  as_aux_lemma =>
   obtain rfl := Option.some.inj H; go_enter Tryd.func3, Tryd.ntmps3; go_wp2; go_ret; exact ⟨by first | rfl | (simp <;> rfl) | (simp [*] <;> rfl), by (with_reducible repeat first | exact HB.out | apply zH | apply zF | apply zG) <;> exact HB.out⟩
 ·rw [if_neg c3] at H
  have c3b0 : decide (1048576 < (wrap64 ((l0.length : Int) + (l1.length : Int)))) = false := decide_eq_false c3; clear c3; replace H := zAF H; obtain ⟨⟨t87, t90⟩, A40, H⟩ := H; replace H : ((impl_CompareRows.f k t87 t90).bind fun bt88 => ((spec_CompareRows.f k t87 t90).bind fun bt89 => (if (bt88.2 != bt89.2) = true then (laws_FnRows.j0 k l1 t87 t90 bt88.1 bt88.2 true) else (laws_FnRows.j0 k l1 t87 t90 bt88.1 bt88.2 (bt88.1 != bt89.1))))) = some r := H; have A4 := zA A40; clear A40; replace H := zAF H; obtain ⟨⟨t88, t91⟩, A50, H⟩ := H; replace H : ((spec_CompareRows.f k t87 t90).bind fun bt89 => (if (t91 != bt89.2) = true then (laws_FnRows.j0 k l1 t87 t90 t88 t91 true) else (laws_FnRows.j0 k l1 t87 t90 t88 t91 (t88 != bt89.1)))) = some r := H; have A5 := zA A50; clear A50; replace H := zAF H; obtain ⟨⟨t89, t92⟩, A60, H⟩ := H; replace H : (if (t91 != t92) = true then (laws_FnRows.j0 k l1 t87 t90 t88 t91 true) else (laws_FnRows.j0 k l1 t87 t90 t88 t91 (t88 != t89))) = some r := H; have A6 := zA A60; clear A60; have HC7 := zA H; clear H; go_enter Tryd.func3, Tryd.ntmps3; go_upto_region 6 with (first | ((with_reducible refine yB (f := 4) rfl ?_); refine goesL_ (some 51) rfl rfl Tryd.func4 (by kernel_rfl) rfl #[.slice A0 l0.length c0] rfl (by (try simp only [zAA, zAB, zAC]); first | done | rfl | (simp only [zZ, zY]; rfl)) ?_; (with_reducible refine (spec_DrawCompareRows.calls k _ _ l0 t87 t90 _ ?side1 ?side2 A4.out).mono ?_); (case side1 => repeat (first | exact HR0.out | (with_reducible refine zT ?_ _) | (with_reducible refine zU ?_ _) | (with_reducible refine zV ?_))); (case side2 => exact HC0.out); rintro e w8 ⟨v93, v94, rfl, ho0, ho1, hb⟩; refine ⟨_, rfl, ?_⟩; have n0_ := zA (Kd.R_lower ho0 (zAE (by (with_reducible repeat first | exact HB.out | apply zH | apply zF | apply zG) <;> exact HB.out))); have n1_ := zA (Kd.R_lower ho1 (zAE (by (with_reducible repeat first | exact HB.out | apply zH | apply zF | apply zG) <;> exact HB.out))); have n2_ := zA (zAD (by (with_reducible repeat first | exact HB.out | apply zH | apply zF | apply zG) <;> exact HB.out) hb); clear HB; have HO95 := n0_; have HO96 := n1_; have HB := n2_; clear n0_ n1_ n2_; (try clear hb); (try clear ho0); (try clear ho1); obtain ⟨Ao9, co9, eo9⟩ := Kd.R_slice HO95.out; subst eo9; obtain ⟨Ao10, co10, eo10⟩ := Kd.R_slice HO96.out; subst eo10) | ((with_reducible refine yB (f := 5) rfl ?_); refine goesL_ (some 57) rfl rfl Tryd.func5 (by kernel_rfl) rfl #[.slice Ao9 t87.length co9, .slice Ao10 t90.length co10] rfl (by (try simp only [zAA, zAB, zAC]); first | done | rfl | (simp only [zZ, zY]; rfl)) ?_; (with_reducible refine (impl_CompareRows.calls k _ _ t87 _ _ t90 t88 t91 _ ?side1 ?side2 ?side3 ?side4 A5.out).mono ?_); (case side1 => repeat (first | exact (yD HO95.out).2.2 | (with_reducible refine zT ?_ _) | (with_reducible refine zU ?_ _) | (with_reducible refine zV ?_))); (case side2 => exact (yD HO95.out).2.1); (case side3 => repeat (first | exact (yD HO96.out).2.2 | (with_reducible refine zT ?_ _) | (with_reducible refine zU ?_ _) | (with_reducible refine zV ?_))); (case side4 => exact (yD HO96.out).2.1); rintro e w11 ⟨rfl, hb⟩; refine ⟨_, rfl, ?_⟩; have n0_ := zA (Kd.R_below (by (with_reducible repeat first | apply zQ | apply zR | apply zS); exact HO95.out) hb); have n1_ := zA (Kd.R_below (by (with_reducible repeat first | apply zQ | apply zR | apply zS); exact HO96.out) hb); have n2_ := zA (zAD (by (with_reducible repeat first | exact HB.out | apply zH | apply zF | apply zG) <;> exact HB.out) hb); clear HO95; clear HO96; clear HB; have HO95 := n0_; have HO96 := n1_; have HB := n2_; clear n0_ n1_ n2_; (try clear hb)) | ((with_reducible refine yB (f := 6) rfl ?_); refine goesL_ (some 63) rfl rfl Tryd.func6 (by kernel_rfl) rfl #[.slice Ao9 t87.length co9, .slice Ao10 t90.length co10] rfl (by (try simp only [zAA, zAB, zAC]); first | done | rfl | (simp only [zZ, zY]; rfl)) ?_; (with_reducible refine (spec_CompareRows.calls k _ _ t87 _ _ t90 t89 t92 _ ?side1 ?side2 ?side3 ?side4 A6.out).mono ?_); (case side1 => repeat (first | exact (yD HO95.out).2.2 | (with_reducible refine zT ?_ _) | (with_reducible refine zU ?_ _) | (with_reducible refine zV ?_))); (case side2 => exact (yD HO95.out).2.1); (case side3 => repeat (first | exact (yD HO96.out).2.2 | (with_reducible refine zT ?_ _) | (with_reducible refine zU ?_ _) | (with_reducible refine zV ?_))); (case side4 => exact (yD HO96.out).2.1); rintro e w12 ⟨rfl, hb⟩; refine ⟨_, rfl, ?_⟩; have n0_ := zA (Kd.R_below (by (with_reducible repeat first | apply zQ | apply zR | apply zS); exact HO95.out) hb); have n1_ := zA (Kd.R_below (by (with_reducible repeat first | apply zQ | apply zR | apply zS); exact HO96.out) hb); have n2_ := zA (zAD (by (with_reducible repeat first | exact HB.out | apply zH | apply zF | apply zG) <;> exact HB.out) hb); clear HO95; clear HO96; clear HB; have HO95 := n0_; have HO96 := n1_; have HB := n2_; clear n0_ n1_ n2_; (try clear hb)))
  (try simp only [Act.put, zC, zD, zE]); go_cut [73] (fun v73 wc => ∃ (kq : Nat) (x73_6 : Bool), v73 = .bool x73_6 ∧ Aside0 (laws_FnRows.j0 kq l1 t87 t90 t88 t91 x73_6 = some r) ∧ Aside0 (kq ≤ k) ∧ Aside0 (Kd.R k39 39 wc w.heap.size (fun k_ => some k_ ≠ ((.slice Ao10 t90.length co10) : Value).ownBlock) (.slice Ao9 t87.length co9) t87) ∧ Aside0 (Kd.R k39 39 wc w.heap.size (fun k_ => some k_ ≠ ((.slice Ao9 t87.length co9) : Value).ownBlock) (.slice Ao10 t90.length co10) t90) ∧ Aside0 (Below w.heap.size w wc))
  case first =>
   have H := HC7.out; clear HC7
   by_cases c13 : (t91 != t92) = true
   ·rw [if_pos c13] at H
    have c13b0 : (t91 != t92) = true := c13; (try (have c13b1 : decide (t91 = t92) = false := by simpa using c13)); (try (have c13b2 : (t91 == t92) = false := by simpa using c13)); (try (have c13b3 : ¬ (t91 = t92) := by simpa using c13)); clear c13; (first | rw [c13b0] | (simp only [i64_w, i32_w]; rw [c13b0]) | skip)
    as_aux_lemma =>
     exfalso; revert H; generalize k = q_; intro H; cases q_ with
     | zero => exact absurd H (by simp [laws_FnRows.j0])
     | succ q_ => simp only [laws_FnRows.j0] at H; exact absurd ((Option.some.inj (show some false = some _ from H)).trans hr_.out) (by decide)
   ·rw [if_neg c13] at H
    have c13b0 : (t91 != t92) = false := by simpa using c13
    (try (have c13b1 : decide (t91 = t92) = true := by simpa using c13)); (try (have c13b2 : (t91 == t92) = true := by simpa using c13)); clear c13; (first | rw [c13b0] | (simp only [i64_w, i32_w]; rw [c13b0]) | skip)
    as_aux_lemma =>
     have H' := zA H; clear H; go_wp2; go_meet
     case rel => exact ⟨_, ((t88 != t89)), (by first | rfl | (simp; done) | (simp [*]; done) | (simp [bne]; done)), H', ⟨by first | omega | exact Nat.le_refl _⟩, ⟨by (with_reducible repeat first | apply zQ | apply zR | apply zS); exact HO95.out⟩, ⟨by (with_reducible repeat first | apply zQ | apply zR | apply zS); exact HO96.out⟩, ⟨by (with_reducible repeat first | exact HB.out | apply zH | apply zF | apply zG) <;> exact HB.out⟩⟩
  case rest =>
   clear HC7
   try clear c1
   try clear p2
   try clear c3
   try clear c3b0
   try clear c4
   try clear c5
   try clear c6
   try clear p6
   try clear c13
   try clear c13b0
   try clear c13b1
   try clear c13b2
   obtain ⟨kq, x73_6, rfl, HA, HJ6, HO_5, HO_6, HB⟩ := hcut
   cases kq with
   | zero => exact absurd HA.out (by simp [laws_FnRows.j0])
   | succ kj6 =>
    have H := HA.out; clear HA; simp only [laws_FnRows.j0] at H
    by_cases c14 : x73_6 = true
    ·subst c14
     have H1 : (some false) = some r := by rw [if_pos rfl] at H; exact H
     clear H; have H := H1; clear H1
     as_aux_lemma =>
      exact absurd ((Option.some.inj H).trans hr_.out) (by decide)
    ·replace c14 := Bool.eq_false_iff.mpr c14
     subst c14; have H1 : (if t91 = true then ((impl_RowBytes.f kj6 t87).bind fun bt97 => ((impl_RowBytes.f kj6 t90).bind fun bt98 => ((impl_ReadRow.f kj6 bt97.1).bind fun bt99 => (if bt97.2 = true then (if bt98.2 = true then ((laws_sameWay.f bt97.1 bt98.1).bind fun t395 => (if t395 = t88 then (if bt99.2 = true then ((laws_sameValues.f kj6 bt99.1 t87).bind fun t396 => (laws_FnRows.j1 kj6 l1 t87 t90 bt98.1 (!t396))) else (laws_FnRows.j1 kj6 l1 t87 t90 bt98.1 true)) else (laws_FnRows.j1 kj6 l1 t87 t90 bt98.1 true))) else (laws_FnRows.j1 kj6 l1 t87 t90 bt98.1 true)) else (laws_FnRows.j1 kj6 l1 t87 t90 bt98.1 true))))) else (laws_FnRows.j4 kj6 l1)) = some r := by rw [if_neg (show ¬ (false = true) by decide)] at H; exact H
     clear H; have H := H1; clear H1; have HC15 := zA H; clear H; go_upto_if 74 with (fail)
     go_cut [] (fun wc => ∃ (kq : Nat), Aside0 (laws_FnRows.j4 kq l1 = some r) ∧ Aside0 (kq ≤ kj6) ∧ Aside0 (Below w.heap.size w wc))
     case first =>
      have H := HC15.out; clear HC15
      by_cases c16 : t91 = true
      ·subst c16
       have H1 : ((impl_RowBytes.f kj6 t87).bind fun bt97 => ((impl_RowBytes.f kj6 t90).bind fun bt98 => ((impl_ReadRow.f kj6 bt97.1).bind fun bt99 => (if bt97.2 = true then (if bt98.2 = true then ((laws_sameWay.f bt97.1 bt98.1).bind fun t395 => (if t395 = t88 then (if bt99.2 = true then ((laws_sameValues.f kj6 bt99.1 t87).bind fun t396 => (laws_FnRows.j1 kj6 l1 t87 t90 bt98.1 (!t396))) else (laws_FnRows.j1 kj6 l1 t87 t90 bt98.1 true)) else (laws_FnRows.j1 kj6 l1 t87 t90 bt98.1 true))) else (laws_FnRows.j1 kj6 l1 t87 t90 bt98.1 true)) else (laws_FnRows.j1 kj6 l1 t87 t90 bt98.1 true))))) = some r := by rw [if_pos rfl] at H; exact H
       clear H; have H := H1; clear H1; replace H := zAF H; obtain ⟨⟨t97, t388⟩, A170, H⟩ := H; replace H : ((impl_RowBytes.f kj6 t90).bind fun bt98 => ((impl_ReadRow.f kj6 t97).bind fun bt99 => (if t388 = true then (if bt98.2 = true then ((laws_sameWay.f t97 bt98.1).bind fun t395 => (if t395 = t88 then (if bt99.2 = true then ((laws_sameValues.f kj6 bt99.1 t87).bind fun t396 => (laws_FnRows.j1 kj6 l1 t87 t90 bt98.1 (!t396))) else (laws_FnRows.j1 kj6 l1 t87 t90 bt98.1 true)) else (laws_FnRows.j1 kj6 l1 t87 t90 bt98.1 true))) else (laws_FnRows.j1 kj6 l1 t87 t90 bt98.1 true)) else (laws_FnRows.j1 kj6 l1 t87 t90 bt98.1 true)))) = some r := H; have A17 := zA A170; clear A170; replace H := zAF H; obtain ⟨⟨t98, t390⟩, A180, H⟩ := H; replace H : ((impl_ReadRow.f kj6 t97).bind fun bt99 => (if t388 = true then (if t390 = true then ((laws_sameWay.f t97 t98).bind fun t395 => (if t395 = t88 then (if bt99.2 = true then ((laws_sameValues.f kj6 bt99.1 t87).bind fun t396 => (laws_FnRows.j1 kj6 l1 t87 t90 t98 (!t396))) else (laws_FnRows.j1 kj6 l1 t87 t90 t98 true)) else (laws_FnRows.j1 kj6 l1 t87 t90 t98 true))) else (laws_FnRows.j1 kj6 l1 t87 t90 t98 true)) else (laws_FnRows.j1 kj6 l1 t87 t90 t98 true))) = some r := H; have A18 := zA A180; clear A180; replace H := zAF H; obtain ⟨⟨t99, t392⟩, A190, H⟩ := H; replace H : (if t388 = true then (if t390 = true then ((laws_sameWay.f t97 t98).bind fun t395 => (if t395 = t88 then (if t392 = true then ((laws_sameValues.f kj6 t99 t87).bind fun t396 => (laws_FnRows.j1 kj6 l1 t87 t90 t98 (!t396))) else (laws_FnRows.j1 kj6 l1 t87 t90 t98 true)) else (laws_FnRows.j1 kj6 l1 t87 t90 t98 true))) else (laws_FnRows.j1 kj6 l1 t87 t90 t98 true)) else (laws_FnRows.j1 kj6 l1 t87 t90 t98 true)) = some r := H; have A19 := zA A190; clear A190; have HC20 := zA H; clear H; go_upto_region 12 with (first | ((with_reducible refine yB (f := 7) rfl ?_); refine goesL_ (some 77) rfl rfl Tryd.func7 (by kernel_rfl) rfl #[.slice Ao9 t87.length co9] rfl (by (try simp only [zAA, zAB, zAC]); first | done | rfl | (simp only [zZ, zY]; rfl)) ?_; (with_reducible refine (impl_RowBytes.calls kj6 _ _ t87 t97 t388 _ ?side1 ?side2 A17.out).mono ?_); (case side1 => repeat (first | exact (yD HO_5.out).2.2 | (with_reducible refine zT ?_ _) | (with_reducible refine zU ?_ _) | (with_reducible refine zV ?_))); (case side2 => exact (yD HO_5.out).2.1); rintro e w21 ⟨rfl, hb⟩; refine ⟨_, rfl, ?_⟩; have n0_ := zA (Kd.R_below (by (with_reducible repeat first | apply zQ | apply zR | apply zS); exact HO_5.out) hb); have n1_ := zA (Kd.R_below (by (with_reducible repeat first | apply zQ | apply zR | apply zS); exact HO_6.out) hb); have n2_ := zA (zAD (by (with_reducible repeat first | exact HB.out | apply zH | apply zF | apply zG) <;> exact HB.out) hb); clear HO_5; clear HO_6; clear HB; have HO_5 := n0_; have HO_6 := n1_; have HB := n2_; clear n0_ n1_ n2_; (try clear hb)) | ((with_reducible refine yB (f := 7) rfl ?_); refine goesL_ (some 82) rfl rfl Tryd.func7 (by kernel_rfl) rfl #[.slice Ao10 t90.length co10] rfl (by (try simp only [zAA, zAB, zAC]); first | done | rfl | (simp only [zZ, zY]; rfl)) ?_; (with_reducible refine (impl_RowBytes.calls kj6 _ _ t90 t98 t390 _ ?side1 ?side2 A18.out).mono ?_); (case side1 => repeat (first | exact (yD HO_6.out).2.2 | (with_reducible refine zT ?_ _) | (with_reducible refine zU ?_ _) | (with_reducible refine zV ?_))); (case side2 => exact (yD HO_6.out).2.1); rintro e w22 ⟨rfl, hb⟩; refine ⟨_, rfl, ?_⟩; have n0_ := zA (Kd.R_below (by (with_reducible repeat first | apply zQ | apply zR | apply zS); exact HO_5.out) hb); have n1_ := zA (Kd.R_below (by (with_reducible repeat first | apply zQ | apply zR | apply zS); exact HO_6.out) hb); have n2_ := zA (zAD (by (with_reducible repeat first | exact HB.out | apply zH | apply zF | apply zG) <;> exact HB.out) hb); clear HO_5; clear HO_6; clear HB; have HO_5 := n0_; have HO_6 := n1_; have HB := n2_; clear n0_ n1_ n2_; (try clear hb)) | ((with_reducible refine yB (f := 8) rfl ?_); refine goesL_ (some 87) rfl rfl Tryd.func8 (by kernel_rfl) rfl #[.string t97] rfl (by (try simp only [zAA, zAB, zAC]); first | done | rfl) ?_; (with_reducible refine (impl_ReadRow.calls kj6 t97 t99 t392 _ A19.out).mono ?_); rintro e w23 ⟨v393, rfl, ho0, hb⟩; refine ⟨_, rfl, ?_⟩; have n0_ := zA (yJ (by (with_reducible repeat first | apply zQ | apply zR | apply zS); exact HO_5.out) (Kd.R_base ho0) hb); have n1_ := zA (yJ (by (with_reducible repeat first | apply zQ | apply zR | apply zS); exact HO_6.out) (Kd.R_base ho0) hb); have n2_ := zA (Kd.R_lower (yK (yK ho0 (Kd.R_lt (by (with_reducible repeat first | apply zQ | apply zR | apply zS); exact HO_5.out))) (Kd.R_lt (by (with_reducible repeat first | apply zQ | apply zR | apply zS); exact HO_6.out))) (zAE (by (with_reducible repeat first | exact HB.out | apply zH | apply zF | apply zG) <;> exact HB.out))); have n3_ := zA (zAD (by (with_reducible repeat first | exact HB.out | apply zH | apply zF | apply zG) <;> exact HB.out) hb); clear HO_5; clear HO_6; clear HB; have HO_5 := n0_; have HO_6 := n1_; have HO394 := n2_; have HB := n3_; clear n0_ n1_ n2_ n3_; (try clear hb); (try clear ho0)))
       (try simp only [Act.put, zC, zD, zE]); go_cut [112] (fun v112 wc => ∃ (kq : Nat) (x112_19 : Bool), v112 = .bool x112_19 ∧ Aside0 (laws_FnRows.j1 kq l1 t87 t90 t98 x112_19 = some r) ∧ Aside0 (kq ≤ kj6) ∧ Aside0 (Kd.R k39 39 wc w.heap.size (fun k_ => some k_ ≠ ((.slice Ao10 t90.length co10) : Value).ownBlock) (.slice Ao9 t87.length co9) t87) ∧ Aside0 (Kd.R k39 39 wc w.heap.size (fun k_ => some k_ ≠ ((.slice Ao9 t87.length co9) : Value).ownBlock) (.slice Ao10 t90.length co10) t90) ∧ Aside0 (Below w.heap.size w wc))
       case first =>
        have H := HC20.out; clear HC20
        by_cases c24 : t388 = true
        ·subst c24
         have H1 : (if t390 = true then ((laws_sameWay.f t97 t98).bind fun t395 => (if t395 = t88 then (if t392 = true then ((laws_sameValues.f kj6 t99 t87).bind fun t396 => (laws_FnRows.j1 kj6 l1 t87 t90 t98 (!t396))) else (laws_FnRows.j1 kj6 l1 t87 t90 t98 true)) else (laws_FnRows.j1 kj6 l1 t87 t90 t98 true))) else (laws_FnRows.j1 kj6 l1 t87 t90 t98 true)) = some r := by rw [if_pos rfl] at H; exact H
         clear H; have H := H1; clear H1
         by_cases c25 : t390 = true
         ·subst c25
          have H1 : ((laws_sameWay.f t97 t98).bind fun t395 => (if t395 = t88 then (if t392 = true then ((laws_sameValues.f kj6 t99 t87).bind fun t396 => (laws_FnRows.j1 kj6 l1 t87 t90 t98 (!t396))) else (laws_FnRows.j1 kj6 l1 t87 t90 t98 true)) else (laws_FnRows.j1 kj6 l1 t87 t90 t98 true))) = some r := by rw [if_pos rfl] at H; exact H
          clear H; have H := H1; clear H1; replace H := zAF H; obtain ⟨t395, A260, H⟩ := H; replace H : (if t395 = t88 then (if t392 = true then ((laws_sameValues.f kj6 t99 t87).bind fun t396 => (laws_FnRows.j1 kj6 l1 t87 t90 t98 (!t396))) else (laws_FnRows.j1 kj6 l1 t87 t90 t98 true)) else (laws_FnRows.j1 kj6 l1 t87 t90 t98 true)) = some r := H; have A26 := zA A260; clear A260
          by_cases c27 : t395 = t88
          ·rw [if_pos c27] at H
           have c27b0 : (t395 == t88) = true := beq_iff_eq.mpr c27; have c27b1 : (t395 != t88) = false := bne_eq_false_iff_eq.mpr c27; clear c27; (first | rw [c27b0] | (simp only [i64_w, i32_w]; rw [c27b0]) | skip)
           by_cases c28 : t392 = true
           ·subst c28
            have H1 : ((laws_sameValues.f kj6 t99 t87).bind fun t396 => (laws_FnRows.j1 kj6 l1 t87 t90 t98 (!t396))) = some r := by rw [if_pos rfl] at H; exact H
            clear H; have H := H1; clear H1; replace H := zAF H; obtain ⟨t396, A290, H⟩ := H; replace H : (laws_FnRows.j1 kj6 l1 t87 t90 t98 (!t396)) = some r := H; have A29 := zA A290; clear A290
            as_aux_lemma =>
             have H' := zA H; clear H; go_wp2_with (first | (go_at_call 9; (with_reducible refine (laws_sameWay.calls t97 t98 t395 _ A26.out).mono ?_); rintro e w' ⟨rfl, ⟨nd, rfl⟩⟩; obtain ⟨Ao30, co30, eo30⟩ := Kd.R_slice HO394.out; subst eo30) | (go_at_call 10; (with_reducible refine (laws_sameValues.calls kj6 _ _ t99 _ _ t87 t396 _ ?side1 ?side2 ?side3 ?side4 A29.out).mono ?_); (case side1 => repeat (first | exact (yD HO394.out).2.2 | (with_reducible refine zT ?_ _) | (with_reducible refine zU ?_ _) | (with_reducible refine zV ?_))); (case side2 => exact (yD HO394.out).2.1); (case side3 => repeat (first | exact (yD HO_5.out).2.2 | (with_reducible refine zT ?_ _) | (with_reducible refine zU ?_ _) | (with_reducible refine zV ?_))); (case side4 => exact (yD HO_5.out).2.1); rintro e w' ⟨rfl, ⟨nd, rfl⟩⟩)); go_meet
             case rel => exact ⟨_, (!t396), (by first | rfl | (simp; done) | (simp [*]; done) | (simp [bne]; done)), H', ⟨by have := HJ6.out; first | omega | exact Nat.le_refl _⟩, ⟨by (with_reducible repeat first | apply zQ | apply zR | apply zS); exact yC HO_5.out (fun _ hk => hk.1)⟩, ⟨by (with_reducible repeat first | apply zQ | apply zR | apply zS); exact yC HO_6.out (fun _ hk => hk.1)⟩, ⟨by (with_reducible repeat first | exact HB.out | apply zH | apply zF | apply zG) <;> exact HB.out⟩⟩
           ·replace c28 := Bool.eq_false_iff.mpr c28
            subst c28; have H1 : (laws_FnRows.j1 kj6 l1 t87 t90 t98 true) = some r := by rw [if_neg (show ¬ (false = true) by decide)] at H; exact H
            clear H; have H := H1; clear H1
            as_aux_lemma =>
             exfalso; revert H; generalize kj6 = q_; intro H; cases q_ with
             | zero => exact absurd H (by simp [laws_FnRows.j1])
             | succ q_ => simp only [laws_FnRows.j1] at H; exact absurd ((Option.some.inj (show some false = some _ from H)).trans hr_.out) (by decide)
          ·rw [if_neg c27] at H
           have c27b0 : (t395 == t88) = false := beq_eq_false_iff_ne.mpr c27; have c27b1 : (t395 != t88) = true := bne_iff_ne.mpr c27; (first | rw [c27b0] | (simp only [i64_w, i32_w]; rw [c27b0]) | skip)
           as_aux_lemma =>
            exfalso; revert H; generalize kj6 = q_; intro H; cases q_ with
            | zero => exact absurd H (by simp [laws_FnRows.j1])
            | succ q_ => simp only [laws_FnRows.j1] at H; exact absurd ((Option.some.inj (show some false = some _ from H)).trans hr_.out) (by decide)
         ·replace c25 := Bool.eq_false_iff.mpr c25
          subst c25; have H1 : (laws_FnRows.j1 kj6 l1 t87 t90 t98 true) = some r := by rw [if_neg (show ¬ (false = true) by decide)] at H; exact H
          clear H; have H := H1; clear H1
          as_aux_lemma =>
           exfalso; revert H; generalize kj6 = q_; intro H; cases q_ with
           | zero => exact absurd H (by simp [laws_FnRows.j1])
           | succ q_ => simp only [laws_FnRows.j1] at H; exact absurd ((Option.some.inj (show some false = some _ from H)).trans hr_.out) (by decide)
        ·replace c24 := Bool.eq_false_iff.mpr c24
         subst c24; have H1 : (laws_FnRows.j1 kj6 l1 t87 t90 t98 true) = some r := by rw [if_neg (show ¬ (false = true) by decide)] at H; exact H
         clear H; have H := H1; clear H1
         as_aux_lemma =>
          exfalso; revert H; generalize kj6 = q_; intro H; cases q_ with
          | zero => exact absurd H (by simp [laws_FnRows.j1])
          | succ q_ => simp only [laws_FnRows.j1] at H; exact absurd ((Option.some.inj (show some false = some _ from H)).trans hr_.out) (by decide)
       case rest =>
        clear HC20
        try clear c1
        try clear c2
        try clear p2
        try clear c3
        try clear c3b0
        try clear c4
        try clear c5
        try clear c6
        try clear p6
        try clear c7
        try clear c8
        try clear c13
        try clear c13b0
        try clear c13b1
        try clear c13b2
        try clear c14
        try clear c16
        try clear c24
        try clear c25
        try clear c27
        try clear c27b0
        try clear c27b1
        try clear c28
        try clear p2
        try clear p6
        obtain ⟨kq, x112_19, rfl, HA, HJ19, HO_5, HO_6, HB⟩ := hcut
        cases kq with
        | zero => exact absurd HA.out (by simp [laws_FnRows.j1])
        | succ kj19 =>
         have H := HA.out; clear HA; simp only [laws_FnRows.j1] at H
         by_cases c31 : x112_19 = true
         ·subst c31
          have H1 : (some false) = some r := by rw [if_pos rfl] at H; exact H
          clear H; have H := H1; clear H1
          as_aux_lemma =>
           exact absurd ((Option.some.inj H).trans hr_.out) (by decide)
         ·replace c31 := Bool.eq_false_iff.mpr c31
          subst c31; have H1 : ((laws_numberOf.f kj19 l1).bind fun t397 => (if (wrap64 ((t87.length : Int) + 1)) = 0 then (none) else (if 0 ≤ (Int.tmod t397 (wrap64 ((t87.length : Int) + 1))) then (if (Int.tmod t397 (wrap64 ((t87.length : Int) + 1))) ≤ (t87.length : Int) then ((impl_AfterBeginning.f kj19 (t87.take ((Int.tmod t397 (wrap64 ((t87.length : Int) + 1))) : Int).toNat)).bind fun bt402 => (laws_FnRows.l0 kj19 l1 t87 t90 t98 (Int.tmod t397 (wrap64 ((t87.length : Int) + 1))) bt402.1 bt402.2.1 bt402.2.2 (decide ((t90.length : Int) ≥ (Int.tmod t397 (wrap64 ((t87.length : Int) + 1))))) 0)) else (none)) else (none)))) = some r := by rw [if_neg (show ¬ (false = true) by decide)] at H; exact H
          clear H; have H := H1; clear H1; replace H := zAF H; obtain ⟨t397, A320, H⟩ := H; replace H : (if (wrap64 ((t87.length : Int) + 1)) = 0 then (none) else (if 0 ≤ (Int.tmod t397 (wrap64 ((t87.length : Int) + 1))) then (if (Int.tmod t397 (wrap64 ((t87.length : Int) + 1))) ≤ (t87.length : Int) then ((impl_AfterBeginning.f kj19 (t87.take ((Int.tmod t397 (wrap64 ((t87.length : Int) + 1))) : Int).toNat)).bind fun bt402 => (laws_FnRows.l0 kj19 l1 t87 t90 t98 (Int.tmod t397 (wrap64 ((t87.length : Int) + 1))) bt402.1 bt402.2.1 bt402.2.2 (decide ((t90.length : Int) ≥ (Int.tmod t397 (wrap64 ((t87.length : Int) + 1))))) 0)) else (none)) else (none))) = some r := H; have A32 := zA A320; clear A320
          by_cases c33 : (wrap64 ((t87.length : Int) + 1)) = 0
          ·rw [if_pos c33] at H
           exact absurd H (by simp)
          ·rw [if_neg c33] at H
           have c33b0 : ((wrap64 ((t87.length : Int) + 1)) == 0) = false := beq_eq_false_iff_ne.mpr c33; have c33b1 : ((wrap64 ((t87.length : Int) + 1)) != 0) = true := bne_iff_ne.mpr c33; obtain ⟨ji34, hji34⟩ : ∃ j_ : Int, (Int.tmod t397 (wrap64 ((t87.length : Int) + 1))) = j_ := ⟨_, rfl⟩; replace H : (if 0 ≤ (ji34) then (if (ji34) ≤ (t87.length : Int) then ((impl_AfterBeginning.f kj19 (t87.take ((ji34) : Int).toNat)).bind fun bt402 => (laws_FnRows.l0 kj19 l1 t87 t90 t98 ji34 bt402.1 bt402.2.1 bt402.2.2 (decide ((t90.length : Int) ≥ (ji34))) 0)) else (none)) else (none)) = some r := by first | (rw [hji34] at H; exact H) | (simp only [hji34] at H ⊢; exact H)
           (try rw [hji34] at A32)
           by_cases c35 : 0 ≤ (ji34)
           ·rw [if_pos c35] at H
            have c35b0 := eq_true c35; have c35b1 : decide (0 ≤ (ji34)) = true := zX c35; clear c35
            by_cases c36 : (ji34) ≤ (t87.length : Int)
            ·rw [if_pos c36] at H
             have c36b0 := eq_true c36; have c36b1 : decide ((ji34) ≤ (t87.length : Int)) = true := zX c36; clear c36; obtain ⟨y398, hy398⟩ : ∃ y_ : List (S39), y_ = (t87.take ((ji34) : Int).toNat) := ⟨_, rfl⟩; replace H : ((impl_AfterBeginning.f kj19 y398).bind fun bt402 => (laws_FnRows.l0 kj19 l1 t87 t90 t98 ji34 bt402.1 bt402.2.1 bt402.2.2 (decide ((t90.length : Int) ≥ (ji34))) 0)) = some r := by first | (rw [hy398]; with_reducible exact H) | (have H2_ := (Option.bind_some _ _).symm.trans H; rw [hy398]; with_reducible exact H2_) | (have H2_ := (Option.bind_some _ _).symm.trans H; with_reducible exact H2_) | with_reducible exact H | (rw [hy398]; exact H) | exact H
             have Ny398 := zA hy398; clear hy398; replace H := zAF H; obtain ⟨⟨t402, t403, t404⟩, A370, H⟩ := H; replace H : (laws_FnRows.l0 kj19 l1 t87 t90 t98 ji34 t402 t403 t404 (decide ((t90.length : Int) ≥ (ji34))) 0) = some r := H; have A37 := zA A370; clear A370; have H' := zA H; clear H; go_wp2_with (first | ((with_reducible refine yB (f := 11) rfl ?_); refine goesL_ (some 114) rfl rfl Tryd.func11 (by kernel_rfl) rfl #[.slice A1 l1.length c1] rfl (by (try simp only [zAA, zAB, zAC]); first | done | rfl | (simp only [zZ, zY]; rfl)) ?_; (with_reducible refine (laws_numberOf.calls kj19 _ _ l1 t397 _ ?side1 ?side2 A32.out).mono ?_); (case side1 => repeat (first | exact (Kd.C_below HR1.out HB.out) | (with_reducible refine zT ?_ _) | (with_reducible refine zU ?_ _) | (with_reducible refine zV ?_))); (case side2 => exact HC1.out); rintro e w' ⟨rfl, ⟨nd, rfl⟩⟩; refine ⟨_, rfl, ?_⟩; have q38 : ((ji34) : Int) ≤ ((t87.length : Int) : Int) := zW (by first | (with_reducible assumption) | assumption); obtain ⟨i038, hi038, _, hsz38, _⟩ := info_parts info39; have hroom38 : t87.length ≤ co9 := (yD HO_5.out).2.1; have hC38 : Kd.C k39 _ Ao9 t87.length t87 := (yD HO_5.out).2.2; have hcut38 := cut_to (P := Tryd.prog) 23 39 .i64 Tryd.underlying23 hi038 Ao9 t87.length co9 (ji34) (zW (by first | (with_reducible assumption) | assumption)) q38 hroom38; have hr38 := Kd.C_take (m := ((ji34) : Int).toNat) hC38 (by omega); have hy38 : y398.length = ((ji34) : Int).toNat := (by rw [Ny398.out, zY]; omega); rw [← Ny398.out] at hr38; rw [← hy38] at hcut38; have HR401 := zA hr38; have HC401 := zA (show y398.length ≤ co9 from by omega); clear hr38 hC38 hroom38 hi038 hsz38; have KY38 := zA hy38; clear hy38; have KL38 := zA (show ((ji34) : Int).toNat ≤ t87.length from by omega); replace q38 := eq_true q38) | ((with_reducible refine yB (f := 12) rfl ?_); refine goesL_ (some 123) rfl rfl Tryd.func12 (by kernel_rfl) rfl #[.slice Ao9 y398.length co9] rfl (by (try simp only [zAA, zAB, zAC]); first | done | rfl | (simp only [zZ, zY]; rfl)) ?_; (with_reducible refine (impl_AfterBeginning.calls kj19 _ _ y398 t402 t403 t404 _ ?side1 ?side2 A37.out).mono ?_); (case side1 => repeat (first | exact (by repeat (first | (with_reducible exact HR401.out) | (with_reducible refine zT ?_ _) | (with_reducible refine zU ?_ _) | (with_reducible refine zV ?_) | exact HR401.out)) | (with_reducible refine zT ?_ _) | (with_reducible refine zU ?_ _) | (with_reducible refine zV ?_))); (case side2 => exact HC401.out); rintro e w39 ⟨rfl, hb⟩; refine ⟨_, rfl, ?_⟩; have n0_ := zA (Kd.R_below (by (with_reducible repeat first | apply zQ | apply zR | apply zS); exact HO_5.out) hb); have n1_ := zA (Kd.R_below (by (with_reducible repeat first | apply zQ | apply zR | apply zS); exact HO_6.out) hb); have n2_ := zA (Kd.C_below (by repeat (first | (with_reducible exact HR401.out) | (with_reducible refine zT ?_ _) | (with_reducible refine zU ?_ _) | (with_reducible refine zV ?_) | exact HR401.out)) hb); have n3_ := zA (zAD (by (with_reducible repeat first | exact HB.out | apply zH | apply zF | apply zG) <;> exact HB.out) hb); clear HO_5; clear HO_6; clear HR401; clear HB; have HO_5 := n0_; have HO_6 := n1_; have HR401 := n2_; have HB := n3_; clear n0_ n1_ n2_ n3_; (try clear hb))); go_loopg [21, 22] kj19 (fun kq v21 v22 w' => ∃ (x21_3 : Bool) (x22_3 : Int), v21 = .bool x21_3 ∧ v22 = .int .i64 x22_3 ∧ Aside0 (laws_FnRows.l0 kq l1 t87 t90 t98 ji34 t402 t403 t404 x21_3 x22_3 = some r) ∧ Aside0 (kq ≤ kj19) ∧ Aside0 (Kd.R k39 39 w' w.heap.size (fun k_ => some k_ ≠ ((.slice Ao10 t90.length co10) : Value).ownBlock) (.slice Ao9 t87.length co9) t87) ∧ Aside0 (Kd.R k39 39 w' w.heap.size (fun k_ => some k_ ≠ ((.slice Ao9 t87.length co9) : Value).ownBlock) (.slice Ao10 t90.length co10) t90) ∧ Aside0 (Kd.C k39 w' Ao9 y398.length y398) ∧ Aside0 (Below w.heap.size w w'))
             case atStart => exact ⟨(decide ((t90.length : Int) ≥ (ji34))), (0), (by first | rfl | (simp; done) | (simp only [← hji34] <;> (first | rfl | simp)) | (simp [*]; done)), (by first | rfl | (simp; done) | (simp [*]; done) | (simp [bne]; done)), ⟨by first | exact H'.out | (rw [hji34]; exact H'.out) | (simp only [hji34]; exact H'.out)⟩, ⟨Nat.le_refl _⟩, ⟨by (with_reducible repeat first | apply zQ | apply zR | apply zS); exact HO_5.out⟩, ⟨by (with_reducible repeat first | apply zQ | apply zR | apply zS); exact HO_6.out⟩, ⟨by repeat (first | (with_reducible exact HR401.out) | (with_reducible refine zT ?_ _) | (with_reducible refine zU ?_ _) | (with_reducible refine zV ?_) | exact HR401.out)⟩, ⟨by (with_reducible repeat first | exact HB.out | apply zH | apply zF | apply zG) <;> exact HB.out⟩⟩
             case round =>
              clear H'
              try clear c1
              try clear c2
              try clear p2
              try clear c3
              try clear c3b0
              try clear q3
              try clear c4
              try clear c5
              try clear c6
              try clear p6
              try clear c7
              try clear c8
              try clear c11
              try clear c12
              try clear c13
              try clear c13b0
              try clear c13b1
              try clear c13b2
              try clear c14
              try clear c16
              try clear c24
              try clear c25
              try clear c27
              try clear c27b0
              try clear c27b1
              try clear c28
              try clear c31
              try clear c33
              try clear c33b0
              try clear c33b1
              try clear c35
              try clear c35b0
              try clear c35b1
              try clear c36
              try clear c36b0
              try clear c36b1
              try clear q38
              try clear p2
              try clear p6
              try clear q38
              obtain ⟨x21_3, x22_3, rfl, rfl, HA, HK3, HO_5, HO_6, HR401, HB⟩ := hrel
              cases gk with
              | zero => exact absurd HA.out (by simp [laws_FnRows.l0])
              | succ k3 =>
               have H := HA.out; clear HA; simp only [laws_FnRows.l0] at H; have HC40 := zA H; clear H; go_upto_region 18 with (fail)
               go_cut [136] (fun v136 wc => ∃ (kq : Nat) (x136_39 : Bool), v136 = .bool x136_39 ∧ Aside0 (laws_FnRows.j3 kq l1 t87 t90 t98 ji34 t402 t403 t404 x21_3 x22_3 x136_39 = some r) ∧ Aside0 (kq ≤ k3) ∧ Aside0 (Kd.R k39 39 wc w.heap.size (fun k_ => some k_ ≠ ((.slice Ao10 t90.length co10) : Value).ownBlock) (.slice Ao9 t87.length co9) t87) ∧ Aside0 (Kd.R k39 39 wc w.heap.size (fun k_ => some k_ ≠ ((.slice Ao9 t87.length co9) : Value).ownBlock) (.slice Ao10 t90.length co10) t90) ∧ Aside0 (Kd.C k39 wc Ao9 y398.length y398) ∧ Aside0 (Below w.heap.size w wc))
               case first =>
                have H := HC40.out; clear HC40
                by_cases c41 : x21_3 = true
                ·subst c41
                 have H1 : (laws_FnRows.j3 k3 l1 t87 t90 t98 ji34 t402 t403 t404 true x22_3 (decide (x22_3 < ji34))) = some r := by rw [if_pos rfl] at H; exact H
                 clear H; have H := H1; clear H1
                 as_aux_lemma =>
                  have H' := zA H; clear H; go_wp2; go_meet
                  case rel => exact ⟨_, (decide (x22_3 < ji34)), (by first | rfl | (simp; done) | (simp only [← hji34] <;> (first | rfl | simp)) | (simp [*]; done)), ⟨by first | exact H'.out | (rw [hji34]; exact H'.out) | (simp only [hji34]; exact H'.out)⟩, ⟨by have := HJ6.out; have := HJ19.out; have := HK3.out; first | omega | exact Nat.le_refl _⟩, ⟨by (with_reducible repeat first | apply zQ | apply zR | apply zS); exact HO_5.out⟩, ⟨by (with_reducible repeat first | apply zQ | apply zR | apply zS); exact HO_6.out⟩, ⟨by repeat (first | (with_reducible exact HR401.out) | (with_reducible refine zT ?_ _) | (with_reducible refine zU ?_ _) | (with_reducible refine zV ?_) | exact HR401.out)⟩, ⟨by (with_reducible repeat first | exact HB.out | apply zH | apply zF | apply zG) <;> exact HB.out⟩⟩
                ·replace c41 := Bool.eq_false_iff.mpr c41
                 subst c41; have H1 : (laws_FnRows.j3 k3 l1 t87 t90 t98 ji34 t402 t403 t404 false x22_3 false) = some r := by rw [if_neg (show ¬ (false = true) by decide)] at H; exact H
                 clear H; have H := H1; clear H1
                 as_aux_lemma =>
                  have H' := zA H; clear H; go_wp2; go_meet
                  case rel => exact ⟨_, (false), (by first | rfl | (simp; done) | (simp [*]; done) | (simp [bne]; done)), H', ⟨by have := HJ6.out; have := HJ19.out; have := HK3.out; first | omega | exact Nat.le_refl _⟩, ⟨by (with_reducible repeat first | apply zQ | apply zR | apply zS); exact HO_5.out⟩, ⟨by (with_reducible repeat first | apply zQ | apply zR | apply zS); exact HO_6.out⟩, ⟨by repeat (first | (with_reducible exact HR401.out) | (with_reducible refine zT ?_ _) | (with_reducible refine zU ?_ _) | (with_reducible refine zV ?_) | exact HR401.out)⟩, ⟨by (with_reducible repeat first | exact HB.out | apply zH | apply zF | apply zG) <;> exact HB.out⟩⟩
               case rest =>
                clear HC40
                try clear c1
                try clear c2
                try clear p2
                try clear c3
                try clear c3b0
                try clear q3
                try clear c4
                try clear c5
                try clear c6
                try clear p6
                try clear c7
                try clear c8
                try clear c11
                try clear c12
                try clear c13
                try clear c13b0
                try clear c13b1
                try clear c13b2
                try clear c14
                try clear c16
                try clear c24
                try clear c25
                try clear c27
                try clear c27b0
                try clear c27b1
                try clear c28
                try clear c31
                try clear c33
                try clear c33b0
                try clear c33b1
                try clear c35
                try clear c35b0
                try clear c35b1
                try clear c36
                try clear c36b0
                try clear c36b1
                try clear q38
                try clear c41
                try clear p2
                try clear p6
                try clear q3
                try clear q38
                obtain ⟨kq, x136_39, rfl, HA, HJ39, HO_5, HO_6, HR401, HB⟩ := hcut
                cases kq with
                | zero => exact absurd HA.out (by simp [laws_FnRows.j3])
                | succ kj39 =>
                 have H := HA.out; clear HA; simp only [laws_FnRows.j3] at H
                 by_cases c42 : x136_39 = true
                 ·subst c42
                  have H1 : (if 0 ≤ x22_3 then (if x22_3 < (t87.length : Int) then (if x22_3 < (t90.length : Int) then ((impl_CompareValues.f kj39 ((rd_T39 t87 x22_3).f0) ((rd_T39 t87 x22_3).f1) ((rd_T39 t87 x22_3).f2) ((rd_T39 t90 x22_3).f0) ((rd_T39 t90 x22_3).f1) ((rd_T39 t90 x22_3).f2)).bind fun bt407 => (if bt407.2 = true then (laws_FnRows.l0 kj39 l1 t87 t90 t98 ji34 t402 t403 t404 (bt407.1 == 0) (wrap64 (x22_3 + 1))) else (some false))) else (none)) else (none)) else (none)) = some r := by rw [if_pos rfl] at H; exact H
                  clear H; have H := H1; clear H1
                  by_cases c43 : 0 ≤ x22_3
                  ·rw [if_pos c43] at H
                   have c43b0 : decide (0 ≤ x22_3) = true := zX c43; clear c43
                   by_cases c44 : x22_3 < (t87.length : Int)
                   ·rw [if_pos c44] at H
                    have c44b0 : decide (x22_3 < (t87.length : Int)) = true := zX c44; clear c44
                    by_cases c45 : x22_3 < (t90.length : Int)
                    ·rw [if_pos c45] at H
                     have c45b0 : decide (x22_3 < (t90.length : Int)) = true := zX c45; clear c45; replace H := zAF H; obtain ⟨⟨t407, t408⟩, A460, H⟩ := H; replace H : (if t408 = true then (laws_FnRows.l0 kj39 l1 t87 t90 t98 ji34 t402 t403 t404 (t407 == 0) (wrap64 (x22_3 + 1))) else (some false)) = some r := H; have A46 := zA A460; clear A460
                     by_cases c47 : t408 = true
                     ·subst c47
                      have H1 : (laws_FnRows.l0 kj39 l1 t87 t90 t98 ji34 t402 t403 t404 (t407 == 0) (wrap64 (x22_3 + 1))) = some r := by rw [if_pos rfl] at H; exact H
                      clear H; have H := H1; clear H1
                      as_aux_lemma =>
                       have H' := zA H; clear H
                       try go_wp2
                       have n0_ := zA (zS HO_5.out); have n1_ := zA (zS HO_6.out); have n2_ := zA (zV HR401.out); have n3_ := zA (zG HB.out); clear HO_5 HO_6 HR401 HB; have HO_5 := n0_; have HO_6 := n1_; have HR401 := n2_; have HB := n3_; clear n0_ n1_ n2_ n3_; have p405 : 0 ≤ (x22_3 : Int) := zW (by first | (with_reducible assumption) | assumption); have q405 : x22_3 < (t87.length : Int) := zW (by first | (with_reducible assumption) | assumption); obtain ⟨ad405, e405, hx405_0, hx405_1, hx405_2⟩ := at_T39 (yD HO_5.out).2.2 x22_3 p405 q405
                       cases e405
                       replace p405 := eq_true p405; replace q405 := eq_true q405; have p406 : 0 ≤ (x22_3 : Int) := zW (by first | (with_reducible assumption) | assumption); have q406 : x22_3 < (t90.length : Int) := zW (by first | (with_reducible assumption) | assumption); obtain ⟨ad406, e406, hx406_0, hx406_1, hx406_2⟩ := at_T39 (yD HO_6.out).2.2 x22_3 p406 q406
                       cases e406
                       replace p406 := eq_true p406; replace q406 := eq_true q406; refine start_ (n := 14) (S := fun w' => w'.cell? (ad405.add ((x22_3).toNat * 3)) = some (.int .i64 ((rd_T39 t87 x22_3).f0)) ∧ w'.cell? ⟨(ad405.add ((x22_3).toNat * 3)).block, (ad405.add ((x22_3).toNat * 3)).off + 1, none⟩ = some (.int .i64 ((rd_T39 t87 x22_3).f1)) ∧ w'.cell? ⟨(ad405.add ((x22_3).toNat * 3)).block, (ad405.add ((x22_3).toNat * 3)).off + 2, none⟩ = some (.string ((rd_T39 t87 x22_3).f2)) ∧ w'.cell? (ad406.add ((x22_3).toNat * 3)) = some (.int .i64 ((rd_T39 t90 x22_3).f0)) ∧ w'.cell? ⟨(ad406.add ((x22_3).toNat * 3)).block, (ad406.add ((x22_3).toNat * 3)).off + 1, none⟩ = some (.int .i64 ((rd_T39 t90 x22_3).f1)) ∧ w'.cell? ⟨(ad406.add ((x22_3).toNat * 3)).block, (ad406.add ((x22_3).toNat * 3)).off + 2, none⟩ = some (.string ((rd_T39 t90 x22_3).f2))) (ds := []) #[false, false, false, false, false, false, false, false, false, false, false, false, false, false] (by kernel_rfl) rfl rfl ⟨hx405_0, hx405_1, hx405_2, hx406_0, hx406_1, hx406_2⟩ (fun hHeld => ?_); refine with_tabW laws_FnRows.tab20 laws_FnRows.bits20 (fun HT_ HW_ => ?_); generalize wc.drew = w48 at HO_5 HO_6 HR401 HB hx405_0 hx405_1 hx405_2 hx406_0 hx406_1 hx406_2 hHeld ⊢; refine pure_ (i := 0) (N := some 140) (v := ?_) (a' := ?_) #[true, false, false, false, false, false, false, false, false, false, false, false, false, false] rfl rfl (any_of HT_.out (by kernel_rfl)) (fun _ _ _ h => h) (Or.inl ⟨by rfl, ?_⟩) ?_ ?_; rotate_left
                       ·intro w'
                        go_simp
                        with_reducible rfl
                       rotate_left
                       ·simp only [Act.put, zC, zD, zE, i64_w]
                        rfl
                       refine pure_ (i := 1) (N := some 141) (v := ?_) (a' := ?_) #[true, true, false, false, false, false, false, false, false, false, false, false, false, false] rfl rfl (any_of HT_.out (by kernel_rfl)) (fun _ _ _ h => h) (Or.inl ⟨by rfl, ?_⟩) ?_ ?_; rotate_left
                       ·intro w'
                        go_simp
                        with_reducible rfl
                       rotate_left
                       ·simp only [Act.put, zC, zD, zE, i64_w]
                        rfl
                       refine pure_ (i := 2) (N := some 142) (v := ?_) (a' := ?_) #[true, true, true, false, false, false, false, false, false, false, false, false, false, false] rfl rfl (any_of HT_.out (by kernel_rfl)) (fun _ _ _ h => h) (Or.inl ⟨by rfl, ?_⟩) ?_ ?_; rotate_left
                       ·intro w'
                        go_simp
                        with_reducible rfl
                       rotate_left
                       ·simp only [Act.put, zC, zD, zE, i64_w]
                        rfl
                       refine pure_ (i := 4) (N := some 144) (v := ?_) (a' := ?_) #[true, true, true, false, true, false, false, false, false, false, false, false, false, false] rfl rfl (any_of HT_.out (by kernel_rfl)) (fun _ _ _ h => h) (Or.inl ⟨by rfl, ?_⟩) ?_ ?_; rotate_left
                       ·intro w'
                        go_simp
                        with_reducible rfl
                       rotate_left
                       ·simp only [Act.put, zC, zD, zE, i64_w]
                        rfl
                       refine pure_ (i := 5) (N := some 145) (v := ?_) (a' := ?_) #[true, true, true, false, true, true, false, false, false, false, false, false, false, false] rfl rfl (any_of HT_.out (by kernel_rfl)) (fun _ _ _ h => h) (Or.inl ⟨by rfl, ?_⟩) ?_ ?_; rotate_left
                       ·intro w'
                        go_simp
                        with_reducible rfl
                       rotate_left
                       ·simp only [Act.put, zC, zD, zE, i64_w]
                        rfl
                       refine pure_ (i := 6) (N := some 146) (v := ?_) (a' := ?_) #[true, true, true, false, true, true, true, false, false, false, false, false, false, false] rfl rfl (any_of HT_.out (by kernel_rfl)) (fun _ _ _ h => h) (Or.inl ⟨by rfl, ?_⟩) ?_ ?_; rotate_left
                       ·intro w'
                        go_simp
                        with_reducible rfl
                       rotate_left
                       ·simp only [Act.put, zC, zD, zE, i64_w]
                        rfl
                       refine take_ (i := 3) (N := some 143) (v := ?_) (a' := ?_) #[true, true, true, true, true, true, true, false, false, false, false, false, false, false] rfl rfl (take_ofW HT_.out HW_.out (by kernel_rfl)) (fun _ _ _ h => h) (Or.inl ⟨by rfl, ?_⟩) hHeld ?_ ?_; rotate_left
                       ·rintro w' ⟨s0, s1, s2, s3, s4, s5⟩
                        go_simp
                        with_reducible rfl
                       rotate_left
                       ·simp only [Act.put, zC, zD, zE, i64_w]
                        rfl
                       refine take_ (i := 7) (N := some 147) (v := ?_) (a' := ?_) #[true, true, true, true, true, true, true, true, false, false, false, false, false, false] rfl rfl (take_ofW HT_.out HW_.out (by kernel_rfl)) (fun _ _ _ h => h) (Or.inl ⟨by rfl, ?_⟩) hHeld ?_ ?_; rotate_left
                       ·rintro w' ⟨s0, s1, s2, s3, s4, s5⟩
                        go_simp
                        with_reducible rfl
                       rotate_left
                       ·simp only [Act.put, zC, zD, zE, i64_w]
                        rfl
                       refine one_ (i := 8) (N := some 148) #[true, true, true, true, true, true, true, true, true, false, false, false, false, false] rfl rfl (one_of HT_.out (by kernel_rfl)) (by decide) (fun K hK => ?_); refine goes_ Tryd.func13 (by kernel_rfl) rfl #[.agg #[.int .i64 ((rd_T39 t87 x22_3).f0), .int .i64 ((rd_T39 t87 x22_3).f1), .string ((rd_T39 t87 x22_3).f2)], .agg #[.int .i64 ((rd_T39 t90 x22_3).f0), .int .i64 ((rd_T39 t90 x22_3).f1), .string ((rd_T39 t90 x22_3).f2)]] (by rfl) rfl rfl (by (try simp only [zAA, zAB, zAC]); first | done | rfl) ?_
                       with_reducible refine (impl_CompareValues.calls kj39 ((rd_T39 t87 x22_3).f0) ((rd_T39 t87 x22_3).f1) ((rd_T39 t87 x22_3).f2) ((rd_T39 t90 x22_3).f0) ((rd_T39 t90 x22_3).f1) ((rd_T39 t90 x22_3).f2) t407 true _ A46.out).mono ?_
                       rintro e w49 ⟨rfl, hb⟩; have HS0_ := (hb.cell (zB _ _ (hHeld.1))).trans (hHeld.1); have HS1_ := (hb.cell (zB _ _ (hHeld.2.1))).trans (hHeld.2.1); have HS2_ := (hb.cell (zB _ _ (hHeld.2.2.1))).trans (hHeld.2.2.1); have HS3_ := (hb.cell (zB _ _ (hHeld.2.2.2.1))).trans (hHeld.2.2.2.1); have HS4_ := (hb.cell (zB _ _ (hHeld.2.2.2.2.1))).trans (hHeld.2.2.2.2.1); have HS5_ := (hb.cell (zB _ _ (hHeld.2.2.2.2.2))).trans (hHeld.2.2.2.2.2); refine ⟨_, rfl, ?_⟩; have n0_ := zA (Kd.R_below (by (with_reducible repeat first | apply zQ | apply zR | apply zS); exact HO_5.out) hb); have n1_ := zA (Kd.R_below (by (with_reducible repeat first | apply zQ | apply zR | apply zS); exact HO_6.out) hb); have n2_ := zA (Kd.C_below (by repeat (first | (with_reducible exact HR401.out) | (with_reducible refine zT ?_ _) | (with_reducible refine zU ?_ _) | (with_reducible refine zV ?_) | exact HR401.out)) hb); have n3_ := zA (zAD (by (with_reducible repeat first | exact HB.out | apply zH | apply zF | apply zG) <;> exact HB.out) hb); clear HO_5 HO_6 HR401 HB; have HO_5 := n0_; have HO_6 := n1_; have HR401 := n2_; have HB := n3_; clear n0_ n1_ n2_ n3_; (try clear hb); refine hK.out _ _ ⟨HS0_, HS1_, HS2_, HS3_, HS4_, HS5_⟩ (fun hHeld => ?_); clear hK K; refine norm_ (a' := ?_) ?_ ?_; rotate_left
                       ·show Act.put _ (some 148) _ = _
                        simp only [Act.put, zC, zD, zE, i64_w]; rfl
                       refine pure_ (i := 9) (N := some 139) (v := ?_) (a' := ?_) #[true, true, true, true, true, true, true, true, true, true, false, false, false, false] rfl rfl (any_of HT_.out (by kernel_rfl)) (fun _ _ _ h => h) (Or.inl ⟨by rfl, ?_⟩) ?_ ?_; rotate_left
                       ·intro w'
                        go_simp
                        with_reducible rfl
                       rotate_left
                       ·simp only [Act.put, zC, zD, zE, i64_w]
                        rfl
                       refine pure_ (i := 10) (N := some 149) (v := ?_) (a' := ?_) #[true, true, true, true, true, true, true, true, true, true, true, false, false, false] rfl rfl (any_of HT_.out (by kernel_rfl)) (fun _ _ _ h => h) (Or.inl ⟨by rfl, ?_⟩) ?_ ?_; rotate_left
                       ·intro w'
                        go_simp
                        with_reducible rfl
                       rotate_left
                       ·simp only [Act.put, zC, zD, zE, i64_w]
                        rfl
                       refine pure_ (i := 11) (N := some 150) (v := ?_) (a' := ?_) #[true, true, true, true, true, true, true, true, true, true, true, true, false, false] rfl rfl (any_of HT_.out (by kernel_rfl)) (fun _ _ _ h => h) (Or.inl ⟨by rfl, ?_⟩) ?_ ?_; rotate_left
                       ·intro w'
                        go_simp
                        with_reducible rfl
                       rotate_left
                       ·simp only [Act.put, zC, zD, zE, i64_w]
                        rfl
                       refine pure_ (i := 12) (N := some 23) (v := ?_) (a' := ?_) #[true, true, true, true, true, true, true, true, true, true, true, true, true, false] rfl rfl (any_of HT_.out (by kernel_rfl)) (fun _ _ _ h => h) (Or.inl ⟨by rfl, ?_⟩) ?_ ?_; rotate_left
                       ·intro w'
                        go_simp
                        with_reducible rfl
                       rotate_left
                       ·simp only [Act.put, zC, zD, zE, i64_w]
                        rfl
                       refine pure_ (i := 13) (N := some 24) (v := ?_) (a' := ?_) #[true, true, true, true, true, true, true, true, true, true, true, true, true, true] rfl rfl (any_of HT_.out (by kernel_rfl)) (fun _ _ _ h => h) (Or.inl ⟨by rfl, ?_⟩) ?_ ?_; rotate_left
                       ·intro w'
                        go_simp
                        with_reducible rfl
                       rotate_left
                       ·simp only [Act.put, zC, zD, zE, i64_w]
                        rfl
                       refine done_ (done_of HT_.out (by kernel_rfl)) ?_
                       try go_wp2
                       go_roundg kj39
                       case measure => have := HJ6.out; have := HJ19.out; have := HK3.out; have := HJ39.out; omega
                       case rel => exact ⟨((t407 == 0)), (wrap64 (x22_3 + 1)), (by first | rfl | (simp; done) | (simp [*]; done) | (simp [bne]; done)), (by first | rfl | (simp; done) | (simp [*]; done) | (simp [bne]; done)), H', ⟨by have := HJ6.out; have := HJ19.out; have := HK3.out; have := HJ39.out; omega⟩, ⟨by (with_reducible repeat first | apply zQ | apply zR | apply zS); exact HO_5.out⟩, ⟨by (with_reducible repeat first | apply zQ | apply zR | apply zS); exact HO_6.out⟩, ⟨by repeat (first | (with_reducible exact HR401.out) | (with_reducible refine zT ?_ _) | (with_reducible refine zU ?_ _) | (with_reducible refine zV ?_) | exact HR401.out)⟩, ⟨by (with_reducible repeat first | exact HB.out | apply zH | apply zF | apply zG) <;> exact HB.out⟩⟩
                     ·replace c47 := Bool.eq_false_iff.mpr c47
                      subst c47; have H1 : (some false) = some r := by rw [if_neg (show ¬ (false = true) by decide)] at H; exact H
                      clear H; have H := H1; clear H1
                      as_aux_lemma =>
                       exact absurd ((Option.some.inj H).trans hr_.out) (by decide)
                    ·rw [if_neg c45] at H
                     exact absurd H (by simp)
                   ·rw [if_neg c44] at H
                    exact absurd H (by simp)
                  ·rw [if_neg c43] at H
                   exact absurd H (by simp)
                 ·replace c42 := Bool.eq_false_iff.mpr c42
                  subst c42; have H1 : (if t404 = true then (if ((Op.bytesLess t98.toList t402.toList) = true) then (if (false != x21_3) = true then (some false) else (laws_FnRows.j4 kj39 l1)) else (if ((Op.bytesLess t98.toList t403.toList) != x21_3) = true then (some false) else (laws_FnRows.j4 kj39 l1))) else (some false)) = some r := by rw [if_neg (show ¬ (false = true) by decide)] at H; exact H
                  clear H; have H := H1; clear H1
                  by_cases c50 : t404 = true
                  ·subst c50
                   have H1 : (if ((Op.bytesLess t98.toList t402.toList) = true) then (if (false != x21_3) = true then (some false) else (laws_FnRows.j4 kj39 l1)) else (if ((Op.bytesLess t98.toList t403.toList) != x21_3) = true then (some false) else (laws_FnRows.j4 kj39 l1))) = some r := by rw [if_pos rfl] at H; exact H
                   clear H; have H := H1; clear H1
                   by_cases c51 : ((Op.bytesLess t98.toList t402.toList) = true)
                   ·rw [if_pos c51] at H
                    have c51b0 : (Op.bytesLess t98.toList t402.toList) = true := c51; clear c51
                    by_cases c52 : (false != x21_3) = true
                    ·rw [if_pos c52] at H
                     have c52b0 : (false != x21_3) = true := c52; (try (have c52b1 : decide (false = x21_3) = false := by simpa using c52)); (try (have c52b2 : (false == x21_3) = false := by simpa using c52)); (try (have c52b3 : ¬ (false = x21_3) := by simpa using c52)); clear c52
                     as_aux_lemma =>
                      exact absurd ((Option.some.inj H).trans hr_.out) (by decide)
                    ·rw [if_neg c52] at H
                     have c52b0 : (false != x21_3) = false := by simpa using c52
                     (try (have c52b1 : decide (false = x21_3) = true := by simpa using c52)); (try (have c52b2 : (false == x21_3) = true := by simpa using c52)); clear c52
                     as_aux_lemma =>
                      have H' := zA H; clear H; go_wp2; go_meet
                      case rel => exact ⟨_, H', ⟨by have := HJ6.out; have := HJ19.out; have := HK3.out; have := HJ39.out; first | omega | exact Nat.le_refl _⟩, ⟨by (with_reducible repeat first | exact HB.out | apply zH | apply zF | apply zG) <;> exact HB.out⟩⟩
                   ·rw [if_neg c51] at H
                    have c51b0 : (Op.bytesLess t98.toList t402.toList) = false := by simpa using c51
                    clear c51
                    by_cases c53 : ((Op.bytesLess t98.toList t403.toList) != x21_3) = true
                    ·rw [if_pos c53] at H
                     have c53b0 : ((Op.bytesLess t98.toList t403.toList) != x21_3) = true := c53; (try (have c53b1 : decide ((Op.bytesLess t98.toList t403.toList) = x21_3) = false := by simpa using c53)); (try (have c53b2 : ((Op.bytesLess t98.toList t403.toList) == x21_3) = false := by simpa using c53)); (try (have c53b3 : ¬ ((Op.bytesLess t98.toList t403.toList) = x21_3) := by simpa using c53)); clear c53
                     as_aux_lemma =>
                      exact absurd ((Option.some.inj H).trans hr_.out) (by decide)
                    ·rw [if_neg c53] at H
                     have c53b0 : ((Op.bytesLess t98.toList t403.toList) != x21_3) = false := by simpa using c53
                     (try (have c53b1 : decide ((Op.bytesLess t98.toList t403.toList) = x21_3) = true := by simpa using c53)); (try (have c53b2 : ((Op.bytesLess t98.toList t403.toList) == x21_3) = true := by simpa using c53)); clear c53
                     as_aux_lemma =>
                      have H' := zA H; clear H; go_wp2; go_meet
                      case rel => exact ⟨_, H', ⟨by have := HJ6.out; have := HJ19.out; have := HK3.out; have := HJ39.out; first | omega | exact Nat.le_refl _⟩, ⟨by (with_reducible repeat first | exact HB.out | apply zH | apply zF | apply zG) <;> exact HB.out⟩⟩
                  ·replace c50 := Bool.eq_false_iff.mpr c50
                   subst c50; have H1 : (some false) = some r := by rw [if_neg (show ¬ (false = true) by decide)] at H; exact H
                   clear H; have H := H1; clear H1
                   as_aux_lemma =>
                    exact absurd ((Option.some.inj H).trans hr_.out) (by decide)
            ·rw [if_neg c36] at H
             exact absurd H (by simp)
           ·rw [if_neg c35] at H
            exact absurd H (by simp)
      ·replace c16 := Bool.eq_false_iff.mpr c16
       subst c16; have H1 : (laws_FnRows.j4 kj6 l1) = some r := by rw [if_neg (show ¬ (false = true) by decide)] at H; exact H
       clear H; have H := H1; clear H1
       as_aux_lemma =>
        have H' := zA H; clear H; go_wp2; go_meet
        case rel => exact ⟨_, H', ⟨by have := HJ6.out; first | omega | exact Nat.le_refl _⟩, ⟨by (with_reducible repeat first | exact HB.out | apply zH | apply zF | apply zG) <;> exact HB.out⟩⟩
     case rest =>
      clear HC15
      try clear c1
      try clear c2
      try clear p2
      try clear c3
      try clear c3b0
      try clear q3
      try clear c4
      try clear p4
      try clear q4
      try clear hx4
      try clear c5
      try clear c6
      try clear p6
      try clear c7
      try clear c8
      try clear c11
      try clear c12
      try clear c13
      try clear c13b0
      try clear c13b1
      try clear c13b2
      try clear c14
      try clear c16
      try clear c24
      try clear c25
      try clear c27
      try clear c27b0
      try clear c27b1
      try clear c28
      try clear c31
      try clear c33
      try clear c33b0
      try clear c33b1
      try clear c35
      try clear c35b0
      try clear c35b1
      try clear c36
      try clear c36b0
      try clear c36b1
      try clear q38
      try clear p40
      try clear q40
      try clear hx40
      try clear c41
      try clear c42
      try clear c43
      try clear c43b0
      try clear c44
      try clear c44b0
      try clear c45
      try clear c45b0
      try clear c47
      try clear c50
      try clear c51
      try clear c51b0
      try clear c52
      try clear c52b0
      try clear c52b1
      try clear c52b2
      try clear c53
      try clear c53b0
      try clear c53b1
      try clear c53b2
      try clear hx405_0
      try clear hx405_1
      try clear hx405_2
      try clear hx406_0
      try clear hx406_1
      try clear hx406_2
      try clear p2
      try clear p405
      try clear p406
      try clear p6
      try clear q3
      try clear q38
      try clear q405
      try clear q406
      obtain ⟨kq, HA, HJ14, HB⟩ := hcut
      cases kq with
      | zero => exact absurd HA.out (by simp [laws_FnRows.j4])
      | succ kj14 =>
       have H := HA.out; clear HA; simp only [laws_FnRows.j4] at H; replace H := zAF H; obtain ⟨t409, A540, H⟩ := H; replace H : ((impl_ReadRow.f kj14 t409).bind fun bt410 => ((spec_ReadRow.f kj14 t409).bind fun bt414 => ((spec_DrawRowBytes.f kj14 l1).bind fun t418 => ((impl_RowBytes.f kj14 t418).bind fun bt421 => ((spec_RowBytes.f kj14 t418).bind fun bt423 => ((impl_AfterBeginning.f kj14 t418).bind fun bt425 => ((spec_AfterBeginning.f kj14 t418).bind fun bt428 => (if (bt410.2 != bt414.2) = true then (laws_FnRows.j5 kj14 t409 bt410.1 bt410.2 true) else ((laws_sameValues.f kj14 bt410.1 bt414.1).bind fun t431 => (if t431 = true then (if (bt421.2 != bt423.2) = true then (laws_FnRows.j5 kj14 t409 bt410.1 bt410.2 true) else (if bt421.1.toList = bt423.1.toList then (if (bt425.2.2 != bt428.2.2) = true then (laws_FnRows.j5 kj14 t409 bt410.1 bt410.2 true) else (if bt425.1.toList = bt428.1.toList then (laws_FnRows.j5 kj14 t409 bt410.1 bt410.2 (bt425.2.1.toList != bt428.2.1.toList)) else (laws_FnRows.j5 kj14 t409 bt410.1 bt410.2 true))) else (laws_FnRows.j5 kj14 t409 bt410.1 bt410.2 true))) else (laws_FnRows.j5 kj14 t409 bt410.1 bt410.2 true))))))))))) = some r := H; have A54 := zA A540; clear A540; replace H := zAF H; obtain ⟨⟨t410, t411⟩, A550, H⟩ := H; replace H : ((spec_ReadRow.f kj14 t409).bind fun bt414 => ((spec_DrawRowBytes.f kj14 l1).bind fun t418 => ((impl_RowBytes.f kj14 t418).bind fun bt421 => ((spec_RowBytes.f kj14 t418).bind fun bt423 => ((impl_AfterBeginning.f kj14 t418).bind fun bt425 => ((spec_AfterBeginning.f kj14 t418).bind fun bt428 => (if (t411 != bt414.2) = true then (laws_FnRows.j5 kj14 t409 t410 t411 true) else ((laws_sameValues.f kj14 t410 bt414.1).bind fun t431 => (if t431 = true then (if (bt421.2 != bt423.2) = true then (laws_FnRows.j5 kj14 t409 t410 t411 true) else (if bt421.1.toList = bt423.1.toList then (if (bt425.2.2 != bt428.2.2) = true then (laws_FnRows.j5 kj14 t409 t410 t411 true) else (if bt425.1.toList = bt428.1.toList then (laws_FnRows.j5 kj14 t409 t410 t411 (bt425.2.1.toList != bt428.2.1.toList)) else (laws_FnRows.j5 kj14 t409 t410 t411 true))) else (laws_FnRows.j5 kj14 t409 t410 t411 true))) else (laws_FnRows.j5 kj14 t409 t410 t411 true)))))))))) = some r := H; have A55 := zA A550; clear A550; replace H := zAF H; obtain ⟨⟨t414, t415⟩, A560, H⟩ := H; replace H : ((spec_DrawRowBytes.f kj14 l1).bind fun t418 => ((impl_RowBytes.f kj14 t418).bind fun bt421 => ((spec_RowBytes.f kj14 t418).bind fun bt423 => ((impl_AfterBeginning.f kj14 t418).bind fun bt425 => ((spec_AfterBeginning.f kj14 t418).bind fun bt428 => (if (t411 != t415) = true then (laws_FnRows.j5 kj14 t409 t410 t411 true) else ((laws_sameValues.f kj14 t410 t414).bind fun t431 => (if t431 = true then (if (bt421.2 != bt423.2) = true then (laws_FnRows.j5 kj14 t409 t410 t411 true) else (if bt421.1.toList = bt423.1.toList then (if (bt425.2.2 != bt428.2.2) = true then (laws_FnRows.j5 kj14 t409 t410 t411 true) else (if bt425.1.toList = bt428.1.toList then (laws_FnRows.j5 kj14 t409 t410 t411 (bt425.2.1.toList != bt428.2.1.toList)) else (laws_FnRows.j5 kj14 t409 t410 t411 true))) else (laws_FnRows.j5 kj14 t409 t410 t411 true))) else (laws_FnRows.j5 kj14 t409 t410 t411 true))))))))) = some r := H; have A56 := zA A560; clear A560; replace H := zAF H; obtain ⟨t418, A570, H⟩ := H; replace H : ((impl_RowBytes.f kj14 t418).bind fun bt421 => ((spec_RowBytes.f kj14 t418).bind fun bt423 => ((impl_AfterBeginning.f kj14 t418).bind fun bt425 => ((spec_AfterBeginning.f kj14 t418).bind fun bt428 => (if (t411 != t415) = true then (laws_FnRows.j5 kj14 t409 t410 t411 true) else ((laws_sameValues.f kj14 t410 t414).bind fun t431 => (if t431 = true then (if (bt421.2 != bt423.2) = true then (laws_FnRows.j5 kj14 t409 t410 t411 true) else (if bt421.1.toList = bt423.1.toList then (if (bt425.2.2 != bt428.2.2) = true then (laws_FnRows.j5 kj14 t409 t410 t411 true) else (if bt425.1.toList = bt428.1.toList then (laws_FnRows.j5 kj14 t409 t410 t411 (bt425.2.1.toList != bt428.2.1.toList)) else (laws_FnRows.j5 kj14 t409 t410 t411 true))) else (laws_FnRows.j5 kj14 t409 t410 t411 true))) else (laws_FnRows.j5 kj14 t409 t410 t411 true)))))))) = some r := H; have A57 := zA A570; clear A570; replace H := zAF H; obtain ⟨⟨t421, t422⟩, A580, H⟩ := H; replace H : ((spec_RowBytes.f kj14 t418).bind fun bt423 => ((impl_AfterBeginning.f kj14 t418).bind fun bt425 => ((spec_AfterBeginning.f kj14 t418).bind fun bt428 => (if (t411 != t415) = true then (laws_FnRows.j5 kj14 t409 t410 t411 true) else ((laws_sameValues.f kj14 t410 t414).bind fun t431 => (if t431 = true then (if (t422 != bt423.2) = true then (laws_FnRows.j5 kj14 t409 t410 t411 true) else (if t421.toList = bt423.1.toList then (if (bt425.2.2 != bt428.2.2) = true then (laws_FnRows.j5 kj14 t409 t410 t411 true) else (if bt425.1.toList = bt428.1.toList then (laws_FnRows.j5 kj14 t409 t410 t411 (bt425.2.1.toList != bt428.2.1.toList)) else (laws_FnRows.j5 kj14 t409 t410 t411 true))) else (laws_FnRows.j5 kj14 t409 t410 t411 true))) else (laws_FnRows.j5 kj14 t409 t410 t411 true))))))) = some r := H; have A58 := zA A580; clear A580; replace H := zAF H; obtain ⟨⟨t423, t424⟩, A590, H⟩ := H; replace H : ((impl_AfterBeginning.f kj14 t418).bind fun bt425 => ((spec_AfterBeginning.f kj14 t418).bind fun bt428 => (if (t411 != t415) = true then (laws_FnRows.j5 kj14 t409 t410 t411 true) else ((laws_sameValues.f kj14 t410 t414).bind fun t431 => (if t431 = true then (if (t422 != t424) = true then (laws_FnRows.j5 kj14 t409 t410 t411 true) else (if t421.toList = t423.toList then (if (bt425.2.2 != bt428.2.2) = true then (laws_FnRows.j5 kj14 t409 t410 t411 true) else (if bt425.1.toList = bt428.1.toList then (laws_FnRows.j5 kj14 t409 t410 t411 (bt425.2.1.toList != bt428.2.1.toList)) else (laws_FnRows.j5 kj14 t409 t410 t411 true))) else (laws_FnRows.j5 kj14 t409 t410 t411 true))) else (laws_FnRows.j5 kj14 t409 t410 t411 true)))))) = some r := H
       have A59 := zA A590; clear A590; replace H := zAF H; obtain ⟨⟨t425, t426, t427⟩, A600, H⟩ := H; replace H : ((spec_AfterBeginning.f kj14 t418).bind fun bt428 => (if (t411 != t415) = true then (laws_FnRows.j5 kj14 t409 t410 t411 true) else ((laws_sameValues.f kj14 t410 t414).bind fun t431 => (if t431 = true then (if (t422 != t424) = true then (laws_FnRows.j5 kj14 t409 t410 t411 true) else (if t421.toList = t423.toList then (if (t427 != bt428.2.2) = true then (laws_FnRows.j5 kj14 t409 t410 t411 true) else (if t425.toList = bt428.1.toList then (laws_FnRows.j5 kj14 t409 t410 t411 (t426.toList != bt428.2.1.toList)) else (laws_FnRows.j5 kj14 t409 t410 t411 true))) else (laws_FnRows.j5 kj14 t409 t410 t411 true))) else (laws_FnRows.j5 kj14 t409 t410 t411 true))))) = some r := H; have A60 := zA A600; clear A600; replace H := zAF H; obtain ⟨⟨t428, t429, t430⟩, A610, H⟩ := H; replace H : (if (t411 != t415) = true then (laws_FnRows.j5 kj14 t409 t410 t411 true) else ((laws_sameValues.f kj14 t410 t414).bind fun t431 => (if t431 = true then (if (t422 != t424) = true then (laws_FnRows.j5 kj14 t409 t410 t411 true) else (if t421.toList = t423.toList then (if (t427 != t430) = true then (laws_FnRows.j5 kj14 t409 t410 t411 true) else (if t425.toList = t428.toList then (laws_FnRows.j5 kj14 t409 t410 t411 (t426.toList != t429.toList)) else (laws_FnRows.j5 kj14 t409 t410 t411 true))) else (laws_FnRows.j5 kj14 t409 t410 t411 true))) else (laws_FnRows.j5 kj14 t409 t410 t411 true)))) = some r := H; have A61 := zA A610; clear A610; have HC62 := zA H; clear H; go_upto_region 34 with (first | ((with_reducible refine yB (f := 14) rfl ?_); refine goesL_ (some 170) rfl rfl Tryd.func14 (by kernel_rfl) rfl #[.slice A1 l1.length c1] rfl (by (try simp only [zAA, zAB, zAC]); first | done | rfl | (simp only [zZ, zY]; rfl)) ?_; (with_reducible refine (spec_DrawReadRow.calls kj14 _ _ l1 t409 _ ?side1 ?side2 A54.out).mono ?_); (case side1 => repeat (first | exact (Kd.C_below HR1.out HB.out) | (with_reducible refine zT ?_ _) | (with_reducible refine zU ?_ _) | (with_reducible refine zV ?_))); (case side2 => exact HC1.out); rintro e w63 ⟨rfl, hb⟩; refine ⟨_, rfl, ?_⟩; have n0_ := zA (zAD (by (with_reducible repeat first | exact HB.out | apply zH | apply zF | apply zG) <;> exact HB.out) hb); clear HB; have HB := n0_; clear n0_; (try clear hb)) | ((with_reducible refine yB (f := 8) rfl ?_); refine goesL_ (some 173) rfl rfl Tryd.func8 (by kernel_rfl) rfl #[.string t409] rfl (by (try simp only [zAA, zAB, zAC]); first | done | rfl) ?_; (with_reducible refine (impl_ReadRow.calls kj14 t409 t410 t411 _ A55.out).mono ?_); rintro e w64 ⟨v412, rfl, ho0, hb⟩; refine ⟨_, rfl, ?_⟩; have n0_ := zA (Kd.R_lower ho0 (zAE (by (with_reducible repeat first | exact HB.out | apply zH | apply zF | apply zG) <;> exact HB.out))); have n1_ := zA (zAD (by (with_reducible repeat first | exact HB.out | apply zH | apply zF | apply zG) <;> exact HB.out) hb); clear HB; have HO413 := n0_; have HB := n1_; clear n0_ n1_; (try clear hb); (try clear ho0)) | ((with_reducible refine yB (f := 15) rfl ?_); refine goesL_ (some 178) rfl rfl Tryd.func15 (by kernel_rfl) rfl #[.string t409] rfl (by (try simp only [zAA, zAB, zAC]); first | done | rfl) ?_; (with_reducible refine (spec_ReadRow.calls kj14 t409 t414 t415 _ A56.out).mono ?_); rintro e w65 ⟨v416, rfl, ho0, hb⟩; refine ⟨_, rfl, ?_⟩; have n0_ := zA (yJ (by (with_reducible repeat first | apply zQ | apply zR | apply zS); exact HO413.out) (Kd.R_base ho0) hb); have n1_ := zA (Kd.R_lower (yK ho0 (Kd.R_lt (by (with_reducible repeat first | apply zQ | apply zR | apply zS); exact HO413.out))) (zAE (by (with_reducible repeat first | exact HB.out | apply zH | apply zF | apply zG) <;> exact HB.out))); have n2_ := zA (zAD (by (with_reducible repeat first | exact HB.out | apply zH | apply zF | apply zG) <;> exact HB.out) hb); clear HO413; clear HB; have HO413 := n0_; have HO417 := n1_; have HB := n2_; clear n0_ n1_ n2_; (try clear hb); (try clear ho0)) | ((with_reducible refine yB (f := 16) rfl ?_); refine goesL_ (some 182) rfl rfl Tryd.func16 (by kernel_rfl) rfl #[.slice A1 l1.length c1] rfl (by (try simp only [zAA, zAB, zAC]); first | done | rfl | (simp only [zZ, zY]; rfl)) ?_; (with_reducible refine (spec_DrawRowBytes.calls kj14 _ _ l1 t418 _ ?side1 ?side2 A57.out).mono ?_); (case side1 => repeat (first | exact (Kd.C_below HR1.out HB.out) | (with_reducible refine zT ?_ _) | (with_reducible refine zU ?_ _) | (with_reducible refine zV ?_))); (case side2 => exact HC1.out); rintro e w66 ⟨v419, rfl, ho0, hb⟩; refine ⟨_, rfl, ?_⟩; have n0_ := zA (yJ (by (with_reducible repeat first | apply zQ | apply zR | apply zS); exact HO413.out) (Kd.R_base ho0) hb); have n1_ := zA (yJ (by (with_reducible repeat first | apply zQ | apply zR | apply zS); exact HO417.out) (Kd.R_base ho0) hb); have n2_ := zA (Kd.R_lower (yK (yK ho0 (Kd.R_lt (by (with_reducible repeat first | apply zQ | apply zR | apply zS); exact HO413.out))) (Kd.R_lt (by (with_reducible repeat first | apply zQ | apply zR | apply zS); exact HO417.out))) (zAE (by (with_reducible repeat first | exact HB.out | apply zH | apply zF | apply zG) <;> exact HB.out))); have n3_ := zA (zAD (by (with_reducible repeat first | exact HB.out | apply zH | apply zF | apply zG) <;> exact HB.out) hb); clear HO413; clear HO417; clear HB; have HO413 := n0_; have HO417 := n1_; have HO420 := n2_; have HB := n3_; clear n0_ n1_ n2_ n3_; (try clear hb); (try clear ho0); obtain ⟨Ao67, co67, eo67⟩ := Kd.R_slice HO420.out; subst eo67) | ((with_reducible refine yB (f := 7) rfl ?_); refine goesL_ (some 185) rfl rfl Tryd.func7 (by kernel_rfl) rfl #[.slice Ao67 t418.length co67] rfl (by (try simp only [zAA, zAB, zAC]); first | done | rfl | (simp only [zZ, zY]; rfl)) ?_; (with_reducible refine (impl_RowBytes.calls kj14 _ _ t418 t421 t422 _ ?side1 ?side2 A58.out).mono ?_); (case side1 => repeat (first | exact (yD HO420.out).2.2 | (with_reducible refine zT ?_ _) | (with_reducible refine zU ?_ _) | (with_reducible refine zV ?_))); (case side2 => exact (yD HO420.out).2.1); rintro e w68 ⟨rfl, hb⟩; refine ⟨_, rfl, ?_⟩; have n0_ := zA (Kd.R_below (by (with_reducible repeat first | apply zQ | apply zR | apply zS); exact HO413.out) hb); have n1_ := zA (Kd.R_below (by (with_reducible repeat first | apply zQ | apply zR | apply zS); exact HO417.out) hb); have n2_ := zA (Kd.R_below (by (with_reducible repeat first | apply zQ | apply zR | apply zS); exact HO420.out) hb); have n3_ := zA (zAD (by (with_reducible repeat first | exact HB.out | apply zH | apply zF | apply zG) <;> exact HB.out) hb); clear HO413; clear HO417; clear HO420; clear HB; have HO413 := n0_; have HO417 := n1_; have HO420 := n2_; have HB := n3_; clear n0_ n1_ n2_ n3_; (try clear hb)) | ((with_reducible refine yB (f := 17) rfl ?_); refine goesL_ (some 190) rfl rfl Tryd.func17 (by kernel_rfl) rfl #[.slice Ao67 t418.length co67] rfl (by (try simp only [zAA, zAB, zAC]); first | done | rfl | (simp only [zZ, zY]; rfl)) ?_; (with_reducible refine (spec_RowBytes.calls kj14 _ _ t418 t423 t424 _ ?side1 ?side2 A59.out).mono ?_); (case side1 => repeat (first | exact (yD HO420.out).2.2 | (with_reducible refine zT ?_ _) | (with_reducible refine zU ?_ _) | (with_reducible refine zV ?_))); (case side2 => exact (yD HO420.out).2.1); rintro e w69 ⟨rfl, hb⟩; refine ⟨_, rfl, ?_⟩; have n0_ := zA (Kd.R_below (by (with_reducible repeat first | apply zQ | apply zR | apply zS); exact HO413.out) hb); have n1_ := zA (Kd.R_below (by (with_reducible repeat first | apply zQ | apply zR | apply zS); exact HO417.out) hb); have n2_ := zA (Kd.R_below (by (with_reducible repeat first | apply zQ | apply zR | apply zS); exact HO420.out) hb); have n3_ := zA (zAD (by (with_reducible repeat first | exact HB.out | apply zH | apply zF | apply zG) <;> exact HB.out) hb); clear HO413; clear HO417; clear HO420; clear HB; have HO413 := n0_; have HO417 := n1_; have HO420 := n2_; have HB := n3_; clear n0_ n1_ n2_ n3_; (try clear hb)) | ((with_reducible refine yB (f := 12) rfl ?_); refine goesL_ (some 195) rfl rfl Tryd.func12 (by kernel_rfl) rfl #[.slice Ao67 t418.length co67] rfl (by (try simp only [zAA, zAB, zAC]); first | done | rfl | (simp only [zZ, zY]; rfl)) ?_; (with_reducible refine (impl_AfterBeginning.calls kj14 _ _ t418 t425 t426 t427 _ ?side1 ?side2 A60.out).mono ?_); (case side1 => repeat (first | exact (yD HO420.out).2.2 | (with_reducible refine zT ?_ _) | (with_reducible refine zU ?_ _) | (with_reducible refine zV ?_))); (case side2 => exact (yD HO420.out).2.1); rintro e w70 ⟨rfl, hb⟩; refine ⟨_, rfl, ?_⟩; have n0_ := zA (Kd.R_below (by (with_reducible repeat first | apply zQ | apply zR | apply zS); exact HO413.out) hb); have n1_ := zA (Kd.R_below (by (with_reducible repeat first | apply zQ | apply zR | apply zS); exact HO417.out) hb); have n2_ := zA (Kd.R_below (by (with_reducible repeat first | apply zQ | apply zR | apply zS); exact HO420.out) hb); have n3_ := zA (zAD (by (with_reducible repeat first | exact HB.out | apply zH | apply zF | apply zG) <;> exact HB.out) hb); clear HO413; clear HO417; clear HO420; clear HB; have HO413 := n0_; have HO417 := n1_; have HO420 := n2_; have HB := n3_; clear n0_ n1_ n2_ n3_; (try clear hb)) | ((with_reducible refine yB (f := 18) rfl ?_); refine goesL_ (some 201) rfl rfl Tryd.func18 (by kernel_rfl) rfl #[.slice Ao67 t418.length co67] rfl (by (try simp only [zAA, zAB, zAC]); first | done | rfl | (simp only [zZ, zY]; rfl)) ?_; (with_reducible refine (spec_AfterBeginning.calls kj14 _ _ t418 t428 t429 t430 _ ?side1 ?side2 A61.out).mono ?_); (case side1 => repeat (first | exact (yD HO420.out).2.2 | (with_reducible refine zT ?_ _) | (with_reducible refine zU ?_ _) | (with_reducible refine zV ?_))); (case side2 => exact (yD HO420.out).2.1); rintro e w71 ⟨rfl, hb⟩; refine ⟨_, rfl, ?_⟩; have n0_ := zA (Kd.R_below (by (with_reducible repeat first | apply zQ | apply zR | apply zS); exact HO413.out) hb); have n1_ := zA (Kd.R_below (by (with_reducible repeat first | apply zQ | apply zR | apply zS); exact HO417.out) hb); have n2_ := zA (Kd.R_below (by (with_reducible repeat first | apply zQ | apply zR | apply zS); exact HO420.out) hb); have n3_ := zA (zAD (by (with_reducible repeat first | exact HB.out | apply zH | apply zF | apply zG) <;> exact HB.out) hb); clear HO413; clear HO417; clear HO420; clear HB; have HO413 := n0_; have HO417 := n1_; have HO420 := n2_; have HB := n3_; clear n0_ n1_ n2_ n3_; (try clear hb)))
       (try simp only [Act.put, zC, zD, zE]); go_cut [238] (fun v238 wc => ∃ (kq : Nat) (x238_61 : Bool), v238 = .bool x238_61 ∧ Aside0 (laws_FnRows.j5 kq t409 t410 t411 x238_61 = some r) ∧ Aside0 (kq ≤ kj14) ∧ Aside0 (Kd.R k39 39 wc w.heap.size (fun _ => True) v412 t410) ∧ Aside0 (Below w.heap.size w wc))
       case first =>
        have H := HC62.out; clear HC62
        by_cases c72 : (t411 != t415) = true
        ·rw [if_pos c72] at H
         have c72b0 : (t411 != t415) = true := c72; (try (have c72b1 : decide (t411 = t415) = false := by simpa using c72)); (try (have c72b2 : (t411 == t415) = false := by simpa using c72)); (try (have c72b3 : ¬ (t411 = t415) := by simpa using c72)); clear c72; (first | rw [c72b0] | (simp only [i64_w, i32_w]; rw [c72b0]) | skip)
         as_aux_lemma =>
          exfalso; revert H; generalize kj14 = q_; intro H; cases q_ with
          | zero => exact absurd H (by simp [laws_FnRows.j5])
          | succ q_ => simp only [laws_FnRows.j5] at H; exact absurd ((Option.some.inj (show some false = some _ from H)).trans hr_.out) (by decide)
        ·rw [if_neg c72] at H
         have c72b0 : (t411 != t415) = false := by simpa using c72
         (try (have c72b1 : decide (t411 = t415) = true := by simpa using c72)); (try (have c72b2 : (t411 == t415) = true := by simpa using c72)); clear c72; (first | rw [c72b0] | (simp only [i64_w, i32_w]; rw [c72b0]) | skip); replace H := zAF H; obtain ⟨t431, A730, H⟩ := H; replace H : (if t431 = true then (if (t422 != t424) = true then (laws_FnRows.j5 kj14 t409 t410 t411 true) else (if t421.toList = t423.toList then (if (t427 != t430) = true then (laws_FnRows.j5 kj14 t409 t410 t411 true) else (if t425.toList = t428.toList then (laws_FnRows.j5 kj14 t409 t410 t411 (t426.toList != t429.toList)) else (laws_FnRows.j5 kj14 t409 t410 t411 true))) else (laws_FnRows.j5 kj14 t409 t410 t411 true))) else (laws_FnRows.j5 kj14 t409 t410 t411 true)) = some r := H; have A73 := zA A730; clear A730
         by_cases c74 : t431 = true
         ·subst c74
          have H1 : (if (t422 != t424) = true then (laws_FnRows.j5 kj14 t409 t410 t411 true) else (if t421.toList = t423.toList then (if (t427 != t430) = true then (laws_FnRows.j5 kj14 t409 t410 t411 true) else (if t425.toList = t428.toList then (laws_FnRows.j5 kj14 t409 t410 t411 (t426.toList != t429.toList)) else (laws_FnRows.j5 kj14 t409 t410 t411 true))) else (laws_FnRows.j5 kj14 t409 t410 t411 true))) = some r := by rw [if_pos rfl] at H; exact H
          clear H; have H := H1; clear H1
          by_cases c75 : (t422 != t424) = true
          ·rw [if_pos c75] at H
           have c75b0 : (t422 != t424) = true := c75; (try (have c75b1 : decide (t422 = t424) = false := by simpa using c75)); (try (have c75b2 : (t422 == t424) = false := by simpa using c75)); (try (have c75b3 : ¬ (t422 = t424) := by simpa using c75)); clear c75
           as_aux_lemma =>
            exfalso; revert H; generalize kj14 = q_; intro H; cases q_ with
            | zero => exact absurd H (by simp [laws_FnRows.j5])
            | succ q_ => simp only [laws_FnRows.j5] at H; exact absurd ((Option.some.inj (show some false = some _ from H)).trans hr_.out) (by decide)
          ·rw [if_neg c75] at H
           have c75b0 : (t422 != t424) = false := by simpa using c75
           (try (have c75b1 : decide (t422 = t424) = true := by simpa using c75)); (try (have c75b2 : (t422 == t424) = true := by simpa using c75)); clear c75
           by_cases c76 : t421.toList = t423.toList
           ·rw [if_pos c76] at H
            have c76b0 : (t421.toList == t423.toList) = true := beq_iff_eq.mpr c76; have c76b1 : (t421.toList != t423.toList) = false := bne_eq_false_iff_eq.mpr c76; clear c76
            by_cases c77 : (t427 != t430) = true
            ·rw [if_pos c77] at H
             have c77b0 : (t427 != t430) = true := c77; (try (have c77b1 : decide (t427 = t430) = false := by simpa using c77)); (try (have c77b2 : (t427 == t430) = false := by simpa using c77)); (try (have c77b3 : ¬ (t427 = t430) := by simpa using c77)); clear c77
             as_aux_lemma =>
              exfalso; revert H; generalize kj14 = q_; intro H; cases q_ with
              | zero => exact absurd H (by simp [laws_FnRows.j5])
              | succ q_ => simp only [laws_FnRows.j5] at H; exact absurd ((Option.some.inj (show some false = some _ from H)).trans hr_.out) (by decide)
            ·rw [if_neg c77] at H
             have c77b0 : (t427 != t430) = false := by simpa using c77
             (try (have c77b1 : decide (t427 = t430) = true := by simpa using c77)); (try (have c77b2 : (t427 == t430) = true := by simpa using c77)); clear c77
             by_cases c78 : t425.toList = t428.toList
             ·rw [if_pos c78] at H
              have c78b0 : (t425.toList == t428.toList) = true := beq_iff_eq.mpr c78; have c78b1 : (t425.toList != t428.toList) = false := bne_eq_false_iff_eq.mpr c78; clear c78
              as_aux_lemma =>
               have H' := zA H; clear H; obtain ⟨Ao79, co79, eo79⟩ := Kd.R_slice HO413.out; subst eo79; obtain ⟨Ao80, co80, eo80⟩ := Kd.R_slice HO417.out; subst eo80; go_wp2_with (first | (go_at_call 10; (with_reducible refine (laws_sameValues.calls kj14 _ _ t410 _ _ t414 true _ ?side1 ?side2 ?side3 ?side4 A73.out).mono ?_); (case side1 => repeat (first | exact (yD HO413.out).2.2 | (with_reducible refine zT ?_ _) | (with_reducible refine zU ?_ _) | (with_reducible refine zV ?_))); (case side2 => exact (yD HO413.out).2.1); (case side3 => repeat (first | exact (yD HO417.out).2.2 | (with_reducible refine zT ?_ _) | (with_reducible refine zU ?_ _) | (with_reducible refine zV ?_))); (case side4 => exact (yD HO417.out).2.1); rintro e w' ⟨rfl, ⟨nd, rfl⟩⟩)); go_meet
               case rel => exact ⟨_, ((t426.toList != t429.toList)), (by first | rfl | (simp; done) | (simp [*]; done) | (simp [bne]; done)), H', ⟨by have := HJ6.out; have := HJ14.out; first | omega | exact Nat.le_refl _⟩, ⟨by (with_reducible repeat first | apply zQ | apply zR | apply zS); exact yC HO413.out (fun _ hk => trivial)⟩, ⟨by (with_reducible repeat first | exact HB.out | apply zH | apply zF | apply zG) <;> exact HB.out⟩⟩
             ·rw [if_neg c78] at H
              have c78b0 : (t425.toList == t428.toList) = false := beq_eq_false_iff_ne.mpr c78; have c78b1 : (t425.toList != t428.toList) = true := bne_iff_ne.mpr c78
              as_aux_lemma =>
               exfalso; revert H; generalize kj14 = q_; intro H; cases q_ with
               | zero => exact absurd H (by simp [laws_FnRows.j5])
               | succ q_ => simp only [laws_FnRows.j5] at H; exact absurd ((Option.some.inj (show some false = some _ from H)).trans hr_.out) (by decide)
           ·rw [if_neg c76] at H
            have c76b0 : (t421.toList == t423.toList) = false := beq_eq_false_iff_ne.mpr c76; have c76b1 : (t421.toList != t423.toList) = true := bne_iff_ne.mpr c76
            as_aux_lemma =>
             exfalso; revert H; generalize kj14 = q_; intro H; cases q_ with
             | zero => exact absurd H (by simp [laws_FnRows.j5])
             | succ q_ => simp only [laws_FnRows.j5] at H; exact absurd ((Option.some.inj (show some false = some _ from H)).trans hr_.out) (by decide)
         ·replace c74 := Bool.eq_false_iff.mpr c74
          subst c74; have H1 : (laws_FnRows.j5 kj14 t409 t410 t411 true) = some r := by rw [if_neg (show ¬ (false = true) by decide)] at H; exact H
          clear H; have H := H1; clear H1
          as_aux_lemma =>
           exfalso; revert H; generalize kj14 = q_; intro H; cases q_ with
           | zero => exact absurd H (by simp [laws_FnRows.j5])
           | succ q_ => simp only [laws_FnRows.j5] at H; exact absurd ((Option.some.inj (show some false = some _ from H)).trans hr_.out) (by decide)
       case rest =>
        clear HC62
        try clear c1
        try clear c2
        try clear p2
        try clear c3
        try clear c3b0
        try clear q3
        try clear c4
        try clear p4
        try clear q4
        try clear hx4
        try clear c5
        try clear c6
        try clear p6
        try clear c7
        try clear c8
        try clear c11
        try clear c12
        try clear c13
        try clear c13b0
        try clear c13b1
        try clear c13b2
        try clear c14
        try clear c15
        try clear c16
        try clear c17
        try clear c18
        try clear c24
        try clear c25
        try clear c27
        try clear c27b0
        try clear c27b1
        try clear c28
        try clear c31
        try clear c33
        try clear c33b0
        try clear c33b1
        try clear c35
        try clear c35b0
        try clear c35b1
        try clear c36
        try clear c36b0
        try clear c36b1
        try clear q38
        try clear p40
        try clear q40
        try clear hx40
        try clear c41
        try clear c42
        try clear c43
        try clear c43b0
        try clear c44
        try clear c44b0
        try clear c45
        try clear c45b0
        try clear c47
        try clear c50
        try clear c51
        try clear c51b0
        try clear c52
        try clear c52b0
        try clear c52b1
        try clear c52b2
        try clear c53
        try clear c53b0
        try clear c53b1
        try clear c53b2
        try clear p64
        try clear c72
        try clear c72b0
        try clear c72b1
        try clear c72b2
        try clear c74
        try clear c75
        try clear c75b0
        try clear c75b1
        try clear c75b2
        try clear c76
        try clear c76b0
        try clear c76b1
        try clear c77
        try clear c77b0
        try clear c77b1
        try clear c77b2
        try clear c78
        try clear c78b0
        try clear c78b1
        try clear hx405_0
        try clear hx405_1
        try clear hx405_2
        try clear hx406_0
        try clear hx406_1
        try clear hx406_2
        try clear p2
        try clear p4
        try clear p40
        try clear p405
        try clear p406
        try clear p6
        try clear q3
        try clear q38
        try clear q4
        try clear q40
        try clear q405
        try clear q406
        obtain ⟨kq, x238_61, rfl, HA, HJ61, HO_26, HB⟩ := hcut
        cases kq with
        | zero => exact absurd HA.out (by simp [laws_FnRows.j5])
        | succ kj61 =>
         have H := HA.out; clear HA; simp only [laws_FnRows.j5] at H
         by_cases c81 : x238_61 = true
         ·subst c81
          have H1 : (some false) = some r := by rw [if_pos rfl] at H; exact H
          clear H; have H := H1; clear H1
          as_aux_lemma =>
           exact absurd ((Option.some.inj H).trans hr_.out) (by decide)
         ·replace c81 := Bool.eq_false_iff.mpr c81
          subst c81; have H1 : (if t411 = true then ((impl_RowBytes.f kj61 t410).bind fun bt432 => (if bt432.2 = true then (some (bt432.1.toList == t409.toList)) else (some false))) else (some true)) = some r := by rw [if_neg (show ¬ (false = true) by decide)] at H; exact H
          clear H; have H := H1; clear H1
          by_cases c82 : t411 = true
          ·subst c82
           have H1 : ((impl_RowBytes.f kj61 t410).bind fun bt432 => (if bt432.2 = true then (some (bt432.1.toList == t409.toList)) else (some false))) = some r := by rw [if_pos rfl] at H; exact H
           clear H; have H := H1; clear H1; replace H := zAF H; obtain ⟨⟨t432, t433⟩, A830, H⟩ := H; replace H : (if t433 = true then (some (t432.toList == t409.toList)) else (some false)) = some r := H; have A83 := zA A830; clear A830
           by_cases c84 : t433 = true
           ·subst c84
            have H1 : (some (t432.toList == t409.toList)) = some r := by rw [if_pos rfl] at H; exact H
            clear H; have H := H1; clear H1
            as_aux_lemma =>
             obtain rfl := Option.some.inj H; obtain ⟨Ao85, co85, eo85⟩ := Kd.R_slice HO_26.out; subst eo85; go_wp2_with (first | ((with_reducible refine yB (f := 7) rfl ?_); refine goesL_ (some 242) rfl rfl Tryd.func7 (by kernel_rfl) rfl #[.slice Ao85 t410.length co85] rfl (by (try simp only [zAA, zAB, zAC]); first | done | rfl | (simp only [zZ, zY]; rfl)) ?_; (with_reducible refine (impl_RowBytes.calls kj61 _ _ t410 t432 true _ ?side1 ?side2 A83.out).mono ?_); (case side1 => repeat (first | exact (yD HO_26.out).2.2 | (with_reducible refine zT ?_ _) | (with_reducible refine zU ?_ _) | (with_reducible refine zV ?_))); (case side2 => exact (yD HO_26.out).2.1); rintro e w86 ⟨rfl, hb⟩; refine ⟨_, rfl, ?_⟩; have n0_ := zA (Kd.R_below (by (with_reducible repeat first | apply zQ | apply zR | apply zS); exact HO_26.out) hb); have n1_ := zA (zAD (by (with_reducible repeat first | exact HB.out | apply zH | apply zF | apply zG) <;> exact HB.out) hb); clear HO_26; clear HB; have HO_26 := n0_; have HB := n1_; clear n0_ n1_; (try clear hb))); go_ret; exact ⟨by first | rfl | (simp <;> rfl) | (simp [*] <;> rfl), by (with_reducible repeat first | exact HB.out | apply zH | apply zF | apply zG) <;> exact HB.out⟩
           ·replace c84 := Bool.eq_false_iff.mpr c84
            subst c84; have H1 : (some false) = some r := by rw [if_neg (show ¬ (false = true) by decide)] at H; exact H
            clear H; have H := H1; clear H1
            as_aux_lemma =>
             exact absurd ((Option.some.inj H).trans hr_.out) (by decide)
          ·replace c82 := Bool.eq_false_iff.mpr c82
           subst c82; have H1 : (some true) = some r := by rw [if_neg (show ¬ (false = true) by decide)] at H; exact H
           clear H; have H := H1; clear H1
           as_aux_lemma =>
            obtain rfl := Option.some.inj H; go_wp2; go_ret; exact ⟨by first | rfl | (simp <;> rfl) | (simp [*] <;> rfl), by (with_reducible repeat first | exact HB.out | apply zH | apply zF | apply zG) <;> exact HB.out⟩
end Go.Proofs.YtmfipefpmjcddaaDoor.PA
end
section
namespace Go.Proofs.YtmfipefpmjcddaaDoor.PB
open Go.RowKit Go.Proofs.YtmfipefpmjcddaaDoorW.PrintWords Go.Proofs.YtmfipefpmjcddaaDoorW.PrintLast Go.Proofs.YtmfipefpmjcddaaDoorW.PrintMore
set_option linter.unusedVariables false
theorem ev_pos {α : Type} {c : Prop} [Decidable c] {f g : Nat → Option α} {r : α} (hc : c) (h : Ev f r) : Ev (fun k => if c then f k else g k) r := by
 simp only [if_pos hc]; exact h
theorem ev_neg {α : Type} {c : Prop} [Decidable c] {f g : Nat → Option α} {r : α} (hc : ¬ c) (h : Ev g r) : Ev (fun k => if c then f k else g k) r := by
 simp only [if_neg hc]; exact h
theorem ev_bind {α β : Type} {g : Nat → Option α} {f : Nat → α → Option β} {a : α} {r : β} (h : Ev g a) (k : Ev (fun n => f n a) r) : Ev (fun n => (g n).bind (f n)) r := Ev.bind h k
theorem ev_const {α β : Type} {o : Option α} {f : Nat → α → Option β} {a : α} {r : β} (h : o = some a) (k : Ev (fun n => f n a) r) : Ev (fun n => o.bind (f n)) r := by
 subst h; exact k
theorem ev_of_eq {α : Type} {o : Option α} {r : α} (h : o = some r) : Ev (fun _ => o) r := by subst h; exact Ev.now r
theorem ev_eq {α : Type} {f : Nat → Option α} {r r' : α} (h : Ev f r) (e : r = r') : Ev f r' := e ▸ h
theorem w64 {x : Int} (h0 : -9223372036854775808 ≤ x) (h1 : x ≤ 9223372036854775807) : wrap64 x = x := by
 unfold wrap64; omega
theorem ba_ext {a b : ByteArray} (h : a.toList = b.toList) : a = b := by
 rw [ByteArray.toList_eq, ByteArray.toList_eq] at h
 have h' : a.data = b.data := Array.toList_inj.mp h
 cases a; cases b; simp_all
theorem size_toList (s : ByteArray) : s.toList.length = s.size := by rw [ByteArray.toList_eq]; exact data_length s
theorem bt_get (s : ByteArray) (i : Nat) (h : i < s.size) : bt s (i : Int) = ((s.toList.getD i 0).toNat : Int) := by
 rw [ByteArray.toList_eq]
 unfold bt
 rw [dif_pos (by simpa using h)]
 have h' : i < s.data.toList.length := by rw [data_length]; exact h
 simp [List.getD_eq_getElem?_getD, List.getElem?_eq_getElem h']
 rfl
end Go.Proofs.YtmfipefpmjcddaaDoor.PB
end
section
namespace Go.Proofs.YtmfipefpmjcddaaDoor.PD
open Go.RowKit Go.Proofs.YtmfipefpmjcddaaDoorW.PrintWords Go.Proofs.YtmfipefpmjcddaaDoorW.PrintLast Go.Proofs.YtmfipefpmjcddaaDoorW.PrintMore Go.Proofs.YtmfipefpmjcddaaDoor.PB Go.Proofs.YtmfipefpmjcddaaDoor.PA
set_option linter.unusedVariables false
theorem drop_at (l : List UInt8) (i : Nat) (h : i < l.length) : l.drop i = l.getD i 0 :: l.drop (i + 1) := by
 rw [List.drop_eq_getElem_cons h]; simp [List.getD_eq_getElem?_getD, List.getElem?_eq_getElem h]
def one (n : Int) : ByteArray := strOfNums [n % 256]
theorem one_size (n : Int) : (one n).size = 1 := by unfold one; rw [strOfNums_size]; rfl
theorem oneI (n : Int) : impl_oneByte.f n = some (one n) := rfl
end Go.Proofs.YtmfipefpmjcddaaDoor.PD
end
section
namespace Go.Proofs.YtmfipefpmjcddaaDoor.PK
open Go.RowKit Go.Proofs.YtmfipefpmjcddaaDoorW.PrintWords Go.Proofs.YtmfipefpmjcddaaDoorW.PrintLast Go.Proofs.YtmfipefpmjcddaaDoorW.PrintMore Go.Proofs.YtmfipefpmjcddaaDoor.PB Go.Proofs.YtmfipefpmjcddaaDoor.PD Go.Proofs.YtmfipefpmjcddaaDoor.PA
set_option linter.unusedVariables false
theorem app_size (a b : ByteArray) : (a ++ b).size = a.size + b.size := ByteArray.size_append
end Go.Proofs.YtmfipefpmjcddaaDoor.PK
end
section
namespace Go.Proofs.YtmfipefpmjcddaaDoor.PL
open Go.RowKit Go.Proofs.YtmfipefpmjcddaaDoorW.PrintWords Go.Proofs.YtmfipefpmjcddaaDoorW.PrintLast Go.Proofs.YtmfipefpmjcddaaDoorW.PrintMore Go.Proofs.YtmfipefpmjcddaaDoor.PB Go.Proofs.YtmfipefpmjcddaaDoor.PA
set_option linter.unusedVariables false
theorem rdOf_at {α : Type} (d : α) (l : List α) (i : Nat) (h : i < l.length) : rdOf d l (i : Int) = l[i] := by
 simp [rdOf, List.getD_eq_getElem?_getD, List.getElem?_eq_getElem h]
end Go.Proofs.YtmfipefpmjcddaaDoor.PL
end
section
namespace Go.Proofs.YtmfipefpmjcddaaDoor.PS

end Go.Proofs.YtmfipefpmjcddaaDoor.PS
end
section
namespace Go.Proofs.YtmfipefpmjcddaaDoor.PT
open Go.RowKit Go.Proofs.YtmfipefpmjcddaaDoorW.PrintWords Go.Proofs.YtmfipefpmjcddaaDoorW.PrintLast Go.Proofs.YtmfipefpmjcddaaDoorW.PrintMore Go.Proofs.YtmfipefpmjcddaaDoor.PB Go.Proofs.YtmfipefpmjcddaaDoor.PD Go.Proofs.YtmfipefpmjcddaaDoor.PK Go.Proofs.YtmfipefpmjcddaaDoor.PL Go.Proofs.YtmfipefpmjcddaaDoor.PS Go.Proofs.YtmfipefpmjcddaaDoor.PA
set_option linter.unusedVariables false
theorem inS (a b c : Int) : spec_l1In.f a b c = some (decide (b ≤ a ∧ a ≤ c)) := by
 unfold spec_l1In.f
 by_cases h : a ≥ b
 ·rw [if_pos h]; simp [show b ≤ a from h]
 ·rw [if_neg h]; simp [show ¬ b ≤ a from h]
theorem inI (a b c : Int) : impl_within.f a b c = some (decide (b ≤ a ∧ a ≤ c)) := by
 unfold impl_within.f
 by_cases h : a ≥ b
 ·rw [if_pos h]; simp [show b ≤ a from h]
 ·rw [if_neg h]; simp [show ¬ b ≤ a from h]
end Go.Proofs.YtmfipefpmjcddaaDoor.PT
end
section
namespace Go.Proofs.YtmfipefpmjcddaaDoor.PU
open Go.RowKit Go.Proofs.YtmfipefpmjcddaaDoorW.PrintWords Go.Proofs.YtmfipefpmjcddaaDoorW.PrintLast Go.Proofs.YtmfipefpmjcddaaDoorW.PrintMore Go.Proofs.YtmfipefpmjcddaaDoor.PB Go.Proofs.YtmfipefpmjcddaaDoor.PD Go.Proofs.YtmfipefpmjcddaaDoor.PK Go.Proofs.YtmfipefpmjcddaaDoor.PL Go.Proofs.YtmfipefpmjcddaaDoor.PS Go.Proofs.YtmfipefpmjcddaaDoor.PT Go.Proofs.YtmfipefpmjcddaaDoor.PA
set_option linter.unusedVariables false
theorem idx_any {α : Type} (l : List α) (rf : List α → Int → α) (hrf : ∀ i (h : i < l.length), rf l (i : Int) = l[i]) (L0 : Nat → List α → Int → Int → Option Int) (cl : Nat → α → Option Bool) (p : α → Bool)
  (hstep : ∀ k n i, L0 (k + 1) l n i = if i < n then (if 0 ≤ i then (if i < (l.length : Int) then ((cl k (rf l i)).bind fun t => if t = true then some i else L0 k l n (wrap64 (i + 1))) else none) else none) else some (-1))
  (hp : ∀ x ∈ l, Ev (fun k => cl k x) (p x)) (hl : l.length ≤ 4000000000000000000) : ∃ r, Ev (fun k => L0 k l (l.length : Int) 0) r ∧ decide (r ≥ 0) = l.any p := by
 have key : ∀ (d i : Nat), i + d = l.length → ∃ r, Ev (fun k => L0 k l (l.length : Int) (i : Int)) r ∧ decide (r ≥ 0) = (l.drop i).any p := by
  intro d
  induction d with
  | zero =>
   intro i hi
   refine ⟨-1, Ev.step (f := fun _ => some (-1)) (fun k => ?_) (Ev.now _), ?_⟩
   ·rw [hstep, if_neg (by omega)]
   ·rw [List.drop_eq_nil_of_le (by omega)]; rfl
  | succ d ih =>
   intro i hi
   have hlt : i < l.length := by omega
   have hpx := hp _ (List.getElem_mem hlt)
   rw [List.drop_eq_getElem_cons hlt, List.any_cons]
   have st : ∀ k, L0 (k + 1) l (l.length : Int) (i : Int) = (cl k l[i]).bind fun t => if t = true then some (i : Int) else L0 k l (l.length : Int) ((i + 1 : Nat) : Int) := by
    intro k
    rw [hstep, if_pos (by omega), if_pos (by omega), if_pos (by omega), hrf i hlt, w64 (x := (i : Int) + 1) (by omega) (by omega)]
    rfl
   cases hb : p l[i] with
   | true =>
    rw [hb] at hpx
    refine ⟨(i : Int), Ev.step (f := fun k => (cl k l[i]).bind fun t => if t = true then some (i : Int) else L0 k l (l.length : Int) ((i + 1 : Nat) : Int)) st (ev_bind hpx (ev_pos rfl (Ev.now _))), ?_⟩
    simp only [Bool.true_or]
    exact decide_eq_true (by omega)
   | false =>
    rw [hb] at hpx
    obtain ⟨r, hr, e⟩ := ih (i + 1) (by omega)
    refine ⟨r, Ev.step (f := fun k => (cl k l[i]).bind fun t => if t = true then some (i : Int) else L0 k l (l.length : Int) ((i + 1 : Nat) : Int)) st (ev_bind hpx (ev_neg (by simp) hr)), ?_⟩
    rw [Bool.false_or]; exact e
 obtain ⟨r, hr, e⟩ := key l.length 0 (by omega)
 exact ⟨r, hr, by rw [e, List.drop_zero]⟩
end Go.Proofs.YtmfipefpmjcddaaDoor.PU
end
section
namespace Go.Proofs.YtmfipefpmjcddaaDoor.PG
open Go.RowKit Go.Proofs.YtmfipefpmjcddaaDoorW.PrintWords Go.Proofs.YtmfipefpmjcddaaDoorW.PrintLast Go.Proofs.YtmfipefpmjcddaaDoorW.PrintMore Go.Proofs.YtmfipefpmjcddaaDoor.PB Go.Proofs.YtmfipefpmjcddaaDoor.PL
set_option linter.unusedVariables false
theorem loop_up {β : Type} {r : β} (n : Nat) (S : Nat → Nat → Option β) (hend : Ev (S n) r) (hround : ∀ i, i < n → Ev (S (i + 1)) r → Ev (S i) r) : Ev (S 0) r := by
 have key : ∀ d i, i + d = n → Ev (S i) r := by
  intro d
  induction d with
  | zero => intro i hi; rw [show i = n by omega]; exact hend
  | succ d ih => intro i hi; exact hround i (by omega) (ih (i + 1) (by omega))
 exact key n 0 (by omega)
end Go.Proofs.YtmfipefpmjcddaaDoor.PG
end
section
namespace Go.Proofs.YtmfipefpmjcddaaDoor.PQ

end Go.Proofs.YtmfipefpmjcddaaDoor.PQ
end
section
namespace Go.Proofs.YtmfipefpmjcddaaDoor.PV

end Go.Proofs.YtmfipefpmjcddaaDoor.PV
end
section
namespace Go.Proofs.YtmfipefpmjcddaaDoor.PW
open Go.RowKit Go.Proofs.YtmfipefpmjcddaaDoorW.PrintWords Go.Proofs.YtmfipefpmjcddaaDoorW.PrintLast Go.Proofs.YtmfipefpmjcddaaDoorW.PrintMore Go.Proofs.YtmfipefpmjcddaaDoor.PB Go.Proofs.YtmfipefpmjcddaaDoor.PD Go.Proofs.YtmfipefpmjcddaaDoor.PK Go.Proofs.YtmfipefpmjcddaaDoor.PL Go.Proofs.YtmfipefpmjcddaaDoor.PS Go.Proofs.YtmfipefpmjcddaaDoor.PT Go.Proofs.YtmfipefpmjcddaaDoor.PU Go.Proofs.YtmfipefpmjcddaaDoor.PG Go.Proofs.YtmfipefpmjcddaaDoor.PQ Go.Proofs.YtmfipefpmjcddaaDoor.PV Go.Proofs.YtmfipefpmjcddaaDoor.PA
set_option linter.unusedVariables false
theorem loop_yes {β : Type} (n : Nat) (S : Nat → Nat → Option β) (Q : Nat → Prop) (b : β) (hround : ∀ r i, i < n → Q i → Ev (S (i + 1)) r → Ev (S i) r) (hend : Ev (S n) b) (hq : ∀ i, i < n → Q i) : Ev (S 0) b :=
 loop_up n S hend (fun i hi h => hround b i hi (hq i hi) h)
theorem loop_no {β : Type} (n : Nat) (S : Nat → Nat → Option β) (Q : Nat → Prop) (no : β) (hround : ∀ r i, i < n → Q i → Ev (S (i + 1)) r → Ev (S i) r) (hno : ∀ i, i < n → ¬ Q i → Ev (S i) no) (hq : ¬ ∀ i, i < n → Q i) : Ev (S 0) no := by
 refine Classical.byContradiction fun hc => hq ?_
 have key : ∀ i, i ≤ n → (¬ Ev (S i) no) ∧ ∀ j, j < i → Q j := by
  intro i
  induction i with
  | zero => intro _; exact ⟨hc, fun j hj => absurd hj (Nat.not_lt_zero j)⟩
  | succ i ih =>
   intro hi
   obtain ⟨h1, h2⟩ := ih (by omega)
   have hQ : Q i := Classical.byContradiction fun h => h1 (hno i (by omega) h)
   refine ⟨fun h => h1 (hround no i (by omega) hQ h), fun j hj => ?_⟩
   by_cases e : j = i
   ·subst e; exact hQ
   ·exact h2 j (by omega)
 exact (key n (Nat.le_refl n)).2
theorem not_any {α : Type} (p : α → Bool) : ∀ l : List α, (l.any fun s => !p s) = !(l.all p) := by
 intro l
 induction l with
 | nil => rfl
 | cons x l ih => simp only [List.any_cons, List.all_cons, Bool.not_and, ih]
end Go.Proofs.YtmfipefpmjcddaaDoor.PW
end
section
namespace Go.Proofs.YtmfipefpmjcddaaDoor.QV
open Go.RowKit Go.Proofs.YtmfipefpmjcddaaDoorW.PrintWords Go.Proofs.YtmfipefpmjcddaaDoorW.PrintLast Go.Proofs.YtmfipefpmjcddaaDoorW.PrintMore Go.Proofs.YtmfipefpmjcddaaDoor.PB Go.Proofs.YtmfipefpmjcddaaDoor.PD Go.Proofs.YtmfipefpmjcddaaDoor.PL Go.Proofs.YtmfipefpmjcddaaDoor.PT Go.Proofs.YtmfipefpmjcddaaDoor.PU Go.Proofs.YtmfipefpmjcddaaDoor.PG Go.Proofs.YtmfipefpmjcddaaDoor.PW Go.Proofs.YtmfipefpmjcddaaDoor.QR Go.Proofs.YtmfipefpmjcddaaDoor.PA
set_option linter.unusedVariables false
theorem app_list (a b : ByteArray) : (a ++ b).toList = a.toList ++ b.toList := by
 rw [ByteArray.toList_eq, ByteArray.toList_eq, ByteArray.toList_eq]; simp
theorem sn_list (xs : List Int) : (strOfNums xs).toList = xs.map fun n => UInt8.ofNat n.toNat := by rw [ByteArray.toList_eq]; exact strOfNums_data xs
theorem sn_append (xs ys : List Int) : strOfNums (xs ++ ys) = strOfNums xs ++ strOfNums ys := by
 apply ba_ext
 rw [app_list, sn_list, sn_list, sn_list, List.map_append]
theorem app_size (a b : ByteArray) : (a ++ b).size = a.size + b.size := ByteArray.size_append
def ints (l : List UInt8) : List Int := l.map fun b => (b.toNat : Int)
theorem sn_ints (l : List UInt8) : (strOfNums (ints l)).toList = l := by
 rw [sn_list]
 unfold ints
 rw [List.map_map]
 have : ((fun n : Int => UInt8.ofNat n.toNat) ∘ fun b : UInt8 => (b.toNat : Int)) = id := by
  funext b
  simp
 rw [this, List.map_id]
def tint (l : List UInt8) : List Int := ints (rep 0 [0, 255] l)
theorem tint_zero (l : List UInt8) : tint (0 :: l) = 0 :: 255 :: tint l := by
 unfold tint
 rw [rep_cons, if_pos rfl]
 rfl
theorem tint_other {c : UInt8} (h : c ≠ 0) (l : List UInt8) : tint (c :: l) = (c.toNat : Int) :: tint l := by
 unfold tint
 rw [rep_cons, if_neg h]
 rfl
theorem tint_len : ∀ l : List UInt8, (tint l).length ≤ 2 * l.length := by
 intro l
 induction l with
 | nil => simp [tint, rep, ints]
 | cons c l ih =>
  by_cases h : c = 0
  ·subst h; rw [tint_zero]; simp; omega
  ·rw [tint_other h]; simp; omega
def valI (a b : Int) (s : ByteArray) : List Int :=
 (a % 256) :: (if a = 2 then [b % 256] else if a = 3 then [(wrap64 (b + 1000000000)) / 16777216 % 256, (wrap64 (b + 1000000000)) / 65536 % 256, (wrap64 (b + 1000000000)) / 256 % 256, (wrap64 (b + 1000000000)) % 256] else if a = 4 then tint s.toList ++ [0, 0] else [])
theorem valI_len (a b : Int) (s : ByteArray) : (valI a b s).length ≤ 2 * s.size + 10 := by
 unfold valI
 have h := tint_len s.toList
 rw [size_toList] at h
 rw [List.length_cons]
 split
 ·simp
 ·split
  ·simp
  ·split
   ·rw [List.length_append]; simp only [List.length_cons, List.length_nil]; omega
   ·simp
theorem l4loop (s : ByteArray) (hs : s.size ≤ 100000) (a b : Int) : ∀ (d i : Nat) (x : List Int), i + d = s.size → x.length ≤ 2 * i + 10 → Ev (fun k => spec_l4Bytes.l0 k x (i : Int) a b s) (strOfNums (x ++ (tint (s.toList.drop i) ++ [0, 0]))) := by
 intro d
 induction d with
 | zero =>
  intro i x hi hx
  rw [List.drop_eq_nil_of_le (by rw [size_toList]; omega)]
  refine Ev.step (f := fun _ => some (strOfNums (x ++ [0, 0]))) (fun k => ?_) (Ev.now _)
  simp only [spec_l4Bytes.l0]
  rw [if_neg (by omega)]
  simp only [Option.bind_some]
  rw [if_pos (by simp only [List.length_cons, List.length_nil]; omega)]
 | succ d ih =>
  intro i x hi hx
  have hlt : i < s.size := by omega
  have hg := bt_get s i hlt
  have hdr := drop_at s.toList i (by rw [size_toList]; omega)
  by_cases hc : s.toList.getD i 0 = 0
  ·have hb : bt s (i : Int) = 0 := by rw [hg, hc]; rfl
   rw [hdr, hc, tint_zero]
   refine ev_eq (Ev.step (f := fun k => spec_l4Bytes.l0 k (x ++ [0] ++ [255]) ((i + 1 : Nat) : Int) a b s) (fun k => ?_) (ih (i + 1) (x ++ [0] ++ [255]) (by omega) (by simp only [List.length_append, List.length_cons, List.length_nil]; omega))) (by simp only [List.append_assoc, List.cons_append, List.nil_append])
   simp only [spec_l4Bytes.l0]
   rw [if_pos (by omega), if_pos (by omega), if_pos (by omega), hb]
   simp only [Option.bind_some]
   rw [if_pos trivial, if_pos (by simp only [List.length_append, List.length_cons, List.length_nil]; omega), w64 (x := (i : Int) + 1) (by omega) (by omega)]
   rfl
  ·have hb : ¬ bt s (i : Int) = 0 := by
    rw [hg]
    intro h
    exact hc (UInt8.toNat_inj.1 (by rw [show (0 : UInt8).toNat = 0 from rfl]; omega))
   rw [hdr, tint_other hc]
   refine ev_eq (Ev.step (f := fun k => spec_l4Bytes.l0 k (x ++ [bt s (i : Int)]) ((i + 1 : Nat) : Int) a b s) (fun k => ?_) (ih (i + 1) (x ++ [bt s (i : Int)]) (by omega) (by simp only [List.length_append, List.length_cons, List.length_nil]; omega))) (by rw [hg]; simp only [List.append_assoc, List.cons_append, List.nil_append])
   simp only [spec_l4Bytes.l0]
   rw [if_pos (by omega), if_pos (by omega), if_pos (by omega)]
   simp only [Option.bind_some]
   rw [if_neg hb, w64 (x := (i : Int) + 1) (by omega) (by omega)]
   rfl
theorem bytesVS (a b : Int) (s : ByteArray) (hs : s.size ≤ 100000) : Ev (fun k => spec_l4Bytes.f k a b s) (strOfNums (valI a b s)) := by
 unfold spec_l4Bytes.f valI
 refine ev_const (a := [a % 256]) rfl ?_
 by_cases h2 : a = 2
 ·refine ev_pos h2 (ev_pos (by simp only [List.length_cons, List.length_nil]; omega) (ev_eq (Ev.now _) ?_))
  rw [if_pos h2]; rfl
 ·refine ev_neg h2 ?_
  rw [if_neg h2]
  by_cases h3 : a = 3
  ·refine ev_pos h3 (ev_const rfl (ev_pos (by simp only [List.length_cons, List.length_nil]; omega) (ev_eq (Ev.now _) ?_)))
   rw [if_pos h3]; rfl
  ·refine ev_neg h3 ?_
   rw [if_neg h3]
   by_cases h4 : a = 4
   ·refine ev_pos h4 ?_
    rw [if_pos h4]
    exact ev_eq (l4loop s hs a b s.size 0 [a % 256] (by omega) (by simp)) (by simp)
   ·refine ev_neg h4 ?_
    rw [if_neg h4]
    exact Ev.now _
theorem repAll (s : ByteArray) (hs : s.size ≤ 100000) : strings_ReplaceAll.f s ⟨#[0]⟩ ⟨#[0, 255]⟩ = some (strOfNums (tint s.toList)) := by
 unfold strings_ReplaceAll.f
 rw [if_pos ⟨by decide, by decide, by omega, by decide⟩]
 congr 1
 apply ba_ext
 unfold tint
 rw [sn_ints, ByteArray.toList_eq, ByteArray.toList_eq]
 rfl
theorem bytesVI (a b : Int) (s : ByteArray) (hs : s.size ≤ 100000) : impl_Value_bytes.f a b s = some (strOfNums (valI a b s)) := by
 have hl := tint_len s.toList
 rw [size_toList] at hl
 unfold impl_Value_bytes.f valI
 rw [oneI]
 simp only [Option.bind_some]
 have ho : one a = strOfNums [a % 256] := rfl
 by_cases h2 : a = 2
 ·rw [if_pos h2, if_pos h2, oneI]
  simp only [Option.bind_some]
  rw [if_pos (by rw [one_size, one_size]; omega), ho, show one b = strOfNums [b % 256] from rfl, ← sn_append]
  rfl
 ·rw [if_neg h2, if_neg h2]
  by_cases h3 : a = 3
  ·rw [if_pos h3, if_pos h3]
   rw [if_pos (by rw [one_size, strOfNums_size]; simp only [List.length_cons, List.length_nil]; omega), ho, ← sn_append]
   rfl
  ·rw [if_neg h3, if_neg h3]
   by_cases h4 : a = 4
   ·rw [if_pos h4, if_pos h4, repAll s hs]
    simp only [Option.bind_some]
    have h00 : (⟨#[0, 0]⟩ : ByteArray) = strOfNums [0, 0] := rfl
    rw [if_pos (by rw [strOfNums_size]; omega), if_pos (by rw [one_size, app_size, strOfNums_size, show (⟨#[0, 0]⟩ : ByteArray).size = 2 from rfl]; omega), h00, ho, ← sn_append, ← sn_append]
    rfl
   ·rw [if_neg h4, if_neg h4]; rfl
def noB (s : ByteArray) : Bool := s.toList == ([] : List UInt8)
def goodV (a b : Int) (s : ByteArray) : Bool :=
 if a = 1 then (decide (b = 0) && noB s) else if a = 2 then (decide (0 ≤ b ∧ b ≤ 1) && noB s) else if a = 3 then (decide (-1000000000 ≤ b ∧ b ≤ 1000000000) && noB s) else if a = 4 then (decide (b = 0) && decide ((s.size : Int) ≤ 12)) else false
theorem if_and (p : Prop) [Decidable p] (q : Bool) : (if p then some q else some false) = some (decide p && q) := by
 by_cases h : p
 ·rw [if_pos h, decide_eq_true h]; rfl
 ·rw [if_neg h, decide_eq_false h]; rfl
theorem if_andB (p q : Bool) : (if p = true then some q else some false) = some (p && q) := by cases p <;> rfl
theorem goodVS (a b : Int) (s : ByteArray) : spec_GoodValue.f a b s = some (goodV a b s) := by
 unfold spec_GoodValue.f goodV noB
 rw [inS, inS]
 simp only [Option.bind_some]
 rw [if_and, if_andB, if_andB, if_and, apply_ite some, apply_ite some, apply_ite some, apply_ite some]
theorem goodVI (a b : Int) (s : ByteArray) : impl_GoodValue.f a b s = some (goodV a b s) := by
 unfold impl_GoodValue.f goodV noB
 rw [inI, inI]
 simp only [Option.bind_some]
 rw [if_and, if_andB, if_andB, if_and, apply_ite some, apply_ite some, apply_ite some, apply_ite some]
theorem noB_size {s : ByteArray} (h : noB s = true) : s.size = 0 := by
 have := beq_iff_eq.1 h
 rw [← size_toList, this]; rfl
theorem goodV_size {a b : Int} {s : ByteArray} (h : goodV a b s = true) : s.size ≤ 12 := by
 unfold goodV at h
 split at h
 ·simp only [Bool.and_eq_true] at h; have := noB_size h.2; omega
 ·split at h
  ·simp only [Bool.and_eq_true] at h; have := noB_size h.2; omega
  ·split at h
   ·simp only [Bool.and_eq_true] at h; have := noB_size h.2; omega
   ·split at h
    ·simp only [Bool.and_eq_true, decide_eq_true_eq] at h; omega
    ·cases h
theorem valS_size {a b : Int} {s : ByteArray} (h : goodV a b s = true) : (strOfNums (valI a b s)).size ≤ 40 := by
 rw [strOfNums_size]
 have := valI_len a b s
 have := goodV_size h
 omega
theorem rdI_at (l : List S39) (i : Nat) (h : i < l.length) : rd_T39 l (i : Int) = l[i] := by
 simp [rd_T39, List.getD_eq_getElem?_getD, List.getElem?_eq_getElem h]
def goodX (x : S39) : Bool := goodV x.f0 x.f1 x.f2
def rowOk (l : List S39) : Bool := decide ((l.length : Int) ≤ 6) && l.all goodX
theorem all_ix (l : List S39) : l.all goodX = true ↔ ∀ i (h : i < l.length), goodX l[i] = true := by
 rw [List.all_eq_true]
 constructor
 ·intro h i hi; exact h _ (List.getElem_mem hi)
 ·intro h x hx
  obtain ⟨i, hi, e⟩ := List.getElem_of_mem hx
  rw [← e]; exact h i hi
theorem rowOkS (l : List S39) (hl : l.length ≤ 2000000) : Ev (fun k => spec_l4Row.f k l) (rowOk l) := by
 have st : ∀ {r : Bool} (i : Nat) (h : i < l.length), Ev (fun k => if goodX l[i] = true then spec_l4Row.l0 k l l (l.length : Int) ((i + 1 : Nat) : Int) else some false) r → Ev (fun k => spec_l4Row.l0 k l l (l.length : Int) (i : Int)) r := by
  intro r i h hr
  refine Ev.step (fun k => ?_) hr
  simp only [spec_l4Row.l0]
  rw [if_pos (by omega), if_pos (by omega), if_pos (by omega), rdI_at l i h, goodVS, w64 (x := (i : Int) + 1) (by omega) (by omega)]
  rfl
 have rn : ∀ (r : Bool) i, i < l.length → (∀ h : i < l.length, goodX l[i] = true) → Ev (fun k => spec_l4Row.l0 k l l (l.length : Int) ((i + 1 : Nat) : Int)) r → Ev (fun k => spec_l4Row.l0 k l l (l.length : Int) (i : Int)) r := fun r i hi hq hr => st i hi (ev_pos (hq hi) hr)
 unfold rowOk
 by_cases hA : ∀ i, i < l.length → ∀ h : i < l.length, goodX l[i] = true
 ·rw [(all_ix l).2 (fun i h => hA i h h), Bool.and_true]
  exact loop_yes l.length (fun i k => spec_l4Row.l0 k l l (l.length : Int) (i : Int)) (fun i => ∀ h : i < l.length, goodX l[i] = true) _ rn (Ev.step (f := fun _ => some (decide ((l.length : Int) ≤ 6))) (fun k => by simp only [spec_l4Row.l0]; rw [if_neg (by omega)]) (Ev.now _)) hA
 ·have e : l.all goodX = false := by
   cases h : l.all goodX with
   | false => rfl
   | true => exact absurd (fun i hi h' => (all_ix l).1 h i h') hA
  rw [e, Bool.and_false]
  exact loop_no l.length (fun i k => spec_l4Row.l0 k l l (l.length : Int) (i : Int)) (fun i => ∀ h : i < l.length, goodX l[i] = true) false rn (fun i hi hq => st i hi (ev_neg (fun h => hq (fun _ => h)) (Ev.now _))) hA
theorem rowOkI (l : List S39) (hl : l.length ≤ 2000000) : Ev (fun k => impl_isRow.f k l) (rowOk l) := by
 unfold impl_isRow.f rowOk
 by_cases h : (l.length : Int) ≤ 6
 ·rw [decide_eq_true h, Bool.true_and]
  refine ev_pos h ?_
  obtain ⟨r, hr, e⟩ := idx_any l (fun l i => rd_T39 l i) (fun i h => rdI_at l i h) slices_IndexFunc_impl_isRow_1.l0 (fun _ x => impl_isRow_1.f x.f0 x.f1 x.f2) (fun x => !goodX x) (fun k n i => rfl) (fun x _ => ev_of_eq (by unfold impl_isRow_1.f; rw [goodVI]; rfl)) (by omega)
  refine ev_bind (ev_bind (f := fun _ t => some (decide (t ≥ 0))) hr (Ev.now _)) (ev_eq (Ev.now _) ?_)
  rw [e]
  have na : ∀ m : List S39, (m.any fun x => !goodX x) = !(m.all goodX) := not_any goodX
  rw [na, Bool.not_not]
 ·rw [decide_eq_false h, Bool.false_and]
  exact ev_neg h (Ev.now _)
theorem rowOk_facts {l : List S39} (h : rowOk l = true) : l.length ≤ 6 ∧ ∀ i (hi : i < l.length), goodX l[i] = true := by
 unfold rowOk at h
 simp only [Bool.and_eq_true, decide_eq_true_eq] at h
 exact ⟨by omega, (all_ix l).1 h.2⟩
abbrev vb (x : S39) : ByteArray := strOfNums (valI x.f0 x.f1 x.f2)
def rowV : ByteArray → List S39 → ByteArray
 | a, [] => a
 | a, x :: l => rowV (a ++ vb x) l
theorem rowV_size (l : List S39) : ∀ a, (∀ x ∈ l, goodX x = true) → (rowV a l).size ≤ a.size + 40 * l.length := by
 induction l with
 | nil => intro a _; simp [rowV]
 | cons x l ih =>
  intro a h
  have h1 := ih (a ++ vb x) (fun y hy => h y (List.mem_cons_of_mem _ hy))
  have h2 : (vb x).size ≤ 40 := valS_size (h x List.mem_cons_self)
  rw [app_size] at h1
  simp only [rowV, List.length_cons]
  omega
theorem rowLoops (l : List S39) (h : rowOk l = true) : ∀ (d i : Nat) (a : ByteArray), i + d = l.length → a.size ≤ 40 * i → Ev (fun k => spec_l4RowBytes.l0 k a l (l.length : Int) (i : Int)) (rowV a (l.drop i)) ∧ Ev (fun k => impl_RowBytes.l0 k a l (l.length : Int) (i : Int)) (rowV a (l.drop i), true) := by
 obtain ⟨hl, hg⟩ := rowOk_facts h
 intro d
 induction d with
 | zero =>
  intro i a hi ha
  rw [List.drop_eq_nil_of_le (by omega)]
  exact ⟨Ev.step (f := fun _ => some a) (fun k => by simp only [spec_l4RowBytes.l0]; rw [if_neg (by omega)]) (Ev.now _), Ev.step (f := fun _ => some (a, true)) (fun k => by simp only [impl_RowBytes.l0]; rw [if_neg (by omega)]) (Ev.now _)⟩
 | succ d ih =>
  intro i a hi ha
  have hlt : i < l.length := by omega
  have hz : (vb l[i]).size ≤ 40 := valS_size (hg i hlt)
  have hs := goodV_size (hg i hlt)
  rw [List.drop_eq_getElem_cons hlt, rowV]
  obtain ⟨h1, h2⟩ := ih (i + 1) (a ++ vb l[i]) (by omega) (by rw [app_size]; omega)
  refine ⟨?_, ?_⟩
  ·refine Ev.step (f := fun k => (spec_l4Bytes.f k l[i].f0 l[i].f1 l[i].f2).bind fun t => if a.size + t.size ≤ 9223372036854775807 then spec_l4RowBytes.l0 k (a ++ t) l (l.length : Int) ((i + 1 : Nat) : Int) else none) (fun k => ?_) (ev_bind (bytesVS l[i].f0 l[i].f1 l[i].f2 (by omega)) (ev_pos (by show a.size + (vb l[i]).size ≤ _; omega) h1))
   simp only [spec_l4RowBytes.l0]
   rw [if_pos (by omega), if_pos (by omega), if_pos (by omega), rdI_at l i hlt, w64 (x := (i : Int) + 1) (by omega) (by omega)]
   rfl
  ·refine Ev.step (f := fun k => impl_RowBytes.l0 k (a ++ vb l[i]) l (l.length : Int) ((i + 1 : Nat) : Int)) (fun k => ?_) h2
   simp only [impl_RowBytes.l0]
   rw [if_pos (by omega), if_pos (by omega), if_pos (by omega), rdI_at l i hlt, bytesVI l[i].f0 l[i].f1 l[i].f2 (by omega), w64 (x := (i : Int) + 1) (by omega) (by omega)]
   simp only [Option.bind_some]
   rw [if_pos (by show a.size + (vb l[i]).size ≤ _; omega)]
   rfl
def rowBytesM (l : List S39) : ByteArray × Bool := if rowOk l = true then (rowV ⟨#[]⟩ l, true) else (⟨#[]⟩, false)
theorem rowBytesS (l : List S39) (hl : l.length ≤ 2000000) : Ev (fun k => spec_RowBytes.f k l) (rowBytesM l) := by
 have h1 := rowOkS l hl
 unfold rowBytesM
 cases h : rowOk l with
 | true =>
  rw [h] at h1
  exact ev_bind h1 (ev_pos rfl (ev_bind (rowLoops l h l.length 0 ⟨#[]⟩ (by omega) (by decide)).1 (Ev.now _)))
 | false =>
  rw [h] at h1
  exact ev_bind h1 (ev_neg (by simp) (Ev.now _))
theorem rowBytesI (l : List S39) (hl : l.length ≤ 2000000) : Ev (fun k => impl_RowBytes.f k l) (rowBytesM l) := by
 have h1 := rowOkI l hl
 unfold rowBytesM
 cases h : rowOk l with
 | true =>
  rw [h] at h1
  exact ev_bind h1 (ev_pos rfl (rowLoops l h l.length 0 ⟨#[]⟩ (by omega) (by decide)).2)
 | false =>
  rw [h] at h1
  exact ev_bind h1 (ev_neg (by simp) (Ev.now _))
theorem rowBytes_size (l : List S39) : (rowBytesM l).1.size ≤ 300 := by
 unfold rowBytesM
 split
 ·rename_i h
  obtain ⟨h1, h2⟩ := rowOk_facts h
  have := rowV_size l ⟨#[]⟩ (fun x hx => by
   obtain ⟨i, hi, e⟩ := List.getElem_of_mem hx
   rw [← e]; exact h2 i hi)
  have z : (⟨#[]⟩ : ByteArray).size = 0 := rfl
  dsimp only
  omega
 ·decide
end Go.Proofs.YtmfipefpmjcddaaDoor.QV
end
section
namespace Go.Proofs.YtmfipefpmjcddaaDoor.QE
open Go.RowKit Go.Proofs.YtmfipefpmjcddaaDoorW.PrintWords Go.Proofs.YtmfipefpmjcddaaDoorW.PrintLast Go.Proofs.YtmfipefpmjcddaaDoorW.PrintMore Go.Proofs.YtmfipefpmjcddaaDoor.PB Go.Proofs.YtmfipefpmjcddaaDoor.PD Go.Proofs.YtmfipefpmjcddaaDoor.QR Go.Proofs.YtmfipefpmjcddaaDoor.QV
set_option linter.unusedVariables false
def sgn (a b : Int) : Int := if a < b then -1 else if a > b then 1 else 0
theorem sgn_neg (a b : Int) : sgn b a = -sgn a b := by unfold sgn; split <;> split <;> (try split) <;> omega
theorem sgn_zero {a b : Int} : sgn a b = 0 ↔ a = b := by unfold sgn; split <;> (try split) <;> omega
def cmpL : List UInt8 → List UInt8 → Int
 | [], [] => 0
 | [], _ :: _ => -1
 | _ :: _, [] => 1
 | a :: x, b :: y => if a < b then -1 else if b < a then 1 else cmpL x y
theorem u8_tri {a b : UInt8} (h1 : ¬ a < b) (h2 : ¬ b < a) : a = b := by
 rw [UInt8.lt_iff_toNat_lt] at h1 h2
 exact UInt8.toNat_inj.1 (by omega)
theorem u8_asym {a b : UInt8} (h1 : a < b) : ¬ b < a := by
 rw [UInt8.lt_iff_toNat_lt] at h1 ⊢; omega
theorem u8_irr (a : UInt8) : ¬ a < a := by rw [UInt8.lt_iff_toNat_lt]; omega
theorem cmpL_same (x : List UInt8) : cmpL x x = 0 := by
 induction x with
 | nil => rfl
 | cons a x ih => unfold cmpL; rw [if_neg (u8_irr a), if_neg (u8_irr a), ih]
theorem cmpL_zero : ∀ {x y : List UInt8}, cmpL x y = 0 → x = y := by
 intro x
 induction x with
 | nil => intro y h; cases y with
  | nil => rfl
  | cons b y => simp [cmpL] at h
 | cons a x ih => intro y h; cases y with
  | nil => simp [cmpL] at h
  | cons b y =>
   unfold cmpL at h
   split at h
   ·omega
   ·split at h
    ·omega
    ·rename_i h1 h2
     rw [u8_tri h1 h2, ih h]
theorem cmpL_neg : ∀ (x y : List UInt8), cmpL y x = -cmpL x y := by
 intro x
 induction x with
 | nil => intro y; cases y <;> rfl
 | cons a x ih => intro y; cases y with
  | nil => rfl
  | cons b y =>
   unfold cmpL
   by_cases h1 : a < b
   ·rw [if_pos h1, if_neg (u8_asym h1), if_pos h1]; rfl
   ·by_cases h2 : b < a
    ·rw [if_pos h2, if_neg h1, if_pos h2]
    ·rw [if_neg h1, if_neg h2, if_neg h1, if_neg h2, ih]
theorem cmpL_less : ∀ (x y : List UInt8), (if Op.bytesLess x y = true then (-1 : Int) else if Op.bytesLess y x = true then 1 else 0) = cmpL x y := by
 intro x
 induction x with
 | nil => intro y; cases y with
  | nil => simp [Op.bytesLess, cmpL]
  | cons b y => simp [Op.bytesLess, cmpL]
 | cons a x ih => intro y; cases y with
  | nil => simp [Op.bytesLess, cmpL]
  | cons b y =>
   unfold cmpL
   rw [← ih y]
   by_cases h1 : a < b
   ·rw [if_pos h1, if_pos (by simp [Op.bytesLess, h1])]
   ·by_cases h2 : b < a
    ·have : a ≠ b := fun e => by subst e; exact u8_irr a h2
     rw [if_neg (by simp [Op.bytesLess, h1, this]), if_pos (by simp [Op.bytesLess, h2]), if_neg h1, if_pos h2]
    ·have := u8_tri h1 h2
     subst this
     simp only [Op.bytesLess, if_neg h1, decide_eq_false h1, Bool.false_or, beq_self_eq_true, Bool.true_and]
theorem cmpL_lib : ∀ (x y : List UInt8), Go.Lib.compareBytes x y = cmpL x y := by
 intro x
 induction x with
 | nil => intro y; cases y <;> rfl
 | cons a x ih => intro y; cases y with
  | nil => rfl
  | cons b y => unfold cmpL Go.Lib.compareBytes; rw [ih]
theorem cmpL_cons (a : UInt8) (x y : List UInt8) : cmpL (a :: x) (a :: y) = cmpL x y := by
 conv => lhs; unfold cmpL
 rw [if_neg (u8_irr a), if_neg (u8_irr a)]
abbrev esc (l : List UInt8) : List UInt8 := rep 0 [0, 255] l
theorem esc_zero (l : List UInt8) : esc (0 :: l) = 0 :: 255 :: esc l := by unfold esc; rw [rep_cons, if_pos rfl]; rfl
theorem esc_other {c : UInt8} (h : c ≠ 0) (l : List UInt8) : esc (c :: l) = c :: esc l := by unfold esc; rw [rep_cons, if_neg h]; rfl
theorem zero_lt {c : UInt8} (h : c ≠ 0) : (0 : UInt8) < c := by
 rw [UInt8.lt_iff_toNat_lt]
 have : c.toNat ≠ 0 := fun e => h (UInt8.toNat_inj.1 e)
 show 0 < c.toNat
 omega
theorem cmpL_esc : ∀ (x y : List UInt8), cmpL (esc x ++ [0, 0]) (esc y ++ [0, 0]) = cmpL x y := by
 have n : ∀ (c : UInt8) (y : List UInt8), cmpL [0, 0] (esc (c :: y) ++ [0, 0]) = -1 := by
  intro c y
  by_cases h : c = 0
  ·subst h; rw [esc_zero, List.cons_append, cmpL_cons, List.cons_append]; rfl
  ·rw [esc_other h, List.cons_append]; unfold cmpL; rw [if_pos (zero_lt h)]
 intro x
 induction x with
 | nil => intro y; cases y with
  | nil => rfl
  | cons c y => exact (n c y).trans rfl
 | cons a x ih => intro y; cases y with
  | nil =>
   have h := cmpL_neg [0, 0] (esc (a :: x) ++ [0, 0])
   rw [n] at h
   exact h
  | cons b y =>
   by_cases e : a = b
   ·subst e
    rw [cmpL_cons, ← ih y]
    by_cases h : a = 0
    ·subst h; rw [esc_zero, esc_zero, List.cons_append, List.cons_append, List.cons_append, List.cons_append, cmpL_cons, cmpL_cons]
    ·rw [esc_other h, esc_other h, List.cons_append, List.cons_append, cmpL_cons]
   ·have key : ∀ (p q : List UInt8), cmpL (a :: p) (b :: q) = cmpL (a :: x) (b :: y) := by
     intro p q
     unfold cmpL
     by_cases h1 : a < b
     ·rw [if_pos h1, if_pos h1]
     ·have h2 : b < a := Decidable.byContradiction fun h2 => e (u8_tri h1 h2)
      rw [if_neg h1, if_neg h1, if_pos h2, if_pos h2]
    by_cases h : a = 0
    ·subst h
     have hb : b ≠ 0 := fun h => e h.symm
     rw [esc_zero, esc_other hb, List.cons_append, List.cons_append]
     exact key _ _
    ·by_cases hb : b = 0
     ·subst hb
      rw [esc_zero, esc_other h, List.cons_append, List.cons_append]
      exact key _ _
     ·rw [esc_other h, esc_other hb, List.cons_append, List.cons_append]
      exact key _ _
def readT : List UInt8 → Option (List UInt8 × Nat)
 | [] => none
 | [c] => none
 | c :: d :: r => if c ≠ 0 then (readT (d :: r)).map fun p => (c :: p.1, p.2 + 1) else if d = 0 then some ([], 2) else if d = 255 then (readT r).map fun p => (0 :: p.1, p.2 + 2) else none
theorem readT_one {c : UInt8} (h : c ≠ 0) (l : List UInt8) : readT (c :: l) = (readT l).map fun p => (c :: p.1, p.2 + 1) := by
 cases l with
 | nil => rfl
 | cons d r => rw [readT, if_pos h]
theorem readT_esc (s : List UInt8) : ∀ t : List UInt8, readT (esc t ++ 0 :: 0 :: s) = some (t, (esc t).length + 2) := by
 intro t
 induction t with
 | nil => rfl
 | cons c t ih =>
  by_cases h : c = 0
  ·subst h
   rw [esc_zero, List.cons_append, List.cons_append, readT, if_neg (by simp), if_neg (by decide), if_pos rfl, ih]
   rfl
  ·rw [esc_other h, List.cons_append, readT_one h, ih]
   rfl
theorem readT_back : ∀ (n : Nat) (r t : List UInt8) (m : Nat), r.length ≤ n → readT r = some (t, m) → ∃ s, r = esc t ++ 0 :: 0 :: s ∧ m = (esc t).length + 2 := by
 intro n
 induction n with
 | zero => intro r t m hr h; cases r with
  | nil => cases h
  | cons c r => simp at hr
 | succ n ih =>
  intro r t m hr h
  match r, hr, h with
  | [], _, h => cases h
  | [c], _, h => cases h
  | c :: d :: r, hr, h =>
   simp only [List.length_cons] at hr
   rw [readT] at h
   by_cases hc : c = 0
   ·rw [if_neg (by simp [hc])] at h
    by_cases hd : d = 0
    ·rw [if_pos hd] at h
     injection h with h; injection h with h1 h2
     subst h1 h2 hc hd
     exact ⟨r, rfl, rfl⟩
    ·rw [if_neg hd] at h
     by_cases hd2 : d = 255
     ·rw [if_pos hd2] at h
      obtain ⟨⟨t1, m1⟩, h1, h2⟩ := Option.map_eq_some_iff.1 h
      injection h2 with h2 h3
      obtain ⟨s, h4, h5⟩ := ih r t1 m1 (by omega) h1
      subst h2 h3 hc hd2 h4 h5
      exact ⟨s, by rw [esc_zero]; rfl, by rw [esc_zero]; rfl⟩
     ·rw [if_neg hd2] at h; cases h
   ·rw [if_pos hc] at h
    obtain ⟨⟨t1, m1⟩, h1, h2⟩ := Option.map_eq_some_iff.1 h
    injection h2 with h2 h3
    obtain ⟨s, h4, h5⟩ := ih (d :: r) t1 m1 (by simp only [List.length_cons]; omega) h1
    subst h2 h3 h5
    exact ⟨s, by rw [esc_other hc, h4]; rfl, by rw [esc_other hc]; rfl⟩
def cand : List UInt8 → List UInt8
 | [] => []
 | [c] => []
 | c :: d :: r => if c = 0 then (if d = 0 then [] else 0 :: cand r) else c :: cand (d :: r)
theorem cand_one {c : UInt8} (h : c ≠ 0) {l : List UInt8} (hl : l ≠ []) : cand (c :: l) = c :: cand l := by
 cases l with
 | nil => exact absurd rfl hl
 | cons d r => rw [cand, if_neg h]
theorem cand_esc (s : List UInt8) : ∀ t : List UInt8, cand (esc t ++ 0 :: 0 :: s) = t := by
 intro t
 induction t with
 | nil => rfl
 | cons c t ih =>
  by_cases h : c = 0
  ·subst h
   rw [esc_zero, List.cons_append, List.cons_append, cand, if_pos rfl, if_neg (by decide), ih]
  ·rw [esc_other h, List.cons_append, cand_one h (by simp), ih]
def be4 (n : Int) : List UInt8 := [UInt8.ofNat (n / 16777216 % 256).toNat, UInt8.ofNat (n / 65536 % 256).toNat, UInt8.ofNat (n / 256 % 256).toNat, UInt8.ofNat (n % 256).toNat]
theorem ofNat_lt {p q : Nat} (hp : p < 256) (hq : q < 256) : UInt8.ofNat p < UInt8.ofNat q ↔ p < q := by
 rw [UInt8.lt_iff_toNat_lt, UInt8.toNat_ofNat', UInt8.toNat_ofNat', Nat.mod_eq_of_lt hp, Nat.mod_eq_of_lt hq]
theorem cmpL_small {p q : Nat} (hp : p < 256) (hq : q < 256) (x y : List UInt8) : cmpL (UInt8.ofNat p :: x) (UInt8.ofNat q :: y) = if p < q then -1 else if q < p then 1 else cmpL x y := by
 conv => lhs; unfold cmpL
 simp only [ofNat_lt hp hq, ofNat_lt hq hp]
set_option maxHeartbeats 4000000 in
theorem cmpL_be4 {x y : Int} (h0 : 0 ≤ x) (h1 : x < 4294967296) (h2 : 0 ≤ y) (h3 : y < 4294967296) : cmpL (be4 x) (be4 y) = sgn x y := by
 unfold be4
 rw [cmpL_small (by omega) (by omega), cmpL_small (by omega) (by omega), cmpL_small (by omega) (by omega), cmpL_small (by omega) (by omega), show cmpL [] [] = 0 from rfl]
 unfold sgn
 repeat' split
 all_goals omega
abbrev bts (a b : Int) (s : ByteArray) : List UInt8 := (strOfNums (valI a b s)).toList
theorem bts1 (b : Int) (s : ByteArray) : bts 1 b s = [1] := by unfold bts; rw [sn_list]; rfl
theorem bts2 (b : Int) (s : ByteArray) : bts 2 b s = [2, UInt8.ofNat (b % 256).toNat] := by unfold bts; rw [sn_list]; rfl
theorem bts3 (b : Int) (s : ByteArray) : bts 3 b s = 3 :: be4 (wrap64 (b + 1000000000)) := by unfold bts; rw [sn_list]; rfl
theorem bts4 (b : Int) (s : ByteArray) : bts 4 b s = 4 :: (esc s.toList ++ [0, 0]) := by
 have h := sn_ints (esc s.toList)
 rw [sn_list] at h
 unfold bts
 rw [sn_list]
 unfold valI
 rw [if_neg (by decide), if_neg (by decide), if_pos rfl, List.map_cons, List.map_append]
 unfold tint
 rw [h]
 rfl
theorem nil_list : (⟨#[]⟩ : ByteArray).toList = [] := by rw [ByteArray.toList_eq]
theorem noB_nil : noB ⟨#[]⟩ = true := by unfold noB; rw [nil_list]; rfl
theorem noB_eq {s : ByteArray} (h : noB s = true) : s = ⟨#[]⟩ := ba_ext (by rw [beq_iff_eq.1 h, nil_list])
theorem good_cases {a b : Int} {s : ByteArray} (h : goodV a b s = true) : (a = 1 ∧ b = 0 ∧ s = ⟨#[]⟩) ∨ (a = 2 ∧ 0 ≤ b ∧ b ≤ 1 ∧ s = ⟨#[]⟩) ∨ (a = 3 ∧ -1000000000 ≤ b ∧ b ≤ 1000000000 ∧ s = ⟨#[]⟩) ∨ (a = 4 ∧ b = 0 ∧ s.size ≤ 12) := by
 unfold goodV at h
 split at h
 ·simp only [Bool.and_eq_true, decide_eq_true_eq] at h; exact .inl ⟨by assumption, h.1, noB_eq h.2⟩
 ·split at h
  ·simp only [Bool.and_eq_true, decide_eq_true_eq] at h; exact .inr (.inl ⟨by assumption, h.1.1, h.1.2, noB_eq h.2⟩)
  ·split at h
   ·simp only [Bool.and_eq_true, decide_eq_true_eq] at h; exact .inr (.inr (.inl ⟨by assumption, h.1.1, h.1.2, noB_eq h.2⟩))
   ·split at h
    ·simp only [Bool.and_eq_true, decide_eq_true_eq] at h; exact .inr (.inr (.inr ⟨by assumption, h.1, by omega⟩))
    ·cases h
theorem good1 : goodV 1 0 ⟨#[]⟩ = true := by unfold goodV; rw [if_pos rfl, noB_nil]; rfl
theorem good2 {b : Int} (h0 : 0 ≤ b) : goodV 2 b ⟨#[]⟩ = decide (b ≤ 1) := by
 unfold goodV
 rw [if_neg (by decide), if_pos rfl, noB_nil, Bool.and_true]
 by_cases h : b ≤ 1
 ·rw [decide_eq_true h, decide_eq_true ⟨h0, h⟩]
 ·rw [decide_eq_false h, decide_eq_false (fun x => h x.2)]
theorem good3 (b : Int) : goodV 3 b ⟨#[]⟩ = decide (-1000000000 ≤ b ∧ b ≤ 1000000000) := by
 unfold goodV
 rw [if_neg (by decide), if_neg (by decide), if_pos rfl, noB_nil, Bool.and_true]
theorem good4 (s : ByteArray) : goodV 4 0 s = decide (s.size ≤ 12) := by
 unfold goodV
 rw [if_neg (by decide), if_neg (by decide), if_neg (by decide), if_pos rfl]
 by_cases h : s.size ≤ 12
 ·rw [decide_eq_true h, decide_eq_true (by omega : (s.size : Int) ≤ 12)]; rfl
 ·rw [decide_eq_false h, decide_eq_false (by omega : ¬ (s.size : Int) ≤ 12)]; rfl
theorem good_no {a : Int} (h1 : a ≠ 1) (h2 : a ≠ 2) (h3 : a ≠ 3) (h4 : a ≠ 4) (b : Int) (s : ByteArray) : goodV a b s = false := by
 unfold goodV; rw [if_neg h1, if_neg h2, if_neg h3, if_neg h4]
def cmpV (a b : Int) (s : ByteArray) (a' b' : Int) (s' : ByteArray) : Int := if a = a' then (if b = b' then cmpL s.toList s'.toList else sgn b b') else sgn a a'
theorem cmpV_neg (a b : Int) (s : ByteArray) (a' b' : Int) (s' : ByteArray) : cmpV a' b' s' a b s = -cmpV a b s a' b' s' := by
 unfold cmpV
 by_cases h : a = a'
 ·subst h
  rw [if_pos rfl, if_pos rfl]
  by_cases h : b = b'
  ·subst h; rw [if_pos rfl, if_pos rfl, cmpL_neg]
  ·rw [if_neg h, if_neg (fun e => h e.symm), sgn_neg]
 ·rw [if_neg h, if_neg (fun e => h e.symm), sgn_neg]
theorem cmpV_zero {a b : Int} {s : ByteArray} {a' b' : Int} {s' : ByteArray} : cmpV a b s a' b' s' = 0 ↔ a = a' ∧ b = b' ∧ s = s' := by
 unfold cmpV
 constructor
 ·intro h
  split at h
  ·split at h
   ·exact ⟨by assumption, by assumption, ba_ext (cmpL_zero h)⟩
   ·exact absurd (sgn_zero.1 h) (by assumption)
  ·exact absurd (sgn_zero.1 h) (by assumption)
 ·rintro ⟨rfl, rfl, rfl⟩
  rw [if_pos rfl, if_pos rfl, cmpL_same]
theorem order {a b : Int} {s : ByteArray} {a' b' : Int} {s' : ByteArray} (h : goodV a b s = true) (h' : goodV a' b' s' = true) : cmpL (bts a b s) (bts a' b' s') = cmpV a b s a' b' s' := by
 unfold cmpV
 rcases good_cases h with ⟨rfl, rfl, rfl⟩ | ⟨rfl, h0, h1, rfl⟩ | ⟨rfl, h0, h1, rfl⟩ | ⟨rfl, rfl, h0⟩ <;> rcases good_cases h' with ⟨rfl, rfl, rfl⟩ | ⟨rfl, h0', h1', rfl⟩ | ⟨rfl, h0', h1', rfl⟩ | ⟨rfl, rfl, h0'⟩
 all_goals simp only [bts1, bts2, bts3, bts4]
 all_goals first
  | (rw [if_neg (by decide)]; rfl)
  | skip
 ·rw [if_pos trivial, if_pos trivial, cmpL_same, cmpL_same]
 ·rw [if_pos trivial, cmpL_cons, cmpL_small (by omega) (by omega)]
  rw [cmpL_same, cmpL_same]
  unfold sgn
  repeat' split
  all_goals omega
 ·rw [if_pos trivial, cmpL_cons, w64 (by omega) (by omega), w64 (by omega) (by omega), cmpL_be4 (by omega) (by omega) (by omega) (by omega)]
  by_cases e : b = b'
  ·rw [if_pos e, cmpL_same, sgn_zero]; omega
  ·rw [if_neg e]; unfold sgn; repeat' split
   all_goals omega
 ·rw [if_pos trivial, if_pos trivial, cmpL_cons, cmpL_esc]
end Go.Proofs.YtmfipefpmjcddaaDoor.QE
end
section
namespace Go.Proofs.YtmfipefpmjcddaaDoor.QF
open Go.RowKit Go.Proofs.YtmfipefpmjcddaaDoorW.PrintWords Go.Proofs.YtmfipefpmjcddaaDoorW.PrintLast Go.Proofs.YtmfipefpmjcddaaDoorW.PrintMore Go.Proofs.YtmfipefpmjcddaaDoor.PB Go.Proofs.YtmfipefpmjcddaaDoor.PD Go.Proofs.YtmfipefpmjcddaaDoor.PT Go.Proofs.YtmfipefpmjcddaaDoor.PW Go.Proofs.YtmfipefpmjcddaaDoor.QR Go.Proofs.YtmfipefpmjcddaaDoor.QV Go.Proofs.YtmfipefpmjcddaaDoor.QE Go.Proofs.YtmfipefpmjcddaaDoor.PA
set_option linter.unusedVariables false
def num4 (p q u v : UInt8) : Int := (p.toNat : Int) * 16777216 + (q.toNat : Int) * 65536 + (u.toNat : Int) * 256 + (v.toNat : Int)
def readV : List UInt8 → Option (Int × Int × List UInt8 × Nat)
 | [] => none
 | k :: r =>
  if k = 2 then (match r with
   | [] => none
   | b :: _ => if b.toNat ≤ 1 then some (2, (b.toNat : Int), [], 2) else none)
  else if k = 3 then (match r with
   | p :: q :: u :: v :: _ => if num4 p q u v ≤ 2000000000 then some (3, num4 p q u v - 1000000000, [], 5) else none
   | _ => none)
  else if k = 4 then (match readT r with
   | some (t, n) => if t.length ≤ 12 then some (4, 0, t, 1 + n) else none
   | none => none)
  else if k = 1 then some (1, 0, [], 1) else none
theorem ofNat_toNat_int (b : UInt8) : UInt8.ofNat ((b.toNat : Int) % 256).toNat = b := by
 have := UInt8.toNat_lt b
 rw [Int.emod_eq_of_lt (by omega) (by omega)]
 simp
theorem num4_lt (p q u v : UInt8) : 0 ≤ num4 p q u v ∧ num4 p q u v < 4294967296 := by
 have := UInt8.toNat_lt p; have := UInt8.toNat_lt q; have := UInt8.toNat_lt u; have := UInt8.toNat_lt v
 unfold num4; omega
theorem be4_num4 (p q u v : UInt8) : be4 (num4 p q u v) = [p, q, u, v] := by
 have h1 := UInt8.toNat_lt p; have h2 := UInt8.toNat_lt q; have h3 := UInt8.toNat_lt u; have h4 := UInt8.toNat_lt v
 unfold be4 num4
 have e1 : ((p.toNat : Int) * 16777216 + (q.toNat : Int) * 65536 + (u.toNat : Int) * 256 + (v.toNat : Int)) / 16777216 % 256 = (p.toNat : Int) % 256 := by omega
 have e2 : ((p.toNat : Int) * 16777216 + (q.toNat : Int) * 65536 + (u.toNat : Int) * 256 + (v.toNat : Int)) / 65536 % 256 = (q.toNat : Int) % 256 := by omega
 have e3 : ((p.toNat : Int) * 16777216 + (q.toNat : Int) * 65536 + (u.toNat : Int) * 256 + (v.toNat : Int)) / 256 % 256 = (u.toNat : Int) % 256 := by omega
 have e4 : ((p.toNat : Int) * 16777216 + (q.toNat : Int) * 65536 + (u.toNat : Int) * 256 + (v.toNat : Int)) % 256 = (v.toNat : Int) % 256 := by omega
 rw [e1, e2, e3, e4, ofNat_toNat_int, ofNat_toNat_int, ofNat_toNat_int, ofNat_toNat_int]
theorem num4_be4 {n : Int} (h0 : 0 ≤ n) (h1 : n < 4294967296) : num4 (UInt8.ofNat (n / 16777216 % 256).toNat) (UInt8.ofNat (n / 65536 % 256).toNat) (UInt8.ofNat (n / 256 % 256).toNat) (UInt8.ofNat (n % 256).toNat) = n := by
 unfold num4
 rw [UInt8.toNat_ofNat', UInt8.toNat_ofNat', UInt8.toNat_ofNat', UInt8.toNat_ofNat', Nat.mod_eq_of_lt (by omega), Nat.mod_eq_of_lt (by omega), Nat.mod_eq_of_lt (by omega), Nat.mod_eq_of_lt (by omega)]
 omega
def str (l : List UInt8) : ByteArray := strOfNums (ints l)
theorem str_list (l : List UInt8) : (str l).toList = l := sn_ints l
theorem str_of (s : ByteArray) : str s.toList = s := ba_ext (str_list _)
theorem str_size (l : List UInt8) : (str l).size = l.length := by unfold str; rw [strOfNums_size]; unfold ints; rw [List.length_map]
theorem readV_bts {a b : Int} {s : ByteArray} (h : goodV a b s = true) (more : List UInt8) : readV (bts a b s ++ more) = some (a, b, s.toList, (bts a b s).length) := by
 rcases good_cases h with ⟨rfl, rfl, rfl⟩ | ⟨rfl, h0, h1, rfl⟩ | ⟨rfl, h0, h1, rfl⟩ | ⟨rfl, rfl, h0⟩
 ·rw [bts1, nil_list]; rfl
 ·rw [bts2, nil_list]
  have e : (UInt8.ofNat (b % 256).toNat).toNat = b.toNat := by rw [UInt8.toNat_ofNat', Nat.mod_eq_of_lt (by omega)]; omega
  simp only [List.cons_append, readV]
  rw [if_pos trivial, if_pos (by rw [e]; omega), e, Int.toNat_of_nonneg h0]
  rfl
 ·rw [bts3, nil_list, w64 (by omega) (by omega)]
  unfold be4
  simp only [List.cons_append, readV]
  rw [if_neg (by decide), if_pos trivial, num4_be4 (by omega) (by omega), if_pos (by omega), show b + 1000000000 - 1000000000 = b by omega]
  rfl
 ·rw [bts4]
  have e : 4 :: (esc s.toList ++ [0, 0]) ++ more = 4 :: (esc s.toList ++ 0 :: 0 :: more) := by simp
  rw [e]
  simp only [readV]
  rw [if_neg (by decide), if_neg (by decide), if_pos trivial, readT_esc]
  dsimp only
  rw [if_pos (by rw [size_toList]; exact h0)]
  simp only [List.length_cons, List.length_append, List.length_nil]
  congr 4
  omega
theorem readV_back {l : List UInt8} {a b : Int} {t : List UInt8} {n : Nat} (h : readV l = some (a, b, t, n)) : goodV a b (str t) = true ∧ ∃ more, l = bts a b (str t) ++ more ∧ n = (bts a b (str t)).length := by
 cases l with
 | nil => cases h
 | cons k r =>
  simp only [readV] at h
  by_cases h2 : k = 2
  ·rw [if_pos h2] at h
   cases r with
   | nil => cases h
   | cons c r =>
    dsimp only at h
    by_cases hc : c.toNat ≤ 1
    ·rw [if_pos hc] at h
     injection h with h; injection h with e1 h; injection h with e2 h; injection h with e3 e4
     subst e1 e2 e3 e4 h2
     have e0 : str [] = ⟨#[]⟩ := rfl
     rw [e0, bts2, ofNat_toNat_int, good2 (by omega), decide_eq_true (by omega)]
     exact ⟨rfl, r, rfl, rfl⟩
    ·rw [if_neg hc] at h; cases h
  ·rw [if_neg h2] at h
   by_cases h3 : k = 3
   ·rw [if_pos h3] at h
    match r, h with
    | [], h => cases h
    | [_], h => cases h
    | [_, _], h => cases h
    | [_, _, _], h => cases h
    | p :: q :: u :: v :: r, h =>
     dsimp only at h
     have hn := num4_lt p q u v
     by_cases hc : num4 p q u v ≤ 2000000000
     ·rw [if_pos hc] at h
      injection h with h; injection h with e1 h; injection h with e2 h; injection h with e3 e4
      subst e1 e2 e3 e4 h3
      have e0 : str [] = ⟨#[]⟩ := rfl
      rw [e0, bts3, w64 (by omega) (by omega), show num4 p q u v - 1000000000 + 1000000000 = num4 p q u v by omega, be4_num4, good3, decide_eq_true (by omega)]
      exact ⟨rfl, r, rfl, rfl⟩
     ·rw [if_neg hc] at h; cases h
   ·rw [if_neg h3] at h
    by_cases h4 : k = 4
    ·rw [if_pos h4] at h
     cases hr : readT r with
     | none => rw [hr] at h; cases h
     | some p =>
      obtain ⟨t1, n1⟩ := p
      rw [hr] at h
      dsimp only at h
      by_cases hc : t1.length ≤ 12
      ·rw [if_pos hc] at h
       injection h with h; injection h with e1 h; injection h with e2 h; injection h with e3 e4
       obtain ⟨s, hs, hn⟩ := readT_back _ r t1 n1 (Nat.le_refl _) hr
       subst e1 e2 e3 e4 h4 hs hn
       rw [bts4, str_list, good4, str_size, decide_eq_true hc]
       refine ⟨rfl, s, by simp, ?_⟩
       simp only [List.length_cons, List.length_append, List.length_nil]
       omega
      ·rw [if_neg hc] at h; cases h
    ·rw [if_neg h4] at h
     by_cases h1 : k = 1
     ·rw [if_pos h1] at h
      injection h with h; injection h with e1 h; injection h with e2 h; injection h with e3 e4
      subst e1 e2 e3 e4 h1
      have e0 : str [] = ⟨#[]⟩ := rfl
      rw [e0, bts1]
      exact ⟨good1, r, rfl, rfl⟩
     ·rw [if_neg h1] at h; cases h
theorem or_add {i : Nat} (x y : Int) (h0 : 0 ≤ x) (h1 : x < 4611686018427387904) (hd : ∃ m : Nat, x = ((2 ^ i * m : Nat) : Int)) (h2 : 0 ≤ y) (h3 : y < ((2 ^ i : Nat) : Int)) (h4 : y < 4611686018427387904) : Go.bits .or .i64 x y = x + y := by
 obtain ⟨m, rfl⟩ := hd
 obtain ⟨n, rfl⟩ := Int.eq_ofNat_of_zero_le h2
 have hn : n < 2 ^ i := by omega
 have e := Nat.two_pow_add_eq_or_of_lt hn m
 have z1 : (BitVec.ofInt 64 ((2 ^ i * m : Nat) : Int)).toNat = 2 ^ i * m := by
  rw [BitVec.ofInt_natCast, BitVec.toNat_ofNat, Nat.mod_eq_of_lt (by omega)]
 have z2 : (BitVec.ofInt 64 ((n : Nat) : Int)).toNat = n := by
  rw [BitVec.ofInt_natCast, BitVec.toNat_ofNat, Nat.mod_eq_of_lt (by omega)]
 show IntKind.i64.wrap (((BitVec.ofInt 64 ((2 ^ i * m : Nat) : Int) ||| BitVec.ofInt 64 ((n : Nat) : Int)).toNat : Nat) : Int) = _
 rw [BitVec.toNat_or, z1, z2, ← e]
 rw [i64_w, w64 (by omega) (by omega)]
 rw [Int.natCast_add]
theorem ints_cons (c : UInt8) (l : List UInt8) : ints (c :: l) = (c.toNat : Int) :: ints l := rfl
theorem str_cons_add (x : List Int) (c : UInt8) (t : List UInt8) : x ++ [(c.toNat : Int)] ++ ints t = x ++ ints (c :: t) := by rw [ints_cons]; simp
theorem ex_list (s : ByteArray) (i j : Nat) : (s.extract i j).toList = (s.toList.drop i).take (j - i) := by
 rw [ByteArray.toList_eq, ByteArray.toList_eq, ByteArray.data_extract, Array.toList_extract, List.extract_eq_take_drop]
theorem ex_tail (s : ByteArray) (i : Nat) : (s.extract i s.size).toList = s.toList.drop i := by
 rw [ex_list, List.take_of_length_le (by rw [List.length_drop, size_toList]; omega)]
theorem readTextI (s : ByteArray) (hs : s.size ≤ 1000000) : ∀ (d i : Nat) (x : List Int), i + d = s.size → x.length ≤ i → Ev (fun k => impl_readText.l0 k s x (i : Int)) (match readT (s.toList.drop i) with
  | some (t, n) => (strOfNums (x ++ ints t), (i : Int) + (n : Int), true)
  | none => (⟨#[]⟩, 0, false)) := by
 intro d
 induction d using Nat.strongRecOn with
 | ind d ih =>
  intro i x hi hx
  by_cases h0 : d = 0
  ·rw [List.drop_eq_nil_of_le (by rw [size_toList]; omega)]
   exact Ev.step (f := fun _ => some (⟨#[]⟩, 0, false)) (fun k => by simp only [impl_readText.l0]; rw [if_neg (by omega)]) (Ev.now _)
  ·have hlt : i < s.size := by omega
   have hg := bt_get s i hlt
   rw [drop_at s.toList i (by rw [size_toList]; omega)]
   generalize hc0 : s.toList.getD i 0 = c at hg ⊢
   by_cases hc : c = 0
   ·subst hc
    have hb : bt s (i : Int) = 0 := by rw [hg]; rfl
    have w : wrap64 ((i : Int) + 1) = ((i + 1 : Nat) : Int) := by rw [w64 (by omega) (by omega)]; omega
    by_cases h1 : i + 1 < s.size
    ·have hg1 := bt_get s (i + 1) h1
     rw [drop_at s.toList (i + 1) (by rw [size_toList]; omega)]
     generalize hd0 : s.toList.getD (i + 1) 0 = dd at hg1 ⊢
     refine Ev.step (f := fun k => impl_readText.j1 k s x ((i + 1 : Nat) : Int) (bt s ((i + 1 : Nat) : Int) == 0)) (fun k => ?_) ?_
     ·simp only [impl_readText.l0]
      rw [if_pos (by omega), if_pos (by omega), if_pos hb, w, if_pos (by omega), if_pos (by omega)]
     ·rw [readT, if_neg (by simp)]
      by_cases hd : dd = 0
      ·rw [if_pos hd, hg1, hd]
       refine Ev.step (f := fun _ => some (strOfNums x, wrap64 (((i + 1 : Nat) : Int) + 1), true)) (fun k => ?_) (ev_eq (Ev.now _) ?_)
       ·simp only [impl_readText.j1]; rw [if_pos (by decide)]
       ·rw [w64 (by omega) (by omega)]
        show _ = (strOfNums (x ++ []), (i : Int) + ((2 : Nat) : Int), true)
        rw [List.append_nil]
        congr 2
      ·rw [if_neg hd]
       have hz : ¬ ((dd.toNat : Int) == 0) = true := fun e => hd (UInt8.toNat_inj.1 (by have := beq_iff_eq.1 e; show dd.toNat = 0; omega))
       by_cases hd2 : dd = 255
       ·rw [if_pos hd2]
        have hr := ih (d - 2) (by omega) (i + 2) (x ++ [0]) (by omega) (by rw [List.length_append]; simp only [List.length_cons, List.length_nil]; omega)
        refine Ev.step (f := fun k => impl_readText.l0 k s (x ++ [0]) ((i + 2 : Nat) : Int)) (fun k => ?_) (ev_eq hr ?_)
        ·simp only [impl_readText.j1]
         rw [if_neg (by rw [hg1]; exact hz), if_neg (by omega), if_pos (by omega), if_pos (by omega), if_pos (by rw [hg1, hd2]; rfl), if_pos (by omega), w64 (x := ((i + 1 : Nat) : Int) + 1) (by omega) (by omega)]
         congr 1
        ·cases readT (s.toList.drop (i + 2)) with
         | none => rfl
         | some p =>
          show (strOfNums (x ++ [0] ++ ints p.1), ((i + 2 : Nat) : Int) + (p.2 : Int), true) = (strOfNums (x ++ ints (0 :: p.1)), (i : Int) + ((p.2 + 2 : Nat) : Int), true)
          rw [show (0 : Int) = ((0 : UInt8).toNat : Int) from rfl, str_cons_add]
          congr 2
          omega
       ·rw [if_neg hd2]
        refine Ev.step (f := fun _ => some (⟨#[]⟩, 0, false)) (fun k => ?_) (Ev.now _)
        simp only [impl_readText.j1]
        rw [if_neg (by rw [hg1]; exact hz), if_neg (by omega), if_pos (by omega), if_pos (by omega), if_neg]
        rw [hg1]
        intro e
        exact hd2 (UInt8.toNat_inj.1 (by show dd.toNat = 255; omega))
    ·rw [List.drop_eq_nil_of_le (by rw [size_toList]; omega)]
     refine Ev.step (f := fun k => impl_readText.j1 k s x ((i + 1 : Nat) : Int) false) (fun k => ?_) (Ev.step (f := fun _ => some (⟨#[]⟩, 0, false)) (fun k => ?_) (Ev.now _))
     ·simp only [impl_readText.l0]
      rw [if_pos (by omega), if_pos (by omega), if_pos hb, w, if_neg (by omega)]
     ·simp only [impl_readText.j1]
      rw [if_neg (by simp), if_pos (by omega)]
   ·have hb : ¬ bt s (i : Int) = 0 := by
     rw [hg]
     intro e
     exact hc (UInt8.toNat_inj.1 (by show c.toNat = 0; omega))
    have hr := ih (d - 1) (by omega) (i + 1) (x ++ [bt s (i : Int)]) (by omega) (by rw [List.length_append]; simp only [List.length_cons, List.length_nil]; omega)
    refine Ev.step (f := fun k => impl_readText.l0 k s (x ++ [bt s (i : Int)]) ((i + 1 : Nat) : Int)) (fun k => ?_) (ev_eq hr ?_)
    ·simp only [impl_readText.l0]
     rw [if_pos (by omega), if_pos (by omega), if_neg hb, if_pos (by omega), w64 (x := (i : Int) + 1) (by omega) (by omega)]
     congr 1
    ·rw [readT_one hc, hg]
     cases readT (s.toList.drop (i + 1)) with
     | none => rfl
     | some p =>
      show (strOfNums (x ++ [(c.toNat : Int)] ++ ints p.1), ((i + 1 : Nat) : Int) + (p.2 : Int), true) = (strOfNums (x ++ ints (c :: p.1)), (i : Int) + ((p.2 + 1 : Nat) : Int), true)
      rw [str_cons_add]
      congr 2
      omega
end Go.Proofs.YtmfipefpmjcddaaDoor.QF
end
section
namespace Go.Proofs.YtmfipefpmjcddaaDoor.QH
open Go.RowKit Go.Proofs.YtmfipefpmjcddaaDoorW.PrintWords Go.Proofs.YtmfipefpmjcddaaDoorW.PrintLast Go.Proofs.YtmfipefpmjcddaaDoorW.PrintMore Go.Proofs.YtmfipefpmjcddaaDoor.PB Go.Proofs.YtmfipefpmjcddaaDoor.PD Go.Proofs.YtmfipefpmjcddaaDoor.PT Go.Proofs.YtmfipefpmjcddaaDoor.QR Go.Proofs.YtmfipefpmjcddaaDoor.QV Go.Proofs.YtmfipefpmjcddaaDoor.QE Go.Proofs.YtmfipefpmjcddaaDoor.QF Go.Proofs.YtmfipefpmjcddaaDoor.PA
set_option linter.unusedVariables false
def candV : List UInt8 → Int × Int × ByteArray
 | [] => (0, 0, ⟨#[]⟩)
 | k :: r =>
  if k = 2 then (match r with
   | [] => (2, 0, ⟨#[]⟩)
   | b :: _ => (2, (b.toNat : Int), ⟨#[]⟩))
  else if k = 3 then (match r with
   | p :: q :: u :: v :: _ => (3, num4 p q u v - 1000000000, ⟨#[]⟩)
   | _ => (3, 0, ⟨#[]⟩))
  else if k = 4 then (4, 0, str (cand r)) else ((k.toNat : Int), 0, ⟨#[]⟩)
theorem candV_ok {l : List UInt8} {a b : Int} {t : List UInt8} {n : Nat} (h : readV l = some (a, b, t, n)) : candV l = (a, b, str t) := by
 cases l with
 | nil => cases h
 | cons k r =>
  simp only [readV] at h
  simp only [candV]
  by_cases h2 : k = 2
  ·rw [if_pos h2] at h ⊢
   cases r with
   | nil => cases h
   | cons c r =>
    dsimp only at h ⊢
    by_cases hc : c.toNat ≤ 1
    ·rw [if_pos hc] at h
     injection h with h; injection h with e1 h; injection h with e2 h; injection h with e3 e4
     subst e1 e2 e3; rfl
    ·rw [if_neg hc] at h; cases h
  ·rw [if_neg h2] at h ⊢
   by_cases h3 : k = 3
   ·rw [if_pos h3] at h ⊢
    match r, h with
    | [], h => cases h
    | [_], h => cases h
    | [_, _], h => cases h
    | [_, _, _], h => cases h
    | p :: q :: u :: v :: r, h =>
     dsimp only at h ⊢
     by_cases hc : num4 p q u v ≤ 2000000000
     ·rw [if_pos hc] at h
      injection h with h; injection h with e1 h; injection h with e2 h; injection h with e3 e4
      subst e1 e2 e3; rfl
     ·rw [if_neg hc] at h; cases h
   ·rw [if_neg h3] at h ⊢
    by_cases h4 : k = 4
    ·rw [if_pos h4] at h ⊢
     cases hr : readT r with
     | none => rw [hr] at h; cases h
     | some p =>
      obtain ⟨t1, n1⟩ := p
      rw [hr] at h
      dsimp only at h
      by_cases hc : t1.length ≤ 12
      ·rw [if_pos hc] at h
       injection h with h; injection h with e1 h; injection h with e2 h; injection h with e3 e4
       obtain ⟨s, hs, hn⟩ := readT_back _ r t1 n1 (Nat.le_refl _) hr
       subst e1 e2 e3 hs
       rw [cand_esc]
      ·rw [if_neg hc] at h; cases h
    ·rw [if_neg h4] at h ⊢
     by_cases h1 : k = 1
     ·rw [if_pos h1] at h
      injection h with h; injection h with e1 h; injection h with e2 h; injection h with e3 e4
      subst e1 e2 e3 h1; rfl
     ·rw [if_neg h1] at h; cases h
def fin (l : List UInt8) (i : Int) (v : Int × Int × ByteArray) : Int × Int × ByteArray × Int :=
 if goodV v.1 v.2.1 v.2.2 = true ∧ l.take (bts v.1 v.2.1 v.2.2).length = bts v.1 v.2.1 v.2.2 then (v.1, v.2.1, v.2.2, i + ((bts v.1 v.2.1 v.2.2).length : Int)) else (0, 0, ⟨#[]⟩, -1)
theorem fin_read (l : List UInt8) (i : Int) : fin l i (candV l) = (match readV l with
  | some (a, b, t, n) => (a, b, str t, i + (n : Int))
  | none => (0, 0, ⟨#[]⟩, -1)) := by
 cases h : readV l with
 | some p =>
  obtain ⟨a, b, t, n⟩ := p
  rw [candV_ok h]
  obtain ⟨g, m, e, hn⟩ := readV_back h
  unfold fin
  dsimp only
  rw [if_pos ⟨g, by conv => { lhs; arg 2; rw [e] }; rw [List.take_left]⟩, hn]
 | none =>
  unfold fin
  refine if_neg ?_
  rintro ⟨g, e⟩
  have := readV_bts g (l.drop (bts (candV l).1 (candV l).2.1 (candV l).2.2).length)
  conv at this => { lhs; arg 1; lhs; rw [← e] }
  rw [List.take_append_drop, h] at this
  cases this
theorem fourS (s : ByteArray) (hs : s.size ≤ 600) (i : Nat) (hi : i < s.size) (a b : Int) (x : ByteArray) (hx : x.size ≤ 100000) : Ev (fun k => spec_l4Read.j4 k s (i : Int) a b x) (fin (s.toList.drop i) (i : Int) (a, b, x)) := by
 unfold fin
 dsimp only
 have hz : (strOfNums (valI a b x)).size = (bts a b x).length := (size_toList _).symm
 have hb := valI_len a b x
 have hz2 : (strOfNums (valI a b x)).size = (valI a b x).length := strOfNums_size _
 have st : ∀ {r}, Ev (fun k => if goodV a b x = true then (spec_l4Bytes.f k a b x).bind fun t => if (s.size : Int) < wrap64 ((i : Int) + (t.size : Int)) then some (0, 0, (⟨#[]⟩ : ByteArray), -1) else if 0 ≤ (i : Int) then if (i : Int) ≤ wrap64 ((i : Int) + (t.size : Int)) then if wrap64 ((i : Int) + (t.size : Int)) ≤ (s.size : Int) then if (s.extract (i : Int).toNat (wrap64 ((i : Int) + (t.size : Int))).toNat).toList = t.toList then some (a, b, x, wrap64 ((i : Int) + (t.size : Int))) else some (0, 0, ⟨#[]⟩, -1) else none else none else none else some (0, 0, ⟨#[]⟩, -1)) r → Ev (fun k => spec_l4Read.j4 k s (i : Int) a b x) r := by
  intro r h
  refine Ev.step (fun k => ?_) h
  simp only [spec_l4Read.j4]
  rw [goodVS]
  rfl
 refine st ?_
 cases g : goodV a b x with
 | false => exact ev_neg (by simp) (ev_eq (Ev.now _) (by rw [if_neg (by simp)]))
 | true =>
  have w : wrap64 ((i : Int) + ((strOfNums (valI a b x)).size : Int)) = ((i + (bts a b x).length : Nat) : Int) := by rw [hz, w64 (by omega) (by omega)]; omega
  refine ev_pos rfl (ev_bind (bytesVS a b x hx) ?_)
  rw [w]
  by_cases hl : s.size < i + (bts a b x).length
  ·refine ev_pos (by omega) (ev_eq (Ev.now _) ?_)
   rw [if_neg]
   rintro ⟨_, e⟩
   have := congrArg List.length e
   rw [List.length_take, List.length_drop] at this
   have hL := size_toList s
   omega
  ·refine ev_neg (by omega) (ev_pos (by omega) (ev_pos (by omega) (ev_pos (by omega) ?_)))
   have e : (s.extract (i : Int).toNat ((i + (bts a b x).length : Nat) : Int).toNat).toList = (s.toList.drop i).take (bts a b x).length := by
    rw [Int.toNat_natCast, Int.toNat_natCast, ex_list]
    congr 1
    omega
   rw [e]
   by_cases t : (s.toList.drop i).take (bts a b x).length = bts a b x
   ·exact ev_pos t (ev_eq (Ev.now _) (by rw [if_pos ⟨rfl, t⟩]; rw [Int.natCast_add]))
   ·exact ev_neg t (ev_eq (Ev.now _) (by rw [if_neg (fun z => t z.2)]))
theorem candS (s : ByteArray) (i : Int) (x : ByteArray) (hx : x.size ≤ 1000) (F : Int × Int × ByteArray × Int) (a b : Int) (y0 : List Int) (R : ByteArray → Int × Int × ByteArray × Int) (hR : ∀ y : ByteArray, y.size ≤ 10000 → Ev (fun k => spec_l4Read.j4 k s i a b y) (R y)) : ∀ (d j : Nat) (y : List Int), j + d = x.size → y.length ≤ j → ∀ z, Ev (fun k => spec_l4Read.l0 k s i x y (j : Int) a b z) (R (strOfNums (y ++ ints (cand (x.toList.drop j))))) := by
 intro d
 induction d using Nat.strongRecOn with
 | ind d ih =>
  intro j y hj hy z
  by_cases h0 : d = 0
  ·rw [List.drop_eq_nil_of_le (by rw [size_toList]; omega)]
   have e : y ++ ints (cand []) = y := List.append_nil y
   rw [e]
   refine Ev.step (f := fun k => spec_l4Read.j3 k s i x y (j : Int) false a b z) (fun k => ?_) (Ev.step (f := fun k => spec_l4Read.j4 k s i a b (strOfNums y)) (fun k => ?_) (hR _ (by rw [strOfNums_size]; omega)))
   ·simp only [spec_l4Read.l0]; rw [w64 (by omega) (by omega), if_neg (by omega)]
   ·simp only [spec_l4Read.j3]; rw [if_neg (by simp)]
  ·have hlt : j < x.size := by omega
   have hg := bt_get x j hlt
   have w : wrap64 ((j : Int) + 1) = ((j + 1 : Nat) : Int) := by rw [w64 (by omega) (by omega)]; omega
   rw [drop_at x.toList j (by rw [size_toList]; omega)]
   generalize hc0 : x.toList.getD j 0 = c at hg ⊢
   by_cases h1 : j + 1 < x.size
   ·have hg1 := bt_get x (j + 1) h1
    have hd := drop_at x.toList (j + 1) (by rw [size_toList]; omega)
    generalize hd0 : x.toList.getD (j + 1) 0 = dd at hg1 hd
    by_cases hc : c = 0
    ·subst hc
     have hb : bt x (j : Int) = 0 := by rw [hg]; rfl
     rw [hd]
     by_cases hd2 : dd = 0
     ·subst hd2
      have e : y ++ ints (cand (0 :: 0 :: x.toList.drop (j + 1 + 1))) = y := List.append_nil y
      rw [e]
      refine Ev.step (f := fun k => spec_l4Read.j3 k s i x y (j : Int) false a b z) (fun k => ?_) (Ev.step (f := fun k => spec_l4Read.j4 k s i a b (strOfNums y)) (fun k => ?_) (hR _ (by rw [strOfNums_size]; omega)))
      ·simp only [spec_l4Read.l0]
       rw [w, if_pos (by omega), if_pos (by omega), if_pos (by omega), if_pos hb, if_pos (by omega), hg1]
       rfl
      ·simp only [spec_l4Read.j3]; rw [if_neg (by simp)]
     ·have hz : (!(bt x ((j + 1 : Nat) : Int) == 0)) = true := by
       rw [hg1, beq_eq_false_iff_ne.2]
       ·rfl
       ·intro e; exact hd2 (UInt8.toNat_inj.1 (by show dd.toNat = 0; omega))
      have hr := ih (d - 2) (by omega) (j + 2) (y ++ [0]) (by omega) (by rw [List.length_append]; simp only [List.length_cons, List.length_nil]; omega) z
      have e : cand (0 :: dd :: x.toList.drop (j + 1 + 1)) = 0 :: cand (x.toList.drop (j + 2)) := by rw [cand, if_pos rfl, if_neg hd2]
      rw [e, ints_cons, show (((0 : UInt8).toNat : Int)) = 0 from rfl]
      refine Ev.step (f := fun k => spec_l4Read.j3 k s i x y (j : Int) true a b z) (fun k => ?_) (Ev.step (f := fun k => spec_l4Read.l0 k s i x (y ++ [0]) ((j + 2 : Nat) : Int) a b z) (fun k => ?_) (ev_eq hr ?_))
      ·simp only [spec_l4Read.l0]
       rw [w, if_pos (by omega), if_pos (by omega), if_pos (by omega), if_pos hb, if_pos (by omega), hz]
      ·simp only [spec_l4Read.j3]
       rw [if_pos trivial, if_pos (by omega), if_pos (by omega), if_pos (by omega), hb, w]
       simp only [Option.bind_some]
       rw [if_pos trivial, w64 (x := ((j + 1 : Nat) : Int) + 1) (by omega) (by omega)]
       congr 1
      ·rw [List.append_assoc]; rfl
    ·have hb : ¬ bt x (j : Int) = 0 := by
      rw [hg]
      intro e
      exact hc (UInt8.toNat_inj.1 (by show c.toNat = 0; omega))
     have hr := ih (d - 1) (by omega) (j + 1) (y ++ [bt x (j : Int)]) (by omega) (by rw [List.length_append]; simp only [List.length_cons, List.length_nil]; omega) z
     have e : cand (c :: x.toList.drop (j + 1)) = c :: cand (x.toList.drop (j + 1)) := cand_one hc (by rw [hd]; simp)
     rw [e, ints_cons, ← hg]
     refine Ev.step (f := fun k => spec_l4Read.j3 k s i x y (j : Int) true a b z) (fun k => ?_) (Ev.step (f := fun k => spec_l4Read.l0 k s i x (y ++ [bt x (j : Int)]) ((j + 1 : Nat) : Int) a b z) (fun k => ?_) (ev_eq hr ?_))
     ·simp only [spec_l4Read.l0]
      rw [w, if_pos (by omega), if_pos (by omega), if_pos (by omega), if_neg hb]
      rfl
     ·simp only [spec_l4Read.j3]
      rw [if_pos trivial, if_pos (by omega), if_pos (by omega), if_pos (by omega), w]
      simp only [Option.bind_some]
      rw [if_neg hb]
     ·rw [List.append_assoc]; rfl
   ·have e : cand (c :: x.toList.drop (j + 1)) = [] := by rw [List.drop_eq_nil_of_le (by rw [size_toList]; omega)]; rfl
    rw [e, show ints [] = [] from rfl, List.append_nil]
    refine Ev.step (f := fun k => spec_l4Read.j3 k s i x y (j : Int) false a b z) (fun k => ?_) (Ev.step (f := fun k => spec_l4Read.j4 k s i a b (strOfNums y)) (fun k => ?_) (hR _ (by rw [strOfNums_size]; omega)))
    ·simp only [spec_l4Read.l0]; rw [w, if_neg (by omega)]
    ·simp only [spec_l4Read.j3]; rw [if_neg (by simp)]
theorem u8_ne {k c : UInt8} (h : k ≠ c) : ¬ (k.toNat : Int) = (c.toNat : Int) := fun e => h (UInt8.toNat_inj.1 (by omega))
theorem bt_cons {x : ByteArray} {l : List UInt8} (hx : x.toList = l) (j : Nat) (h : j < l.length) : bt x (j : Int) = ((l.getD j 0).toNat : Int) := by
 rw [bt_get x j (by rw [← size_toList, hx]; exact h), hx]
theorem readS (s : ByteArray) (hs : s.size ≤ 600) (i : Nat) (hi : i < s.size) : Ev (fun k => spec_l4Read.f k s (i : Int)) (match readV (s.toList.drop i) with
  | some (a, b, t, n) => (a, b, str t, (i : Int) + (n : Int))
  | none => (0, 0, ⟨#[]⟩, -1)) := by
 rw [← fin_read]
 have F := fourS s hs i hi
 have hd := drop_at s.toList i (by rw [size_toList]; omega)
 have hg := bt_get s i hi
 have w : wrap64 ((i : Int) + 1) = ((i + 1 : Nat) : Int) := by rw [w64 (by omega) (by omega)]; omega
 generalize s.toList.getD i 0 = c at hg hd
 have hxl : (s.extract (((i + 1 : Nat) : Int)).toNat s.size).toList = s.toList.drop (i + 1) := by rw [Int.toNat_natCast, ex_tail]
 have hxz : (s.extract (((i + 1 : Nat) : Int)).toNat s.size).size = s.size - (i + 1) := by rw [← size_toList, hxl, List.length_drop, size_toList]
 unfold spec_l4Read.f
 refine ev_pos (by omega) (ev_pos (by omega) ?_)
 rw [w]
 refine ev_pos (by omega) (ev_pos (by omega) ?_)
 generalize s.extract (((i + 1 : Nat) : Int)).toNat s.size = x at hxl hxz ⊢
 generalize hr : s.toList.drop (i + 1) = r at hd hxl
 have hrl : r.length = x.size := by rw [← hxl, size_toList]
 have hcl := UInt8.toNat_lt c
 have wc : wrap64 (bt s (i : Int)) = (c.toNat : Int) := by rw [hg, w64 (by omega) (by omega)]
 rw [wc]
 rw [hd] at F ⊢
 simp only [candV]
 by_cases h2 : c = 2
 ·subst h2
  rw [if_pos rfl]
  refine ev_pos rfl ?_
  cases r with
  | nil =>
   simp only [List.length_nil] at hrl
   refine Ev.step (f := fun k => spec_l4Read.j1 k s (i : Int) x false ((2 : UInt8).toNat : Int) 0 ⟨#[]⟩) (fun k => ?_) (Ev.step (f := fun k => spec_l4Read.j4 k s (i : Int) ((2 : UInt8).toNat : Int) 0 ⟨#[]⟩) (fun k => ?_) (F 2 0 ⟨#[]⟩ (by decide)))
   ·simp only [spec_l4Read.j0]
    rw [decide_eq_false (by omega), if_neg (by simp), if_neg (by decide)]
   ·simp only [spec_l4Read.j1]
    rw [if_neg (by simp), if_neg (by decide)]
  | cons b r =>
   simp only [List.length_cons] at hrl
   have hb := bt_cons hxl 0 (by simp)
   have hb' : bt x 0 = (b.toNat : Int) := hb
   have := UInt8.toNat_lt b
   refine Ev.step (f := fun k => spec_l4Read.j4 k s (i : Int) ((2 : UInt8).toNat : Int) (b.toNat : Int) ⟨#[]⟩) (fun k => ?_) (F 2 (b.toNat : Int) ⟨#[]⟩ (by decide))
   simp only [spec_l4Read.j0]
   rw [decide_eq_true (by omega), if_pos rfl, if_pos (by omega), hb', w64 (by omega) (by omega)]
 ·rw [if_neg h2]
  refine ev_neg (u8_ne h2) ?_
  by_cases h3 : c = 3
  ·subst h3
   rw [if_pos rfl]
   by_cases hl : 3 < x.size
   ·match r, hrl with
    | [], hrl => simp only [List.length_nil] at hrl; omega
    | [_], hrl => simp only [List.length_cons, List.length_nil] at hrl; omega
    | [_, _], hrl => simp only [List.length_cons, List.length_nil] at hrl; omega
    | [_, _, _], hrl => simp only [List.length_cons, List.length_nil] at hrl; omega
    | p :: q :: u :: v :: r, hrl =>
     have b0 : bt x 0 = (p.toNat : Int) := bt_cons hxl 0 (by simp)
     have b1 : bt x 1 = (q.toNat : Int) := bt_cons hxl 1 (by simp)
     have b2 : bt x 2 = (u.toNat : Int) := bt_cons hxl 2 (by simp)
     have b3 : bt x 3 = (v.toNat : Int) := bt_cons hxl 3 (by simp)
     have l1 := UInt8.toNat_lt p; have l2 := UInt8.toNat_lt q; have l3 := UInt8.toNat_lt u; have l4 := UInt8.toNat_lt v
     refine Ev.step (f := fun k => spec_l4Read.j1 k s (i : Int) x true ((3 : UInt8).toNat : Int) 0 ⟨#[]⟩) (fun k => ?_) (Ev.step (f := fun k => spec_l4Read.j4 k s (i : Int) ((3 : UInt8).toNat : Int) (num4 p q u v - 1000000000) ⟨#[]⟩) (fun k => ?_) (F 3 (num4 p q u v - 1000000000) ⟨#[]⟩ (by decide)))
     ·simp only [spec_l4Read.j0]
      rw [if_neg (by simp), if_pos (by decide), decide_eq_true (by omega)]
     ·simp only [spec_l4Read.j1]
      rw [if_pos trivial, if_pos (by omega), if_pos (by omega), if_pos (by omega), if_pos (by omega), b0, b1, b2, b3]
      congr 1
      unfold num4
      rw [w64 (x := (p.toNat : Int)) (by omega) (by omega), w64 (x := (q.toNat : Int)) (by omega) (by omega), w64 (x := (u.toNat : Int)) (by omega) (by omega), w64 (x := (v.toNat : Int)) (by omega) (by omega), w64 (x := (p.toNat : Int) * 16777216) (by omega) (by omega), w64 (x := (q.toNat : Int) * 65536) (by omega) (by omega), w64 (x := (u.toNat : Int) * 256) (by omega) (by omega), w64 (x := (p.toNat : Int) * 16777216 + (q.toNat : Int) * 65536) (by omega) (by omega), w64 (x := (p.toNat : Int) * 16777216 + (q.toNat : Int) * 65536 + (u.toNat : Int) * 256) (by omega) (by omega), w64 (x := (p.toNat : Int) * 16777216 + (q.toNat : Int) * 65536 + (u.toNat : Int) * 256 + (v.toNat : Int)) (by omega) (by omega), w64 (by omega) (by omega)]
   ·have e : (match r with | p :: q :: u :: v :: _ => ((3 : Int), num4 p q u v - 1000000000, (⟨#[]⟩ : ByteArray)) | _ => (3, 0, ⟨#[]⟩)) = (3, 0, ⟨#[]⟩) := by
     match r, hrl with
     | [], _ => rfl
     | [_], _ => rfl
     | [_, _], _ => rfl
     | [_, _, _], _ => rfl
     | p :: q :: u :: v :: r, hrl => simp only [List.length_cons] at hrl; omega
    rw [e]
    refine Ev.step (f := fun k => spec_l4Read.j1 k s (i : Int) x false ((3 : UInt8).toNat : Int) 0 ⟨#[]⟩) (fun k => ?_) (Ev.step (f := fun k => spec_l4Read.j4 k s (i : Int) ((3 : UInt8).toNat : Int) 0 ⟨#[]⟩) (fun k => ?_) (F 3 0 ⟨#[]⟩ (by decide)))
    ·simp only [spec_l4Read.j0]
     rw [if_neg (by simp), if_pos (by decide), decide_eq_false (by omega)]
    ·simp only [spec_l4Read.j1]
     rw [if_neg (by simp), if_neg (by decide)]
  ·rw [if_neg h3]
   have n3 : ¬ ((c.toNat : Int)) = 3 := u8_ne h3
   refine Ev.step (f := fun k => spec_l4Read.j1 k s (i : Int) x false (c.toNat : Int) 0 ⟨#[]⟩) (fun k => ?_) ?_
   ·simp only [spec_l4Read.j0]
    rw [if_neg (by simp), if_neg n3]
   ·by_cases h4 : c = 4
    ·subst h4
     rw [if_pos rfl]
     have hcand : ∀ y : ByteArray, y.size ≤ 10000 → Ev (fun k => spec_l4Read.j4 k s (i : Int) 4 0 y) (fin (4 :: r) (i : Int) (4, 0, y)) := fun y hy => F 4 0 y (by omega)
     have hl := candS s (i : Int) x (by omega) (0, 0, ⟨#[]⟩, 0) 4 0 [] (fun y => fin (4 :: r) (i : Int) (4, 0, y)) hcand x.size 0 [] (by omega) (by simp) ⟨#[]⟩
     rw [List.drop_zero, hxl, List.nil_append] at hl
     refine Ev.step (f := fun k => spec_l4Read.l0 k s (i : Int) x [] ((0 : Nat) : Int) 4 0 ⟨#[]⟩) (fun k => ?_) hl
     simp only [spec_l4Read.j1]
     rw [if_neg (by simp), if_pos (by decide)]
     rfl
    ·rw [if_neg h4]
     have n4 : ¬ ((c.toNat : Int)) = 4 := u8_ne h4
     refine Ev.step (f := fun k => spec_l4Read.j4 k s (i : Int) (c.toNat : Int) 0 ⟨#[]⟩) (fun k => ?_) (F (c.toNat : Int) 0 ⟨#[]⟩ (by decide))
     simp only [spec_l4Read.j1]
     rw [if_neg (by simp), if_neg n4]
end Go.Proofs.YtmfipefpmjcddaaDoor.QH
end
section
namespace Go.Proofs.YtmfipefpmjcddaaDoor.QI
open Go.RowKit Go.Proofs.YtmfipefpmjcddaaDoorW.PrintWords Go.Proofs.YtmfipefpmjcddaaDoorW.PrintLast Go.Proofs.YtmfipefpmjcddaaDoorW.PrintMore Go.Proofs.YtmfipefpmjcddaaDoor.PB Go.Proofs.YtmfipefpmjcddaaDoor.PD Go.Proofs.YtmfipefpmjcddaaDoor.PT Go.Proofs.YtmfipefpmjcddaaDoor.QR Go.Proofs.YtmfipefpmjcddaaDoor.QV Go.Proofs.YtmfipefpmjcddaaDoor.QE Go.Proofs.YtmfipefpmjcddaaDoor.QF Go.Proofs.YtmfipefpmjcddaaDoor.QH Go.Proofs.YtmfipefpmjcddaaDoor.PA
set_option linter.unusedVariables false
def ansV (o : Option (Int × Int × List UInt8 × Nat)) : Int × Int × ByteArray × Int × Bool := match o with
 | some (a, b, t, n) => (a, b, str t, (n : Int), true)
 | none => (0, 0, ⟨#[]⟩, 0, false)
theorem or4 (p q u v : UInt8) : Go.bits .or .i64 (Go.bits .or .i64 (Go.bits .or .i64 ((p.toNat : Int) * 16777216) ((q.toNat : Int) * 65536)) ((u.toNat : Int) * 256)) (v.toNat : Int) = num4 p q u v := by
 have l1 := UInt8.toNat_lt p; have l2 := UInt8.toNat_lt q; have l3 := UInt8.toNat_lt u; have l4 := UInt8.toNat_lt v
 rw [or_add (i := 24) ((p.toNat : Int) * 16777216) ((q.toNat : Int) * 65536) (by omega) (by omega) ⟨p.toNat, by omega⟩ (by omega) (by omega) (by omega)]
 rw [or_add (i := 16) ((p.toNat : Int) * 16777216 + (q.toNat : Int) * 65536) ((u.toNat : Int) * 256) (by omega) (by omega) ⟨p.toNat * 256 + q.toNat, by omega⟩ (by omega) (by omega) (by omega)]
 rw [or_add (i := 8) ((p.toNat : Int) * 16777216 + (q.toNat : Int) * 65536 + (u.toNat : Int) * 256) (v.toNat : Int) (by omega) (by omega) ⟨p.toNat * 65536 + q.toNat * 256 + u.toNat, by omega⟩ (by omega) (by omega) (by omega)]
 rfl
theorem readI (s : ByteArray) (hs : s.size ≤ 1000) : Ev (fun k => impl_readValue.f k s) (ansV (readV s.toList)) := by
 unfold impl_readValue.f
 by_cases h0 : s.toList = []
 ·refine ev_pos h0 ?_
  rw [h0]
  exact Ev.now _
 refine ev_neg h0 ?_
 have hsz : 0 < s.size := by
  rw [← size_toList]
  exact List.length_pos_iff.2 h0
 refine ev_pos (by omega) (ev_pos (by omega) ?_)
 have hg := bt_get s 0 hsz
 have hg' : bt s 0 = ((s.toList.getD 0 0).toNat : Int) := hg
 have hd := drop_at s.toList 0 (by rw [size_toList]; omega)
 rw [List.drop_zero] at hd
 generalize s.toList.getD 0 0 = c at hg' hd
 have hxl : (s.extract 1 s.size).toList = s.toList.drop 1 := ex_tail s 1
 generalize s.extract 1 s.size = x at hxl ⊢
 generalize hr : s.toList.drop (0 + 1) = r at hd
 rw [show s.toList.drop 1 = r from hr] at hxl
 have hrl : r.length = x.size := by rw [← hxl, size_toList]
 have hxs : x.size ≤ 1000 := by
  have := congrArg List.length hd
  rw [size_toList, List.length_cons] at this
  omega
 have hcl := UInt8.toNat_lt c
 have wc : wrap64 (bt s 0) = (c.toNat : Int) := by rw [hg', w64 (by omega) (by omega)]
 rw [wc, hd]
 simp only [readV]
 by_cases h2 : c = 2
 ·subst h2
  rw [if_pos rfl]
  refine ev_pos rfl ?_
  cases r with
  | nil => exact ev_pos hxl (Ev.now _)
  | cons b r =>
   simp only [List.length_cons] at hrl
   have hb : bt x 0 = (b.toNat : Int) := bt_cons hxl 0 (by simp)
   have := UInt8.toNat_lt b
   refine ev_neg (by rw [hxl]; simp) (ev_pos (by omega) ?_)
   rw [hb, w64 (x := (b.toNat : Int)) (by omega) (by omega)]
   refine ev_const (goodVI _ _ _) ?_
   rw [show ((2 : UInt8).toNat : Int) = 2 from rfl, good2 (by omega)]
   dsimp only
   by_cases h : b.toNat ≤ 1
   ·rw [if_pos h]
    exact ev_pos (decide_eq_true (by omega)) (Ev.now _)
   ·rw [if_neg h]
    exact ev_neg (by rw [decide_eq_false (by omega)]; simp) (Ev.now _)
 ·rw [if_neg h2]
  refine ev_neg (u8_ne h2) ?_
  by_cases h3 : c = 3
  ·subst h3
   rw [if_pos rfl]
   refine ev_pos rfl ?_
   by_cases hl : 3 < x.size
   ·match r, hrl with
    | [], hrl => simp only [List.length_nil] at hrl; omega
    | [_], hrl => simp only [List.length_cons, List.length_nil] at hrl; omega
    | [_, _], hrl => simp only [List.length_cons, List.length_nil] at hrl; omega
    | [_, _, _], hrl => simp only [List.length_cons, List.length_nil] at hrl; omega
    | p :: q :: u :: v :: r, hrl =>
     have b0 : bt x 0 = (p.toNat : Int) := bt_cons hxl 0 (by simp)
     have b1 : bt x 1 = (q.toNat : Int) := bt_cons hxl 1 (by simp)
     have b2 : bt x 2 = (u.toNat : Int) := bt_cons hxl 2 (by simp)
     have b3 : bt x 3 = (v.toNat : Int) := bt_cons hxl 3 (by simp)
     have l1 := UInt8.toNat_lt p; have l2 := UInt8.toNat_lt q; have l3 := UInt8.toNat_lt u; have l4 := UInt8.toNat_lt v
     have hn := num4_lt p q u v
     refine ev_neg (by omega) (ev_pos (by omega) (ev_pos (by omega) (ev_pos (by omega) (ev_pos (by omega) ?_))))
     rw [b0, b1, b2, b3, w64 (x := (p.toNat : Int)) (by omega) (by omega), w64 (x := (q.toNat : Int)) (by omega) (by omega), w64 (x := (u.toNat : Int)) (by omega) (by omega), w64 (x := (v.toNat : Int)) (by omega) (by omega), w64 (x := (p.toNat : Int) * 16777216) (by omega) (by omega), w64 (x := (q.toNat : Int) * 65536) (by omega) (by omega), w64 (x := (u.toNat : Int) * 256) (by omega) (by omega), or4, w64 (x := num4 p q u v - 1000000000) (by omega) (by omega)]
     refine ev_const (goodVI _ _ _) ?_
     rw [show ((3 : UInt8).toNat : Int) = 3 from rfl, good3]
     dsimp only
     by_cases h : num4 p q u v ≤ 2000000000
     ·rw [if_pos h]
      exact ev_pos (decide_eq_true (by omega)) (Ev.now _)
     ·rw [if_neg h]
      exact ev_neg (by rw [decide_eq_false (by omega)]; simp) (Ev.now _)
   ·match r, hrl with
    | [], _ => exact ev_pos (by omega) (Ev.now _)
    | [_], _ => exact ev_pos (by omega) (Ev.now _)
    | [_, _], _ => exact ev_pos (by omega) (Ev.now _)
    | [_, _, _], _ => exact ev_pos (by omega) (Ev.now _)
    | p :: q :: u :: v :: r, hrl => simp only [List.length_cons] at hrl; omega
  ·rw [if_neg h3]
   refine ev_neg (u8_ne h3) ?_
   by_cases h4 : c = 4
   ·subst h4
    rw [if_pos rfl]
    refine ev_pos rfl ?_
    have ht := readTextI x (by omega) x.size 0 [] (by omega) (by simp)
    rw [List.drop_zero, hxl] at ht
    have ht' : Ev (fun k => impl_readText.f k x) (match readT r with
      | some (t, n) => (str t, (n : Int), true)
      | none => (⟨#[]⟩, 0, false)) := by
     refine ev_eq (Ev.congr (fun k => rfl) ht) ?_
     cases readT r with
     | none => rfl
     | some p =>
      show (strOfNums ([] ++ ints p.1), ((0 : Nat) : Int) + (p.2 : Int), true) = (str p.1, (p.2 : Int), true)
      rw [show ((0 : Nat) : Int) + (p.2 : Int) = (p.2 : Int) by omega]
      rfl
    cases hR : readT r with
    | none => rw [hR] at ht'; exact ev_bind ht' (ev_neg (by simp) (Ev.now _))
    | some p =>
     obtain ⟨t, n⟩ := p
     rw [hR] at ht'
     refine ev_bind ht' (ev_pos rfl ?_)
     obtain ⟨m, hm, hn⟩ := readT_back _ r t n (Nat.le_refl _) hR
     have hnl : n ≤ r.length := by rw [hm, hn, List.length_append, List.length_cons, List.length_cons]; omega
     dsimp only
     refine ev_const (goodVI _ _ _) ?_
     rw [show ((4 : UInt8).toNat : Int) = 4 from rfl, good4, str_size]
     by_cases h : t.length ≤ 12
     ·rw [if_pos h]
      refine ev_pos (decide_eq_true h) (ev_eq (Ev.now _) ?_)
      rw [w64 (by omega) (by omega)]
      show (_, _, _, _, _) = ((4 : Int), (0 : Int), str t, ((1 + n : Nat) : Int), true)
      congr 4
     ·rw [if_neg h]
      exact ev_neg (by rw [decide_eq_false h]; simp) (Ev.now _)
   ·rw [if_neg h4]
    refine ev_neg (u8_ne h4) (ev_const (goodVI _ _ _) ?_)
    by_cases h1 : c = 1
    ·subst h1
     rw [if_pos rfl]
     exact ev_pos good1 (Ev.now _)
    ·rw [if_neg h1, good_no (u8_ne h1) (u8_ne h2) (u8_ne h3) (u8_ne h4)]
     exact ev_neg (by simp) (Ev.now _)
end Go.Proofs.YtmfipefpmjcddaaDoor.QI
end
section
namespace Go.Proofs.YtmfipefpmjcddaaDoor.QK
open Go.RowKit Go.Proofs.YtmfipefpmjcddaaDoorW.PrintWords Go.Proofs.YtmfipefpmjcddaaDoorW.PrintLast Go.Proofs.YtmfipefpmjcddaaDoorW.PrintMore Go.Proofs.YtmfipefpmjcddaaDoor.PB Go.Proofs.YtmfipefpmjcddaaDoor.PD Go.Proofs.YtmfipefpmjcddaaDoor.PT Go.Proofs.YtmfipefpmjcddaaDoor.QR Go.Proofs.YtmfipefpmjcddaaDoor.QV Go.Proofs.YtmfipefpmjcddaaDoor.QE Go.Proofs.YtmfipefpmjcddaaDoor.QF Go.Proofs.YtmfipefpmjcddaaDoor.QH Go.Proofs.YtmfipefpmjcddaaDoor.QI Go.Proofs.YtmfipefpmjcddaaDoor.PA
set_option linter.unusedVariables false
theorem readV_len {l : List UInt8} {a b : Int} {t : List UInt8} {n : Nat} (h : readV l = some (a, b, t, n)) : n ≤ l.length := by
 obtain ⟨_, m, e, hn⟩ := readV_back h
 rw [e, hn, List.length_append]; omega
theorem compI (a b : Int) : cmp_Compare_int.f a b = some (sgn a b) := by
 unfold cmp_Compare_int.f cmp_isNaN_int.f sgn
 simp only [Option.bind_some, bne_self_eq_false]
 rw [if_neg (by simp), if_neg (by simp)]
 split
 ·rfl
 ·split <;> rfl
theorem orI (a b c : Int) : Ev (fun k => cmp_Or_int.f k [a, b, c]) (if a = 0 then (if b = 0 then c else b) else a) := by
 unfold cmp_Or_int.f
 have r0 : rd [a, b, c] 0 = a := rfl
 have r1 : rd [a, b, c] 1 = b := rfl
 have r2 : rd [a, b, c] 2 = c := rfl
 have hl : (([a, b, c] : List Int).length : Int) = 3 := rfl
 rw [hl]
 have s3 : Ev (fun k => cmp_Or_int.l0 k 0 [a, b, c] 3 3) 0 := Ev.step (f := fun _ => some 0) (fun k => by simp only [cmp_Or_int.l0]; rw [if_neg (by omega)]) (Ev.now _)
 have s2 : Ev (fun k => cmp_Or_int.l0 k 0 [a, b, c] 3 2) c := by
  by_cases h : c = 0
  ·rw [h]
   rw [h] at s3 r2
   refine Ev.step (f := fun k => cmp_Or_int.l0 k 0 [a, b, 0] 3 3) (fun k => ?_) s3
   simp only [cmp_Or_int.l0]
   rw [if_pos (by omega), if_pos (by omega), if_pos (by show (2 : Int) < 3; omega), if_pos r2, show wrap64 (2 + 1) = 3 from w64 (by omega) (by omega)]
  ·refine Ev.step (f := fun _ => some c) (fun k => ?_) (Ev.now _)
   simp only [cmp_Or_int.l0]
   rw [if_pos (by omega), if_pos (by omega), if_pos (by show (2 : Int) < 3; omega), r2, if_neg h]
 have s1 : Ev (fun k => cmp_Or_int.l0 k 0 [a, b, c] 3 1) (if b = 0 then c else b) := by
  by_cases h : b = 0
  ·rw [if_pos h]
   refine Ev.step (f := fun k => cmp_Or_int.l0 k 0 [a, b, c] 3 2) (fun k => ?_) s2
   simp only [cmp_Or_int.l0]
   rw [if_pos (by omega), if_pos (by omega), if_pos (by show (1 : Int) < 3; omega), r1, if_pos h, show wrap64 (1 + 1) = 2 from w64 (by omega) (by omega)]
  ·rw [if_neg h]
   refine Ev.step (f := fun _ => some b) (fun k => ?_) (Ev.now _)
   simp only [cmp_Or_int.l0]
   rw [if_pos (by omega), if_pos (by omega), if_pos (by show (1 : Int) < 3; omega), r1, if_neg h]
 by_cases h : a = 0
 ·rw [if_pos h]
  refine Ev.step (f := fun k => cmp_Or_int.l0 k 0 [a, b, c] 3 1) (fun k => ?_) s1
  simp only [cmp_Or_int.l0]
  rw [if_pos (by omega), if_pos (by omega), if_pos (by show (0 : Int) < 3; omega), r0, if_pos h, show wrap64 (0 + 1) = 1 from w64 (by omega) (by omega)]
 ·rw [if_neg h]
  refine Ev.step (f := fun _ => some a) (fun k => ?_) (Ev.now _)
  simp only [cmp_Or_int.l0]
  rw [if_pos (by omega), if_pos (by omega), if_pos (by show (0 : Int) < 3; omega), r0, if_neg h]
theorem cmpI (a b : Int) (s : ByteArray) (a' b' : Int) (s' : ByteArray) : Ev (fun k => impl_Value_compare.f k a b s a' b' s') (cmpV a b s a' b' s') := by
 unfold impl_Value_compare.f strings_Compare.f
 refine ev_const (compI a a') (ev_const (compI b b') (ev_const rfl (ev_bind (orI _ _ _) (ev_eq (Ev.now _) ?_))))
 unfold cmpV
 rw [cmpL_lib, ← ByteArray.toList_eq, ← ByteArray.toList_eq]
 simp only [sgn_zero]
theorem cmpS (a b : Int) (s : ByteArray) (a' b' : Int) (s' : ByteArray) : spec_l4Compare.f a b s a' b' s' = some (cmpV a b s a' b' s') := by
 have sg : ∀ x y, spec_l4Sign.f x y = some (sgn x y) := by
  intro x y; unfold spec_l4Sign.f sgn
  split
  ·rfl
  ·split <;> rfl
 unfold spec_l4Compare.f cmpV
 rw [sg, sg, ← cmpL_less]
 by_cases h : a = a'
 ·rw [if_pos h, if_pos h]
  by_cases h2 : b = b'
  ·rw [if_pos h2, if_pos h2]
   split
   ·rfl
   ·split <;> rfl
  ·rw [if_neg h2, if_neg h2]; rfl
 ·rw [if_neg h, if_neg h]; rfl
def cvM (a b : Int) (s : ByteArray) (a' b' : Int) (s' : ByteArray) : Int × Bool := if goodV a b s = true then (if goodV a' b' s' = true then (cmpV a b s a' b' s', true) else (0, false)) else (0, false)
theorem compareI (a b : Int) (s : ByteArray) (a' b' : Int) (s' : ByteArray) : Ev (fun k => impl_CompareValues.f k a b s a' b' s') (cvM a b s a' b' s') := by
 unfold impl_CompareValues.f cvM
 refine ev_const (goodVI a b s) ?_
 by_cases h : goodV a b s = true
 ·rw [if_pos h]
  refine ev_pos h (ev_const (goodVI _ _ _) ?_)
  by_cases h2 : goodV a' b' s' = true
  ·rw [if_pos h2]
   exact ev_pos h2 (ev_bind (cmpI a b s a' b' s') (Ev.now _))
  ·rw [if_neg h2]
   exact ev_neg h2 (Ev.now _)
 ·rw [if_neg h]
  exact ev_neg h (Ev.now _)
end Go.Proofs.YtmfipefpmjcddaaDoor.QK
end
section
namespace Go.Proofs.YtmfipefpmjcddaaDoor.QL
open Go.RowKit Go.Proofs.YtmfipefpmjcddaaDoorW.PrintWords Go.Proofs.YtmfipefpmjcddaaDoorW.PrintLast Go.Proofs.YtmfipefpmjcddaaDoorW.PrintMore Go.Proofs.YtmfipefpmjcddaaDoor.PB Go.Proofs.YtmfipefpmjcddaaDoor.PD Go.Proofs.YtmfipefpmjcddaaDoor.QR Go.Proofs.YtmfipefpmjcddaaDoor.QV Go.Proofs.YtmfipefpmjcddaaDoor.QE Go.Proofs.YtmfipefpmjcddaaDoor.QF Go.Proofs.YtmfipefpmjcddaaDoor.PA
set_option linter.unusedVariables false
theorem cmpL_app : ∀ (x y s t : List UInt8), ¬ x <+: y → ¬ y <+: x → cmpL (x ++ s) (y ++ t) = cmpL x y := by
 intro x
 induction x with
 | nil => intro y s t h1 h2; exact absurd (List.nil_prefix) h1
 | cons a x ih => intro y s t h1 h2; cases y with
  | nil => exact absurd (List.nil_prefix) h2
  | cons b y =>
   rw [List.cons_append, List.cons_append]
   unfold cmpL
   by_cases hab : a < b
   ·rw [if_pos hab, if_pos hab]
   ·by_cases hba : b < a
    ·rw [if_neg hab, if_pos hba, if_neg hab, if_pos hba]
    ·have e := u8_tri hab hba
     subst e
     rw [if_neg hab, if_neg hba, if_neg hab, if_neg hba]
     exact ih y s t (fun h => h1 (List.cons_prefix_cons.2 ⟨rfl, h⟩)) (fun h => h2 (List.cons_prefix_cons.2 ⟨rfl, h⟩))
theorem cmpL_pre : ∀ (x s t : List UInt8), cmpL (x ++ s) (x ++ t) = cmpL s t := by
 intro x s t
 induction x with
 | nil => rfl
 | cons a x ih => rw [List.cons_append, List.cons_append, cmpL_cons, ih]
theorem bts_pre {a b : Int} {s : ByteArray} {a' b' : Int} {s' : ByteArray} (g : goodV a b s = true) (g' : goodV a' b' s' = true) {m m' : List UInt8} (h : bts a b s ++ m = bts a' b' s' ++ m') : a = a' ∧ b = b' ∧ s = s' := by
 have r1 := readV_bts g m
 have r2 := readV_bts g' m'
 rw [h, r2] at r1
 injection r1 with r1; injection r1 with e1 r1; injection r1 with e2 r1; injection r1 with e3 e4
 exact ⟨e1.symm, e2.symm, ba_ext e3.symm⟩
theorem bts_not_pre {a b : Int} {s : ByteArray} {a' b' : Int} {s' : ByteArray} (g : goodV a b s = true) (g' : goodV a' b' s' = true) (hne : cmpV a b s a' b' s' ≠ 0) : ¬ bts a b s <+: bts a' b' s' := by
 rintro ⟨m, hm⟩
 exact hne (cmpV_zero.2 (bts_pre g g' (m := m) (m' := []) (by rw [List.append_nil]; exact hm)))
def catB : List S39 → List UInt8
 | [] => []
 | x :: l => bts x.f0 x.f1 x.f2 ++ catB l
theorem rowV_list : ∀ (l : List S39) (a : ByteArray), (rowV a l).toList = a.toList ++ catB l := by
 intro l
 induction l with
 | nil => intro a; simp [rowV, catB]
 | cons x l ih => intro a; rw [rowV, ih, app_list, catB, List.append_assoc]
def cmpR : List S39 → List S39 → Int
 | [], [] => 0
 | [], _ :: _ => -1
 | _ :: _, [] => 1
 | x :: l, y :: m => if cmpV x.f0 x.f1 x.f2 y.f0 y.f1 y.f2 = 0 then cmpR l m else cmpV x.f0 x.f1 x.f2 y.f0 y.f1 y.f2
theorem bts_cons {a b : Int} {s : ByteArray} (g : goodV a b s = true) : ∃ c m, bts a b s = c :: m ∧ c < 255 := by
 rcases good_cases g with ⟨rfl, rfl, rfl⟩ | ⟨rfl, h0, h1, rfl⟩ | ⟨rfl, h0, h1, rfl⟩ | ⟨rfl, rfl, h0⟩
 ·exact ⟨_, _, bts1 _ _, by decide⟩
 ·exact ⟨_, _, bts2 _ _, by decide⟩
 ·exact ⟨_, _, bts3 _ _, by decide⟩
 ·exact ⟨_, _, bts4 _ _, by decide⟩
theorem orderR : ∀ (l m : List S39), (∀ x ∈ l, goodX x = true) → (∀ x ∈ m, goodX x = true) → cmpL (catB l) (catB m) = cmpR l m := by
 intro l
 induction l with
 | nil => intro m _ hm; cases m with
  | nil => rfl
  | cons y m =>
   obtain ⟨c, r, e, _⟩ := bts_cons (hm y List.mem_cons_self)
   rw [catB, catB, e]; rfl
 | cons x l ih => intro m hl hm; cases m with
  | nil =>
   obtain ⟨c, r, e, _⟩ := bts_cons (hl x List.mem_cons_self)
   rw [catB, catB, e]; rfl
  | cons y m =>
   have gx : goodV x.f0 x.f1 x.f2 = true := hl x List.mem_cons_self
   have gy : goodV y.f0 y.f1 y.f2 = true := hm y List.mem_cons_self
   rw [catB, catB, cmpR]
   by_cases h : cmpV x.f0 x.f1 x.f2 y.f0 y.f1 y.f2 = 0
   ·obtain ⟨e1, e2, e3⟩ := cmpV_zero.1 h
    rw [if_pos h, ← e1, ← e2, ← e3, cmpL_pre]
    exact ih m (fun z hz => hl z (List.mem_cons_of_mem _ hz)) (fun z hz => hm z (List.mem_cons_of_mem _ hz))
   ·rw [if_neg h, cmpL_app _ _ _ _ (bts_not_pre gx gy h) (bts_not_pre gy gx (fun e => h (by rw [cmpV_neg, e]; rfl))), order gx gy]
theorem between : ∀ (x y : List UInt8), (cmpL y x ≠ -1 ∧ cmpL y (x ++ [255]) = -1) → x <+: y := by
 intro x
 induction x with
 | nil => intro y _; exact List.nil_prefix
 | cons a x ih => intro y h; cases y with
  | nil => exact absurd rfl h.1
  | cons b y =>
   obtain ⟨h1, h2⟩ := h
   rw [List.cons_append] at h2
   unfold cmpL at h1 h2
   by_cases hba : b < a
   ·rw [if_pos hba] at h1; exact absurd rfl h1
   ·by_cases hab : a < b
    ·rw [if_neg hba, if_pos hab] at h2; exact absurd h2 (by decide)
    ·have e := u8_tri hab hba
     subst e
     rw [if_neg hba, if_neg hba] at h1 h2
     exact List.cons_prefix_cons.2 ⟨rfl, ih y ⟨h1, h2⟩⟩
theorem between_of (x m : List UInt8) (hm : ∀ c r, m = c :: r → c < 255) : cmpL (x ++ m) x ≠ -1 ∧ cmpL (x ++ m) (x ++ [255]) = -1 := by
 constructor
 ·have := cmpL_pre x m []
  rw [List.append_nil] at this
  rw [this]
  cases m <;> simp [cmpL]
 ·rw [cmpL_pre]
  cases m with
  | nil => rfl
  | cons c r => unfold cmpL; rw [if_pos (hm c r rfl)]
theorem catB_pre : ∀ (l m : List S39), (∀ x ∈ l, goodX x = true) → (∀ x ∈ m, goodX x = true) → (catB l <+: catB m ↔ l <+: m) := by
 intro l
 induction l with
 | nil => intro m _ _; exact ⟨fun _ => List.nil_prefix, fun _ => List.nil_prefix⟩
 | cons x l ih => intro m hl hm; cases m with
  | nil =>
   obtain ⟨c, r, e, _⟩ := bts_cons (hl x List.mem_cons_self)
   rw [catB, catB, e]
   exact ⟨fun h => absurd h (by simp), fun h => absurd h (by simp)⟩
  | cons y m =>
   have gx : goodV x.f0 x.f1 x.f2 = true := hl x List.mem_cons_self
   have gy : goodV y.f0 y.f1 y.f2 = true := hm y List.mem_cons_self
   have ih' := ih m (fun z hz => hl z (List.mem_cons_of_mem _ hz)) (fun z hz => hm z (List.mem_cons_of_mem _ hz))
   rw [catB, catB]
   constructor
   ·rintro ⟨r, hr⟩
    rw [List.append_assoc] at hr
    obtain ⟨e1, e2, e3⟩ := bts_pre gx gy hr
    have e : x = y := by cases x; cases y; simp_all
    subst e
    exact List.cons_prefix_cons.2 ⟨rfl, ih'.1 ⟨r, List.append_cancel_left hr⟩⟩
   ·intro h
    obtain ⟨e, h2⟩ := List.cons_prefix_cons.1 h
    subst e
    exact (List.prefix_append_right_inj _).2 (ih'.2 h2)
def readR : Nat → List UInt8 → Option (List S39)
 | _, [] => some []
 | 0, _ :: _ => none
 | n + 1, c :: s => match readV (c :: s) with
  | some (a, b, t, k) => (readR n ((c :: s).drop k)).map fun l => (⟨a, b, str t⟩ : S39) :: l
  | none => none
theorem readR_cat : ∀ (l : List S39) (n : Nat), l.length ≤ n → (∀ x ∈ l, goodX x = true) → readR n (catB l) = some l := by
 intro l
 induction l with
 | nil => intro n _ _; cases n <;> rfl
 | cons x l ih =>
  intro n hn hl
  have gx : goodV x.f0 x.f1 x.f2 = true := hl x List.mem_cons_self
  obtain ⟨c, r, e, _⟩ := bts_cons gx
  cases n with
  | zero => simp at hn
  | succ n =>
   have h1 := readV_bts gx (catB l)
   have h2 := ih n (by simp only [List.length_cons] at hn; omega) (fun z hz => hl z (List.mem_cons_of_mem _ hz))
   have hlen : (bts x.f0 x.f1 x.f2).length = (c :: r).length := by rw [e]
   rw [hlen] at h1
   rw [catB]
   rw [e, List.cons_append] at h1 ⊢
   rw [readR, h1]
   dsimp only
   rw [show c :: (r ++ catB l) = (c :: r) ++ catB l from rfl, List.drop_left, h2, str_of]
   rfl
theorem readR_back : ∀ (n : Nat) (s : List UInt8) (l : List S39), readR n s = some l → (∀ x ∈ l, goodX x = true) ∧ s = catB l ∧ l.length ≤ n := by
 intro n
 induction n with
 | zero => intro s l h; cases s with
  | nil => injection h with h; subst h; exact ⟨fun x hx => (by cases hx), rfl, Nat.le_refl _⟩
  | cons c s => cases h
 | succ n ih => intro s l h; cases s with
  | nil => injection h with h; subst h; exact ⟨fun x hx => (by cases hx), rfl, Nat.zero_le _⟩
  | cons c s =>
   rw [readR] at h
   cases hv : readV (c :: s) with
   | none => rw [hv] at h; cases h
   | some p =>
    obtain ⟨a, b, t, k⟩ := p
    rw [hv] at h
    dsimp only at h
    obtain ⟨m, h1, h2⟩ := Option.map_eq_some_iff.1 h
    subst h2
    obtain ⟨g, e, he, hk⟩ := readV_back hv
    obtain ⟨i1, i2, i3⟩ := ih _ m h1
    rw [he, hk, List.drop_left] at i2
    refine ⟨fun x hx => ?_, ?_, by simp only [List.length_cons]; omega⟩
    ·rcases List.mem_cons.1 hx with rfl | hx
     ·exact g
     ·exact i1 x hx
    ·rw [he, i2]; rfl
theorem readR_more (n m : Nat) (h : n ≤ m) (s : List UInt8) : readR n s = (readR m s).filter fun l => decide (l.length ≤ n) := by
 cases hm : readR m s with
 | some l =>
  obtain ⟨g, e, _⟩ := readR_back m s l hm
  by_cases hl : l.length ≤ n
  ·rw [e, readR_cat l n hl g]; simp [Option.filter, hl]
  ·cases hn : readR n s with
   | none => simp [Option.filter, hl]
   | some l' =>
    obtain ⟨g', e', h'⟩ := readR_back n s l' hn
    have := readR_cat l' m (by omega) g'
    rw [← e', hm] at this
    injection this with this
    subst this
    exact absurd h' hl
 | none =>
  cases hn : readR n s with
  | none => rfl
  | some l' =>
   obtain ⟨g', e', h'⟩ := readR_back n s l' hn
   have := readR_cat l' m (by omega) g'
   rw [← e', hm] at this
   cases this
end Go.Proofs.YtmfipefpmjcddaaDoor.QL
end
section
namespace Go.Proofs.YtmfipefpmjcddaaDoor.PC
open Go.RowKit Go.Proofs.YtmfipefpmjcddaaDoorW.PrintWords Go.Proofs.YtmfipefpmjcddaaDoorW.PrintLast Go.Proofs.YtmfipefpmjcddaaDoorW.PrintMore Go.Proofs.YtmfipefpmjcddaaDoor.PB Go.Proofs.YtmfipefpmjcddaaDoor.PL Go.Proofs.YtmfipefpmjcddaaDoor.PA
set_option linter.unusedVariables false
def Bys (c : List Int) : Prop := ∀ x ∈ c, 0 ≤ x ∧ x ≤ 255
theorem code_of (c : List Int) (h : ∀ x ∈ c, (Lit.int .u8 x).wf = true) : Bys c := by
 intro x hx
 have := h x hx
 simp [Lit.wf] at this
 have e1 : IntKind.u8.min = 0 := rfl
 have e2 : IntKind.u8.max = 255 := rfl
 rw [e1, e2] at this
 omega
theorem code_at {c : List Int} (h : Bys c) (i : Int) : 0 ≤ rd c i ∧ rd c i ≤ 255 := by
 unfold rd
 rw [List.getD_eq_getElem?_getD]
 cases e : c[i.toNat]? with
 | none => simp
 | some x => exact h x (List.mem_of_getElem? e)
theorem wrap_u64 (n : Int) : IntKind.u64.wrap n = n % 18446744073709551616 := by simp [IntKind.wrap, IntKind.bits, IntKind.signed]
theorem and255 (x : Int) (h0 : 0 ≤ x) (h1 : x < 16777216) : 0 ≤ wrap64 (Go.bits .and .u64 x 255) ∧ wrap64 (Go.bits .and .u64 x 255) ≤ 255 := by
 have h := Go.bits_mask .u64 24 (by decide) (fun n a b => by rw [wrap_u64]; omega) 8 (by decide) x h0 (by omega)
 have e : ((2 : Int) ^ 8 - 1) = 255 := by decide
 rw [e] at h
 rw [h, w64 (by omega) (by omega)]
 omega
def Drawn {α : Type} (i : Int) (K : Int) (o : Option (α × Int × Int)) (P : α → Prop) : Prop := ∃ v i' s', o = some (v, i', s') ∧ P v ∧ i ≤ i' ∧ i' ≤ i + K
theorem next_d {c : List Int} (hc : Bys c) (i s : Int) (h0 : 0 ≤ i) (h1 : i ≤ 1000000000000) : Drawn i 1 (spec_l1Cur_next.f c i s) (fun v => 0 ≤ v ∧ v ≤ 255) := by
 have e : wrap64 (i + 1) = i + 1 := w64 (by omega) (by omega)
 have hr := code_at hc i
 have hv : wrap64 (rd c i) = rd c i := w64 (by omega) (by omega)
 unfold spec_l1Cur_next.f
 rw [e]
 by_cases hi : i < (c.length : Int)
 ·rw [if_pos hi, if_pos h0, if_pos (by omega)]
  exact ⟨_, _, _, rfl, by rw [hv]; exact hr, by omega, by omega⟩
 ·rw [if_neg hi, if_neg (by omega)]
  refine ⟨_, _, _, rfl, and255 _ ?_ ?_, by omega, by omega⟩
  ·rw [wrap_u64]; omega
  ·rw [wrap_u64]; omega
theorem pick_d {c : List Int} (hc : Bys c) (i s n : Int) (h0 : 0 ≤ i) (h1 : i ≤ 100000000000) (hn : n ≤ 1000000000) : Drawn i 2 (spec_l1Cur_pick.f c i s n) (fun v => 0 ≤ v ∧ (v < n ∨ v = 0)) := by
 unfold spec_l1Cur_pick.f
 by_cases c1 : n ≤ 1
 ·rw [if_pos c1]
  exact ⟨0, i, s, rfl, ⟨by omega, Or.inr rfl⟩, by omega, by omega⟩
 ·rw [if_neg c1]
  obtain ⟨v, i', s', e, hv, hi1, hi2⟩ := next_d hc i s h0 (by omega)
  rw [e]
  simp only [Option.bind_some]
  by_cases c2 : n > 200
  ·rw [if_pos c2]
   obtain ⟨v2, i2, s2, e2, hv2, hi3, hi4⟩ := next_d hc i' s' (by omega) (by omega)
   rw [e2]
   simp only [Option.bind_some]
   rw [if_neg (by omega), w64 (x := v * 256) (by omega) (by omega), w64 (x := v * 256 + v2) (by omega) (by omega), Int.tmod_eq_emod_of_nonneg (by omega)]
   exact ⟨_, _, _, rfl, ⟨Int.emod_nonneg _ (by omega), Or.inl (Int.emod_lt_of_pos _ (by omega))⟩, by omega, by omega⟩
  ·rw [if_neg c2, if_neg (by omega), Int.tmod_eq_emod_of_nonneg (by omega)]
   exact ⟨_, _, _, rfl, ⟨Int.emod_nonneg _ (by omega), Or.inl (Int.emod_lt_of_pos _ (by omega))⟩, by omega, by omega⟩
theorem of_d {c : List Int} (hc : Bys c) (i s : Int) (l : List ByteArray) (h0 : 0 ≤ i) (h1 : i ≤ 100000000000) (hl : 1 ≤ l.length ∧ l.length ≤ 1000000000) : Drawn i 2 (spec_l1Cur_of.f c i s l) (fun v => v ∈ l) := by
 obtain ⟨v, i', s', e, hv, hi1, hi2⟩ := pick_d hc i s (l.length : Int) h0 h1 (by omega)
 unfold spec_l1Cur_of.f
 rw [e]
 simp only [Option.bind_some]
 rw [if_pos hv.1, if_pos (by omega)]
 refine ⟨_, _, _, rfl, ?_, hi1, hi2⟩
 obtain ⟨n, rfl⟩ := Int.eq_ofNat_of_zero_le hv.1
 have hn : n < l.length := by omega
 rw [rdOf_at _ _ _ hn]
 exact List.getElem_mem hn
theorem one_d {c : List Int} (hc : Bys c) (i s n : Int) (h0 : 0 ≤ i) (h1 : i ≤ 100000000000) (hn : n ≤ 1000000000) : Drawn i 2 (spec_l1Cur_one.f c i s n) (fun _ => True) := by
 obtain ⟨v, i', s', e, hv, hi1, hi2⟩ := pick_d hc i s n h0 h1 hn
 unfold spec_l1Cur_one.f
 rw [e]
 exact ⟨_, _, _, rfl, trivial, hi1, hi2⟩
theorem among_d {c : List Int} (hc : Bys c) (i s : Int) (l : List Int) (h0 : 0 ≤ i) (h1 : i ≤ 100000000000) (hl : 1 ≤ l.length ∧ l.length ≤ 1000000000) : Drawn i 2 (spec_l1Cur_among.f c i s l) (fun v => v ∈ l) := by
 obtain ⟨v, i', s', e, hv, hi1, hi2⟩ := pick_d hc i s (l.length : Int) h0 h1 (by omega)
 unfold spec_l1Cur_among.f
 rw [e]
 simp only [Option.bind_some]
 rw [if_pos hv.1, if_pos (by omega)]
 refine ⟨_, _, _, rfl, ?_, hi1, hi2⟩
 obtain ⟨n, rfl⟩ := Int.eq_ofNat_of_zero_le hv.1
 have hn : n < l.length := by omega
 unfold rd
 rw [List.getD_eq_getElem?_getD, Int.toNat_natCast, List.getElem?_eq_getElem hn]
 exact List.getElem_mem hn
def DrawnE {α : Type} (i : Int) (K : Int) (f : Nat → Option (α × Int × Int)) (P : α → Prop) : Prop := ∃ v i' s', Ev f (v, i', s') ∧ P v ∧ i ≤ i' ∧ i' ≤ i + K
theorem number_d {c : List Int} (hc : Bys c) (hl : c.length ≤ 9223372036854775807) : ∃ n, Ev (fun k => laws_numberOf.f k c) n ∧ 0 ≤ n ∧ n < 1000003 := by
 have key : ∀ (d j : Nat) (x : Int), j + d = c.length → 0 ≤ x → x < 1000003 → ∃ n, Ev (fun k => laws_numberOf.l0 k x c (c.length : Int) (j : Int)) n ∧ 0 ≤ n ∧ n < 1000003 := by
  intro d
  induction d with
  | zero =>
   intro j x hj h0 h1
   refine ⟨x, Ev.step (f := fun _ => some x) (fun k => ?_) (Ev.now _), h0, h1⟩
   simp only [laws_numberOf.l0]; rw [if_neg (by omega)]
  | succ d ih =>
   intro j x hj h0 h1
   have hr := code_at hc (j : Int)
   obtain ⟨n, hn, hb⟩ := ih (j + 1) ((31 * x + rd c (j : Int)) % 1000003) (by omega) (Int.emod_nonneg _ (by omega)) (Int.emod_lt_of_pos _ (by omega))
   refine ⟨n, Ev.step (f := fun k => laws_numberOf.l0 k ((31 * x + rd c (j : Int)) % 1000003) c (c.length : Int) ((j + 1 : Nat) : Int)) (fun k => ?_) hn, hb⟩
   simp only [laws_numberOf.l0]
   rw [if_pos (by omega), if_pos (by omega), if_pos (by omega), w64 (x := rd c (j : Int)) (by omega) (by omega), w64 (x := 31 * x) (by omega) (by omega), w64 (x := 31 * x + rd c (j : Int)) (by omega) (by omega), w64 (x := (j : Int) + 1) (by omega) (by omega), Int.tmod_eq_emod_of_nonneg (by omega)]
   rfl
 exact key c.length 0 0 (by omega) (by omega) (by omega)
end Go.Proofs.YtmfipefpmjcddaaDoor.PC
end
section
namespace Go.Proofs.YtmfipefpmjcddaaDoor.QD
open Go.RowKit Go.Proofs.YtmfipefpmjcddaaDoorW.PrintWords Go.Proofs.YtmfipefpmjcddaaDoorW.PrintLast Go.Proofs.YtmfipefpmjcddaaDoorW.PrintMore Go.Proofs.YtmfipefpmjcddaaDoor.PB Go.Proofs.YtmfipefpmjcddaaDoor.PL Go.Proofs.YtmfipefpmjcddaaDoor.PC Go.Proofs.YtmfipefpmjcddaaDoor.QV Go.Proofs.YtmfipefpmjcddaaDoor.PA
set_option linter.unusedVariables false
theorem value_d {c : List Int} (hc : Bys c) (i s : Int) (h0 : 0 ≤ i) (h1 : i ≤ 20000000000) : ∃ a b t i' s', spec_l1Cur_value.f c i s = some (a, b, t, i', s') ∧ t.size ≤ 13 ∧ i ≤ i' ∧ i' ≤ i + 10 := by
 unfold spec_l1Cur_value.f
 have hz : (⟨#[]⟩ : ByteArray).size ≤ 13 := by decide
 obtain ⟨v, i2, s2, e2, hv, h2, h3⟩ := pick_d hc i s 5 h0 (by omega) (by omega)
 rw [e2]
 simp only [Option.bind_some]
 by_cases c0 : v = 0
 ·rw [if_pos c0]; exact ⟨_, _, _, _, _, rfl, hz, by omega, by omega⟩
 ·rw [if_neg c0]
  by_cases c1 : v = 1
  ·rw [if_pos c1]
   obtain ⟨v3, i3, s3, e3, hv3, h4, h5⟩ := pick_d hc i2 s2 2 (by omega) (by omega) (by omega)
   obtain ⟨v4, i4, s4, e4, hv4, h6, h7⟩ := pick_d hc i3 s3 9 (by omega) (by omega) (by omega)
   rw [e3]; simp only [Option.bind_some]; rw [e4]; simp only [Option.bind_some]
   exact ⟨_, _, _, _, _, rfl, hz, by omega, by omega⟩
  ·rw [if_neg c1]
   by_cases c2 : v = 2
   ·rw [if_pos c2]
    obtain ⟨v3, i3, s3, e3, hv3, h4, h5⟩ := pick_d hc i2 s2 9 (by omega) (by omega) (by omega)
    obtain ⟨v4, i4, s4, e4, hv4, h6, h7⟩ := among_d hc i3 s3 [0, 1, -1, 5, 256, -256, 1000000000, -1000000000, wrap64 (1000000000 + wrap64 (Int.tdiv v3 8))] (by omega) (by omega) ⟨by simp, by simp⟩
    rw [e3]; simp only [Option.bind_some]; rw [e4]; simp only [Option.bind_some]
    exact ⟨_, _, _, _, _, rfl, hz, by omega, by omega⟩
   ·rw [if_neg c2]
    by_cases c3 : v = 3
    ·rw [if_pos c3]
     obtain ⟨v4, i4, s4, e4, hv4, h6, h7⟩ := of_d hc i2 s2 [(⟨#[]⟩ : ByteArray), (⟨#[97]⟩ : ByteArray), (⟨#[97, 98]⟩ : ByteArray), (⟨#[98]⟩ : ByteArray), (⟨#[0]⟩ : ByteArray), (⟨#[97, 0]⟩ : ByteArray), (⟨#[97, 0, 98]⟩ : ByteArray), (⟨#[97, 255]⟩ : ByteArray), (⟨#[116, 119, 101, 108, 118, 101, 32, 98, 121, 116, 101, 115]⟩ : ByteArray), (⟨#[116, 104, 105, 114, 116, 101, 101, 110, 32, 98, 121, 116, 101]⟩ : ByteArray)] (by omega) (by omega) ⟨by simp, by simp⟩
     rw [e4]; simp only [Option.bind_some]
     refine ⟨_, _, _, _, _, rfl, ?_, by omega, by omega⟩
     simp only [List.mem_cons, List.not_mem_nil, or_false] at hv4
     rcases hv4 with rfl | rfl | rfl | rfl | rfl | rfl | rfl | rfl | rfl | rfl <;> decide
    ·rw [if_neg c3]
     obtain ⟨v3, i3, s3, e3, hv3, h4, h5⟩ := pick_d hc i2 s2 6 (by omega) (by omega) (by omega)
     obtain ⟨v4, i4, s4, e4, hv4, h6, h7⟩ := pick_d hc i3 s3 3 (by omega) (by omega) (by omega)
     rw [e3]; simp only [Option.bind_some]; rw [e4]; simp only [Option.bind_some]
     exact ⟨_, _, _, _, _, rfl, hz, by omega, by omega⟩
theorem row_d {c : List Int} (hc : Bys c) (i s : Int) (h0 : 0 ≤ i) (h1 : i ≤ 10000000000) : DrawnE i 100 (fun k => spec_l1Cur_row.f k c i s) (fun l => l.length ≤ 10) := by
 have loop : ∀ (d : Nat) (l : List S39) (i s : Int), l.length + d ≤ 10 → 0 ≤ i → i + 10 * (d : Int) ≤ 20000000000 → ∃ l' i' s', Ev (fun k => spec_l1Cur_row.l0 k l (d : Int) c i s) (l', i', s') ∧ l'.length ≤ 10 ∧ i ≤ i' ∧ i' ≤ i + 10 * (d : Int) := by
  intro d
  induction d with
  | zero =>
   intro l i s hl h0 h1
   exact ⟨l, i, s, Ev.step (f := fun _ => some (l, i, s)) (fun k => by simp only [spec_l1Cur_row.l0]; rw [if_neg (by omega)]) (Ev.now _), by omega, by omega, by omega⟩
  | succ d ih =>
   intro l i s hl h0 h1
   have wd : wrap64 (((d + 1 : Nat) : Int) - 1) = (d : Int) := by rw [w64 (by omega) (by omega)]; omega
   obtain ⟨a, b, t, i2, s2, e2, _, h2, h3⟩ := value_d hc i s h0 (by omega)
   obtain ⟨l1, i5, s5, r1, z1, z2, z3⟩ := ih (l ++ [(⟨a, b, t⟩ : S39)]) i2 s2 (by rw [List.length_append]; simp only [List.length_cons, List.length_nil]; omega) (by omega) (by omega)
   refine ⟨l1, i5, s5, Ev.step (f := fun k => spec_l1Cur_row.l0 k (l ++ [(⟨a, b, t⟩ : S39)]) (d : Int) c i2 s2) (fun k => ?_) r1, z1, by omega, by omega⟩
   simp only [spec_l1Cur_row.l0]
   rw [if_pos (by omega), e2]
   simp only [Option.bind_some]
   rw [if_pos (by omega), wd]
 have go : ∀ (n : Int) (i s : Int), 0 ≤ n → n ≤ 8 → 0 ≤ i → i ≤ 10000000100 → ∃ l' i' s', Ev (fun k => spec_l1Cur_row.j0 k [] n c i s) (l', i', s') ∧ l'.length ≤ 10 ∧ i ≤ i' ∧ i' ≤ i + 80 := by
  intro n i s hn0 hn h0 h1
  obtain ⟨m, rfl⟩ := Int.eq_ofNat_of_zero_le hn0
  obtain ⟨l1, i5, s5, r1, z1, z2, z3⟩ := loop m [] i s (by simp only [List.length_nil]; omega) h0 (by omega)
  exact ⟨l1, i5, s5, Ev.step (f := fun k => spec_l1Cur_row.l0 k [] ((m : Nat) : Int) c i s) (fun k => by simp only [spec_l1Cur_row.j0]) r1, z1, z2, by omega⟩
 obtain ⟨n, i2, s2, e2, hn, h2, h3⟩ := pick_d hc i s 5 h0 (by omega) (by omega)
 obtain ⟨b, i3, s3, e3, _, h4, h5⟩ := one_d hc i2 s2 20 (by omega) (by omega) (by omega)
 cases b with
 | true =>
  obtain ⟨v, i4, s4, e4, hv, h6, h7⟩ := pick_d hc i3 s3 2 (by omega) (by omega) (by omega)
  have w : wrap64 (6 + v) = 6 + v := w64 (by omega) (by omega)
  obtain ⟨l1, i5, s5, r1, z1, z2, z3⟩ := go (6 + v) i4 s4 (by omega) (by omega) (by omega) (by omega)
  rw [← w] at r1
  exact ⟨l1, i5, s5, ev_const e2 (ev_const e3 (ev_pos rfl (ev_const e4 r1))), z1, by omega, by omega⟩
 | false =>
  obtain ⟨l1, i5, s5, r1, z1, z2, z3⟩ := go n i3 s3 (by omega) (by omega) (by omega) (by omega)
  exact ⟨l1, i5, s5, ev_const e2 (ev_const e3 (ev_neg (by simp) r1)), z1, by omega, by omega⟩
theorem ex_size (x : ByteArray) (i j : Nat) : (x.extract i j).size = min j x.size - i := ByteArray.size_extract
theorem spoilt_d {c : List Int} (hc : Bys c) (i s : Int) (x y : ByteArray) (hx : x.size ≤ 100000) (hy : 1 ≤ y.size ∧ y.size ≤ 100000) (h0 : 0 ≤ i) (h1 : i ≤ 10000000000) : DrawnE i 100 (fun k => spec_l1Cur_spoilt.f k c i s x y) (fun t => t.size ≤ x.size + 3) := by
 have loop : ∀ (d : Nat) (x : ByteArray) (i s : Int), x.size + d ≤ 200000 → 0 ≤ i → i + 10 * (d : Int) ≤ 20000000000 → ∃ t i' s', Ev (fun k => spec_l1Cur_spoilt.l0 k x y (d : Int) c i s) (t, i', s') ∧ t.size ≤ x.size + d ∧ i ≤ i' ∧ i' ≤ i + 10 * (d : Int) := by
  intro d
  induction d with
  | zero =>
   intro x i s hl h0 h1
   refine ⟨x, i, s, Ev.step (f := fun k => spec_l1Cur_spoilt.j1 k x y ((0 : Nat) : Int) false c i s) (fun k => by simp only [spec_l1Cur_spoilt.l0]; rw [if_neg (by omega)]) (Ev.step (f := fun _ => some (x, i, s)) (fun k => by simp only [spec_l1Cur_spoilt.j1]; rw [if_neg (by simp)]) (Ev.now _)), by omega, by omega, by omega⟩
  | succ d ih =>
   intro x i s hl h0 h1
   have wd : wrap64 (((d + 1 : Nat) : Int) - 1) = (d : Int) := by rw [w64 (by omega) (by omega)]; omega
   by_cases hz : (x.size : Int) > 0
   ·obtain ⟨v, i2, s2, e2, hv, h2, h3⟩ := pick_d hc i s (x.size : Int) h0 (by omega) (by omega)
    obtain ⟨u, i3, s3, e3, hu, h4, h5⟩ := pick_d hc i2 s2 (y.size : Int) (by omega) (by omega) (by omega)
    obtain ⟨q, i4, s4, e4, hq, h6, h7⟩ := pick_d hc i3 s3 3 (by omega) (by omega) (by omega)
    have st : ∀ (x' : ByteArray), x'.size ≤ x.size + 1 → (∀ k, (if q = 0 then (if 0 ≤ v then (if v ≤ (x.size : Int) then (if (x.extract 0 (v : Int).toNat).size + (strOfNums [bt y u]).size ≤ 9223372036854775807 then (if ((x.extract 0 (v : Int).toNat) ++ (strOfNums [bt y u])).size + (x.extract (v : Int).toNat x.size).size ≤ 9223372036854775807 then (spec_l1Cur_spoilt.l0 k (((x.extract 0 (v : Int).toNat) ++ (strOfNums [bt y u])) ++ (x.extract (v : Int).toNat x.size)) y (wrap64 (((d + 1 : Nat) : Int) - 1)) c i4 s4) else (none)) else (none)) else (none)) else (none)) else (if q = 1 then (if 0 ≤ v then (if v ≤ (x.size : Int) then (if (x.extract 0 (v : Int).toNat).size + (strOfNums [bt y u]).size ≤ 9223372036854775807 then (if 0 ≤ (wrap64 (v + 1)) then (if (wrap64 (v + 1)) ≤ (x.size : Int) then (if ((x.extract 0 (v : Int).toNat) ++ (strOfNums [bt y u])).size + (x.extract ((wrap64 (v + 1)) : Int).toNat x.size).size ≤ 9223372036854775807 then (spec_l1Cur_spoilt.l0 k (((x.extract 0 (v : Int).toNat) ++ (strOfNums [bt y u])) ++ (x.extract ((wrap64 (v + 1)) : Int).toNat x.size)) y (wrap64 (((d + 1 : Nat) : Int) - 1)) c i4 s4) else (none)) else (none)) else (none)) else (none)) else (none)) else (none)) else (if 0 ≤ v then (if v ≤ (x.size : Int) then (if 0 ≤ (wrap64 (v + 1)) then (if (wrap64 (v + 1)) ≤ (x.size : Int) then (if (x.extract 0 (v : Int).toNat).size + (x.extract ((wrap64 (v + 1)) : Int).toNat x.size).size ≤ 9223372036854775807 then (spec_l1Cur_spoilt.l0 k ((x.extract 0 (v : Int).toNat) ++ (x.extract ((wrap64 (v + 1)) : Int).toNat x.size)) y (wrap64 (((d + 1 : Nat) : Int) - 1)) c i4 s4) else (none)) else (none)) else (none)) else (none)) else (none)))) = spec_l1Cur_spoilt.l0 k x' y (d : Int) c i4 s4) → ∃ t i' s', Ev (fun k => spec_l1Cur_spoilt.l0 k x y ((d + 1 : Nat) : Int) c i s) (t, i', s') ∧ t.size ≤ x.size + (d + 1) ∧ i ≤ i' ∧ i' ≤ i + 10 * ((d + 1 : Nat) : Int) := by
     intro x' hx' hk
     obtain ⟨t, i5, s5, r1, z1, z2, z3⟩ := ih x' i4 s4 (by omega) (by omega) (by omega)
     refine ⟨t, i5, s5, Ev.step (f := fun k => spec_l1Cur_spoilt.j1 k x y ((d + 1 : Nat) : Int) true c i s) (fun k => ?_) (Ev.step (f := fun k => spec_l1Cur_spoilt.l0 k x' y (d : Int) c i4 s4) (fun k => ?_) r1), by omega, by omega, by omega⟩
     ·simp only [spec_l1Cur_spoilt.l0]; rw [if_pos (by omega), decide_eq_true hz]
     ·rw [← hk]
      simp only [spec_l1Cur_spoilt.j1]
      rw [if_pos trivial, e2]; simp only [Option.bind_some]
      rw [e3]; simp only [Option.bind_some]
      rw [if_pos (by omega), if_pos (by omega)]
      rw [e4]; simp only [Option.bind_some]
    have hs1 : (strOfNums [bt y u]).size = 1 := by rw [strOfNums_size]; rfl
    have w1 : wrap64 (v + 1) = v + 1 := w64 (by omega) (by omega)
    have z1 := ex_size x 0 v.toNat
    have z2 := ex_size x v.toNat x.size
    have z3 := ex_size x (v + 1).toNat x.size
    have z4 := app_size (x.extract 0 v.toNat) (strOfNums [bt y u])
    by_cases q0 : q = 0
    ·refine st ((x.extract 0 v.toNat ++ strOfNums [bt y u]) ++ x.extract v.toNat x.size) (by rw [app_size]; omega) (fun k => ?_)
     rw [if_pos q0, if_pos hv.1, if_pos (by omega), if_pos (by omega), if_pos (by omega), wd]
    ·by_cases q1 : q = 1
     ·refine st ((x.extract 0 v.toNat ++ strOfNums [bt y u]) ++ x.extract (v + 1).toNat x.size) (by rw [app_size]; omega) (fun k => ?_)
      rw [if_neg q0, if_pos q1, if_pos hv.1, if_pos (by omega), if_pos (by omega), w1, if_pos (by omega), if_pos (by omega), if_pos (by omega), wd]
     ·refine st (x.extract 0 v.toNat ++ x.extract (v + 1).toNat x.size) (by rw [app_size]; omega) (fun k => ?_)
      rw [if_neg q0, if_neg q1, if_pos hv.1, if_pos (by omega), w1, if_pos (by omega), if_pos (by omega), if_pos (by omega), wd]
   ·refine ⟨x, i, s, Ev.step (f := fun k => spec_l1Cur_spoilt.j1 k x y ((d + 1 : Nat) : Int) false c i s) (fun k => by simp only [spec_l1Cur_spoilt.l0]; rw [if_pos (by omega), decide_eq_false hz]) (Ev.step (f := fun _ => some (x, i, s)) (fun k => by simp only [spec_l1Cur_spoilt.j1]; rw [if_neg (by simp)]) (Ev.now _)), by omega, by omega, by omega⟩
 obtain ⟨v, i2, s2, e2, hv, h2, h3⟩ := pick_d hc i s 3 h0 (by omega) (by omega)
 obtain ⟨m, rfl⟩ := Int.eq_ofNat_of_zero_le hv.1
 obtain ⟨t, i5, s5, r1, z1, z2, z3⟩ := loop m x i2 s2 (by omega) (by omega) (by omega)
 exact ⟨t, i5, s5, ev_const e2 r1, by show t.size ≤ x.size + 3; omega, by omega, by omega⟩
theorem rowText_d {c : List Int} (hc : Bys c) (i s : Int) (h0 : 0 ≤ i) (h1 : i ≤ 1000000000) : DrawnE i 500 (fun k => spec_l1Cur_rowText.f k c i s) (fun t => t.size ≤ 400) := by
 obtain ⟨l, i2, s2, e2, hl, h2, h3⟩ := row_d hc i s h0 (by omega)
 have hb := rowBytesS l (by omega)
 have hz := rowBytes_size l
 obtain ⟨b, i3, s3, e3, _, h4, h5⟩ := one_d hc i2 s2 3 (by omega) (by omega) (by omega)
 cases b with
 | true =>
  obtain ⟨t, i4, s4, e4, ht, h6, h7⟩ := spoilt_d hc i3 s3 (rowBytesM l).1 (⟨#[0, 1, 4, 255, 97]⟩ : ByteArray) (by omega) (by decide) (by omega) (by omega)
  exact ⟨t, i4, s4, ev_bind e2 (ev_bind hb (ev_const e3 (ev_pos rfl (ev_bind e4 (Ev.now _))))), by show t.size ≤ 400; omega, by omega, by omega⟩
 | false =>
  exact ⟨(rowBytesM l).1, i3, s3, ev_bind e2 (ev_bind hb (ev_const e3 (ev_neg (by simp) (Ev.now _)))), by show (rowBytesM l).1.size ≤ 400; omega, by omega, by omega⟩
end Go.Proofs.YtmfipefpmjcddaaDoor.QD
end
section
namespace Go.Proofs.YtmfipefpmjcddaaDoor.QM
open Go.RowKit Go.Proofs.YtmfipefpmjcddaaDoorW.PrintWords Go.Proofs.YtmfipefpmjcddaaDoorW.PrintLast Go.Proofs.YtmfipefpmjcddaaDoorW.PrintMore Go.Proofs.YtmfipefpmjcddaaDoor.PB Go.Proofs.YtmfipefpmjcddaaDoor.PD Go.Proofs.YtmfipefpmjcddaaDoor.PL Go.Proofs.YtmfipefpmjcddaaDoor.PT Go.Proofs.YtmfipefpmjcddaaDoor.PC Go.Proofs.YtmfipefpmjcddaaDoor.PG Go.Proofs.YtmfipefpmjcddaaDoor.QR Go.Proofs.YtmfipefpmjcddaaDoor.QV Go.Proofs.YtmfipefpmjcddaaDoor.QE Go.Proofs.YtmfipefpmjcddaaDoor.QF Go.Proofs.YtmfipefpmjcddaaDoor.QH Go.Proofs.YtmfipefpmjcddaaDoor.QI Go.Proofs.YtmfipefpmjcddaaDoor.QK Go.Proofs.YtmfipefpmjcddaaDoor.QL Go.Proofs.YtmfipefpmjcddaaDoor.QD Go.Proofs.YtmfipefpmjcddaaDoor.PA
set_option linter.unusedVariables false
theorem readV_pos {l : List UInt8} {a b : Int} {t : List UInt8} {n : Nat} (h : readV l = some (a, b, t, n)) : 1 ≤ n := by
 obtain ⟨g, m, e, hn⟩ := readV_back h
 obtain ⟨c, r, e2, _⟩ := bts_cons g
 rw [hn, e2]; simp
theorem readR_nil (n : Nat) : readR n [] = some [] := by cases n <;> rfl
theorem readR_step (n : Nat) (l : List UInt8) (hl : l ≠ []) : readR (n + 1) l = (match readV l with
  | some (a, b, t, k) => (readR n (l.drop k)).map fun m => (⟨a, b, str t⟩ : S39) :: m
  | none => none) := by
 cases l with
 | nil => exact absurd rfl hl
 | cons c s => rfl
theorem readR_out {l : List UInt8} (hl : l ≠ []) : readR 0 l = none := by
 cases l with
 | nil => exact absurd rfl hl
 | cons c s => rfl
def ansR (x : List S39) (o : Option (List S39)) : List S39 × Bool := match o with
 | some l => (x ++ l, true)
 | none => ([], false)
theorem ansR_map (x : List S39) (y : S39) (o : Option (List S39)) : ansR x (o.map fun l => y :: l) = ansR (x ++ [y]) o := by
 cases o with
 | none => rfl
 | some l => show (x ++ y :: l, true) = (x ++ [y] ++ l, true); rw [List.append_assoc]; rfl
theorem readRowI0 : ∀ (n : Nat) (s : ByteArray) (x : List S39), s.size ≤ 600 → x.length + n = 6 → Ev (fun k => impl_ReadRow.l0 k s x) (ansR x (readR n s.toList)) := by
 intro n
 induction n with
 | zero =>
  intro s x hs hx
  by_cases h0 : s.toList = []
  ·rw [h0, readR_nil]
   exact Ev.step (f := fun _ => some (x, true)) (fun k => by simp only [impl_ReadRow.l0]; rw [if_pos h0]) (ev_eq (Ev.now _) (by show _ = (x ++ [], true); rw [List.append_nil]))
  ·rw [readR_out h0]
   have hr := readI s (by omega)
   have no : ansR x none = (([] : List S39), false) := rfl
   refine Ev.step (f := fun k => (impl_readValue.f k s).bind fun t => if t.2.2.2.2 = true then some (([] : List S39), false) else some (([] : List S39), false)) (fun k => ?_) (ev_bind hr ?_)
   ·simp only [impl_ReadRow.l0]
    rw [if_neg h0]
    congr 1; funext t
    rw [if_pos (c := (x.length : Int) = 6) (by omega)]
   ·rw [no]
    cases readV s.toList with
    | none => exact ev_neg (by show ¬ false = true; simp) (Ev.now _)
    | some p => exact ev_pos rfl (Ev.now _)
 | succ n ih =>
  intro s x hs hx
  by_cases h0 : s.toList = []
  ·rw [h0, readR_nil]
   exact Ev.step (f := fun _ => some (x, true)) (fun k => by simp only [impl_ReadRow.l0]; rw [if_pos h0]) (ev_eq (Ev.now _) (by show _ = (x ++ [], true); rw [List.append_nil]))
  ·rw [readR_step n _ h0]
   have hr := readI s (by omega)
   refine Ev.step (f := fun k => (impl_readValue.f k s).bind fun t => if t.2.2.2.2 = true then (if 0 ≤ t.2.2.2.1 then (if t.2.2.2.1 ≤ (s.size : Int) then impl_ReadRow.l0 k (s.extract t.2.2.2.1.toNat s.size) (x ++ [(⟨t.1, t.2.1, t.2.2.1⟩ : S39)]) else none) else none) else some (([] : List S39), false)) (fun k => ?_) (ev_bind hr ?_)
   ·simp only [impl_ReadRow.l0]
    rw [if_neg h0]
    congr 1; funext t
    rw [if_neg (c := (x.length : Int) = 6) (by omega), if_pos (c := x.length < 4398046511104) (by omega)]
   ·cases hv : readV s.toList with
    | none => exact ev_neg (by show ¬ false = true; simp) (Ev.now _)
    | some p =>
     obtain ⟨a, b, t, m⟩ := p
     have hm := readV_len hv
     rw [size_toList] at hm
     have hz : (s.extract m s.size).size ≤ 600 := by rw [ex_size]; omega
     have r := ih (s.extract m s.size) (x ++ [(⟨a, b, str t⟩ : S39)]) hz (by rw [List.length_append]; simp only [List.length_cons, List.length_nil]; omega)
     rw [ex_tail] at r
     dsimp only
     rw [ansR_map]
     refine ev_pos rfl (ev_pos (by show (0 : Int) ≤ (m : Int); omega) (ev_pos (by show (m : Int) ≤ _; omega) ?_))
     exact r
def readRowM (s : ByteArray) : List S39 × Bool := if (s.size : Int) > 600 then ([], false) else ansR [] (readR 6 s.toList)
theorem readRowI (s : ByteArray) : Ev (fun k => impl_ReadRow.f k s) (readRowM s) := by
 unfold impl_ReadRow.f readRowM
 by_cases h : (s.size : Int) > 600
 ·rw [if_pos h]; exact ev_pos h (Ev.now _)
 ·rw [if_neg h]; exact ev_neg h (readRowI0 6 s [] (by omega) (by simp))
def fin6 (o : Option (List S39)) : List S39 × Bool := match o with
 | some l => if (l.length : Int) > 6 then ([], false) else (l, true)
 | none => ([], false)
theorem readRowS0 (s : ByteArray) (hs : s.size ≤ 600) : ∀ (n i : Nat) (x : List S39), i ≤ s.size → s.size ≤ i + n → x.length ≤ i → Ev (fun k => spec_ReadRow.l0 k s x (i : Int)) (fin6 ((readR n (s.toList.drop i)).map fun l => x ++ l)) := by
 intro n
 induction n with
 | zero =>
  intro i x hi hn hx
  have e : s.toList.drop i = [] := List.drop_eq_nil_of_le (by rw [size_toList]; omega)
  rw [e, readR_nil]
  refine Ev.step (f := fun _ => if (x.length : Int) > 6 then some (([] : List S39), false) else some (x, true)) (fun k => ?_) ?_
  ·simp only [spec_ReadRow.l0]; rw [if_neg (by omega)]
  ·show Ev _ (if (((x ++ []).length : Nat) : Int) > 6 then ([], false) else (x ++ [], true))
   rw [List.append_nil]
   by_cases h6 : (x.length : Int) > 6
   ·simp only [if_pos h6]; exact Ev.now _
   ·simp only [if_neg h6]; exact Ev.now _
 | succ n ih =>
  intro i x hi hn hx
  by_cases h0 : i < s.size
  ·have hne : s.toList.drop i ≠ [] := fun e => by have := congrArg List.length e; rw [List.length_drop, size_toList] at this; simp at this; omega
   rw [readR_step n _ hne]
   have hr := readS s hs i h0
   refine Ev.step (f := fun k => (spec_l4Read.f k s (i : Int)).bind fun t => if t.2.2.2 < 0 then some (([] : List S39), false) else spec_ReadRow.l0 k s (x ++ [(⟨t.1, t.2.1, t.2.2.1⟩ : S39)]) t.2.2.2) (fun k => ?_) (ev_bind hr ?_)
   ·simp only [spec_ReadRow.l0]
    rw [if_pos (by omega)]
    congr 1; funext t
    rw [if_pos (c := x.length < 4398046511104) (by omega)]
   ·cases hv : readV (s.toList.drop i) with
    | none => exact ev_pos (by show (-1 : Int) < 0; decide) (Ev.now _)
    | some p =>
     obtain ⟨a, b, t, m⟩ := p
     have hm := readV_len hv
     have hp := readV_pos hv
     rw [List.length_drop, size_toList] at hm
     have r := ih (i + m) (x ++ [(⟨a, b, str t⟩ : S39)]) (by omega) (by omega) (by rw [List.length_append]; simp only [List.length_cons, List.length_nil]; omega)
     have e : ((readR n (s.toList.drop (i + m))).map fun l => x ++ [(⟨a, b, str t⟩ : S39)] ++ l) = (((readR n ((s.toList.drop i).drop m)).map fun l => (⟨a, b, str t⟩ : S39) :: l).map fun l => x ++ l) := by
      rw [List.drop_drop, Option.map_map]
      congr 1
      funext l
      show x ++ [_] ++ l = x ++ _ :: l
      rw [List.append_assoc]; rfl
     rw [e] at r
     refine ev_neg (by show ¬ (i : Int) + (m : Int) < 0; omega) ?_
     exact r
  ·have e : s.toList.drop i = [] := List.drop_eq_nil_of_le (by rw [size_toList]; omega)
   rw [e, readR_nil]
   refine Ev.step (f := fun _ => if (x.length : Int) > 6 then some (([] : List S39), false) else some (x, true)) (fun k => ?_) ?_
   ·simp only [spec_ReadRow.l0]; rw [if_neg (by omega)]
   ·show Ev _ (if (((x ++ []).length : Nat) : Int) > 6 then ([], false) else (x ++ [], true))
    rw [List.append_nil]
    by_cases h6 : (x.length : Int) > 6
    ·simp only [if_pos h6]; exact Ev.now _
    ·simp only [if_neg h6]; exact Ev.now _
theorem readRowS (s : ByteArray) : Ev (fun k => spec_ReadRow.f k s) (readRowM s) := by
 unfold spec_ReadRow.f readRowM
 by_cases h : (s.size : Int) > 600
 ·rw [if_pos h]; exact ev_pos h (Ev.now _)
 ·rw [if_neg h]
  refine ev_neg h (ev_eq (readRowS0 s (by omega) 600 0 [] (by omega) (by omega) (by simp)) ?_)
  rw [List.drop_zero, readR_more 6 600 (by omega)]
  cases readR 600 s.toList with
  | none => rfl
  | some l =>
   show (if (l.length : Int) > 6 then (([] : List S39), false) else (l, true)) = ansR [] (Option.filter (fun l => decide (l.length ≤ 6)) (some l))
   by_cases h6 : l.length ≤ 6
   ·rw [if_neg (by omega)]; simp [Option.filter, h6, ansR]
   ·rw [if_pos (by omega)]; simp [Option.filter, h6, ansR]
theorem readRow_back {s : ByteArray} {l : List S39} (h : readRowM s = (l, true)) : rowOk l = true ∧ s.toList = catB l := by
 unfold readRowM at h
 by_cases h0 : (s.size : Int) > 600
 ·rw [if_pos h0] at h; cases h
 ·rw [if_neg h0] at h
  cases hr : readR 6 s.toList with
  | none => rw [hr] at h; cases h
  | some m =>
   rw [hr] at h
   injection h with h1 _
   rw [List.nil_append] at h1
   subst h1
   obtain ⟨g, e, hn⟩ := readR_back 6 _ _ hr
   refine ⟨?_, e⟩
   unfold rowOk
   rw [decide_eq_true (by omega : (m.length : Int) ≤ 6), Bool.true_and, List.all_eq_true]
   exact g
theorem readRow_cat {l : List S39} (h : rowOk l = true) : readRowM (rowV ⟨#[]⟩ l) = (l, true) := by
 have hz := rowBytes_size l
 unfold rowBytesM at hz
 rw [if_pos h] at hz
 dsimp only at hz
 obtain ⟨h6, g⟩ := rowOk_facts h
 unfold readRowM
 rw [if_neg (by omega), rowV_list, nil_list, List.nil_append, readR_cat l 6 h6 (fun x hx => by obtain ⟨i, hi, e⟩ := List.getElem_of_mem hx; rw [← e]; exact g i hi)]
 rfl
theorem good_mem {l : List S39} (h : rowOk l = true) : ∀ x ∈ l, goodX x = true := fun x hx => by
 obtain ⟨i, hi, e⟩ := List.getElem_of_mem hx; rw [← e]; exact (rowOk_facts h).2 i hi
theorem good_take {l : List S39} (h : rowOk l = true) (n : Nat) : rowOk (l.take n) = true := by
 have g := good_mem h
 have h6 := (rowOk_facts h).1
 unfold rowOk
 rw [decide_eq_true (by rw [List.length_take]; omega : ((l.take n).length : Int) ≤ 6), Bool.true_and, List.all_eq_true]
 exact fun x hx => g x (List.mem_of_mem_take hx)
def afterM (l : List S39) : ByteArray × ByteArray × Bool := if rowOk l = true then (rowV ⟨#[]⟩ l, rowV ⟨#[]⟩ l ++ ⟨#[255]⟩, true) else (⟨#[]⟩, ⟨#[]⟩, false)
theorem afterS (l : List S39) (hl : l.length ≤ 2000000) : Ev (fun k => spec_AfterBeginning.f k l) (afterM l) := by
 have h1 := rowOkS l hl
 unfold afterM
 cases h : rowOk l with
 | true =>
  rw [h] at h1
  have hz := rowBytes_size l
  unfold rowBytesM at hz
  rw [if_pos h] at hz
  exact ev_bind h1 (ev_pos rfl (ev_bind (rowLoops l h l.length 0 ⟨#[]⟩ (by omega) (by decide)).1 (ev_pos (by simp only [List.drop_zero]; dsimp only at hz; omega) (Ev.now _))))
 | false =>
  rw [h] at h1
  exact ev_bind h1 (ev_neg (by simp) (Ev.now _))
theorem afterI (l : List S39) (hl : l.length ≤ 2000000) : Ev (fun k => impl_AfterBeginning.f k l) (afterM l) := by
 have h1 := rowBytesI l hl
 have hz := rowBytes_size l
 unfold afterM
 unfold rowBytesM at h1 hz
 cases h : rowOk l with
 | true =>
  rw [h, if_pos rfl] at h1 hz
  exact ev_bind h1 (ev_pos rfl (ev_pos (by dsimp only at hz ⊢; omega) (Ev.now _)))
 | false =>
  rw [h, if_neg (by simp)] at h1
  exact ev_bind h1 (ev_neg (by simp) (Ev.now _))
theorem sameValues_yes (l : List S39) (hl : l.length ≤ 2000000) : Ev (fun k => laws_sameValues.f k l l) true := by
 have loop : ∀ (d i : Nat), i + d = l.length → Ev (fun k => laws_sameValues.l0 k l l (l.length : Int) (i : Int)) true := by
  intro d
  induction d with
  | zero => intro i hi; exact Ev.step (f := fun _ => some true) (fun k => by simp only [laws_sameValues.l0]; rw [if_neg (by omega)]) (Ev.now _)
  | succ d ih =>
   intro i hi
   refine Ev.step (f := fun k => laws_sameValues.l0 k l l (l.length : Int) ((i + 1 : Nat) : Int)) (fun k => ?_) (ih (i + 1) (by omega))
   simp only [laws_sameValues.l0]
   rw [if_pos (by omega), if_pos (by omega), if_pos (by omega), if_pos (by omega), if_neg (by simp), w64 (by omega) (by omega)]
   rfl
 unfold laws_sameValues.f
 exact ev_pos rfl (loop l.length 0 (by omega))
theorem cmpR_end (l m : List S39) (i : Nat) (h : i = l.length) : cmpR (l.drop i) (m.drop i) = if i < m.length then -1 else 0 := by
 rw [List.drop_eq_nil_of_le (by omega : l.length ≤ i)]
 by_cases hm : i < m.length
 ·rw [if_pos hm, List.drop_eq_getElem_cons hm]; rfl
 ·rw [if_neg hm, List.drop_eq_nil_of_le (by omega : m.length ≤ i)]; rfl
theorem cmpR_out (l m : List S39) (i : Nat) (h : i < l.length) (hm : m.length ≤ i) : cmpR (l.drop i) (m.drop i) = 1 := by
 rw [List.drop_eq_getElem_cons h, List.drop_eq_nil_of_le hm]; rfl
theorem cmpR_step (l m : List S39) (i : Nat) (h : i < l.length) (hm : i < m.length) : cmpR (l.drop i) (m.drop i) = if cmpV l[i].f0 l[i].f1 l[i].f2 m[i].f0 m[i].f1 m[i].f2 = 0 then cmpR (l.drop (i + 1)) (m.drop (i + 1)) else cmpV l[i].f0 l[i].f1 l[i].f2 m[i].f0 m[i].f1 m[i].f2 := by
 rw [List.drop_eq_getElem_cons h, List.drop_eq_getElem_cons hm]; rfl
theorem cmpFunc (l m : List S39) (hl : l.length ≤ 2000000) (hm : m.length ≤ 2000000) : Ev (fun k => slices_CompareFunc_impl_Value_compare.f k l m) (cmpR l m) := by
 have loop : ∀ (d i : Nat), i + d = l.length → Ev (fun k => slices_CompareFunc_impl_Value_compare.l0 k l m l (l.length : Int) (i : Int)) (cmpR (l.drop i) (m.drop i)) := by
  intro d
  induction d with
  | zero =>
   intro i hi
   rw [cmpR_end l m i (by omega)]
   refine Ev.step (f := fun _ => if (l.length : Int) < (m.length : Int) then some (-1) else some 0) (fun k => by simp only [slices_CompareFunc_impl_Value_compare.l0]; rw [if_neg (by omega)]) ?_
   by_cases h : i < m.length
   ·rw [if_pos h]; exact ev_pos (by omega) (Ev.now _)
   ·rw [if_neg h]; exact ev_neg (by omega) (Ev.now _)
  | succ d ih =>
   intro i hi
   have hlt : i < l.length := by omega
   by_cases hmi : i < m.length
   ·rw [cmpR_step l m i hlt hmi]
    refine Ev.step (f := fun k => (impl_Value_compare.f k l[i].f0 l[i].f1 l[i].f2 m[i].f0 m[i].f1 m[i].f2).bind fun t => if t = 0 then slices_CompareFunc_impl_Value_compare.l0 k l m l (l.length : Int) ((i + 1 : Nat) : Int) else some t) (fun k => ?_) (ev_bind (cmpI _ _ _ _ _ _) ?_)
    ·simp only [slices_CompareFunc_impl_Value_compare.l0]
     rw [if_pos (by omega), if_pos (by omega), if_pos (by omega), if_neg (by omega), if_pos (by omega), rdI_at l i hlt, rdI_at m i hmi, w64 (x := (i : Int) + 1) (by omega) (by omega)]
     rfl
    ·by_cases h : cmpV l[i].f0 l[i].f1 l[i].f2 m[i].f0 m[i].f1 m[i].f2 = 0
     ·rw [if_pos h]; exact ev_pos h (ih (i + 1) (by omega))
     ·rw [if_neg h]; exact ev_neg h (Ev.now _)
   ·rw [cmpR_out l m i hlt (by omega)]
    refine Ev.step (f := fun _ => some 1) (fun k => ?_) (Ev.now _)
    simp only [slices_CompareFunc_impl_Value_compare.l0]
    rw [if_pos (by omega), if_pos (by omega), if_pos (by omega), if_pos (by omega)]
 exact loop l.length 0 (by omega)
def crM (l m : List S39) : Int × Bool := if rowOk l = true then (if rowOk m = true then (cmpR l m, true) else (0, false)) else (0, false)
theorem compareRowsI (l m : List S39) (hl : l.length ≤ 2000000) (hm : m.length ≤ 2000000) : Ev (fun k => impl_CompareRows.f k l m) (crM l m) := by
 have h1 := rowOkI l hl
 have h2 := rowOkI m hm
 unfold crM
 cases a : rowOk l with
 | false => rw [a] at h1; exact ev_bind h1 (ev_neg (by simp) (Ev.now _))
 | true =>
  rw [a] at h1
  cases b : rowOk m with
  | false => rw [b] at h2; exact ev_bind h1 (ev_pos rfl (ev_bind h2 (ev_neg (by simp) (Ev.now _))))
  | true => rw [b] at h2; exact ev_bind h1 (ev_pos rfl (ev_bind h2 (ev_pos rfl (ev_bind (cmpFunc l m hl hm) (Ev.now _)))))
theorem signS (a b : Nat) : spec_l4Sign.f (a : Int) (b : Int) = some (if a < b then -1 else if b < a then 1 else 0) := by
 unfold spec_l4Sign.f
 by_cases h : a < b
 ·rw [if_pos (by omega), if_pos h]
 ·rw [if_neg (by omega), if_neg h]
  by_cases h2 : b < a
  ·rw [if_pos (by omega), if_pos h2]
  ·rw [if_neg (by omega), if_neg h2]
theorem compareRowsS (l m : List S39) (hl : l.length ≤ 2000000) (hm : m.length ≤ 2000000) : Ev (fun k => spec_CompareRows.f k l m) (crM l m) := by
 have loop : ∀ (d i : Nat), i + d = l.length → i ≤ m.length → Ev (fun k => spec_CompareRows.l0 k l m l (l.length : Int) (i : Int)) (cmpR (l.drop i) (m.drop i), true) := by
  intro d
  induction d with
  | zero =>
   intro i hi him
   rw [cmpR_end l m i (by omega)]
   refine Ev.step (f := fun _ => (spec_l4Sign.f (l.length : Int) (m.length : Int)).bind fun t => some (t, true)) (fun k => by simp only [spec_CompareRows.l0]; rw [if_neg (by omega)]) (ev_const (signS _ _) (ev_eq (Ev.now _) ?_))
   by_cases h : i < m.length
   ·rw [if_pos h, if_pos (by omega)]
   ·rw [if_neg h, if_neg (by omega), if_neg (by omega)]
  | succ d ih =>
   intro i hi him
   have hlt : i < l.length := by omega
   by_cases hmi : i < m.length
   ·rw [cmpR_step l m i hlt hmi]
    refine Ev.step (f := fun k => (spec_l4Compare.f l[i].f0 l[i].f1 l[i].f2 m[i].f0 m[i].f1 m[i].f2).bind fun t => if t = 0 then spec_CompareRows.l0 k l m l (l.length : Int) ((i + 1 : Nat) : Int) else some (t, true)) (fun k => ?_) (ev_const (cmpS _ _ _ _ _ _) ?_)
    ·simp only [spec_CompareRows.l0]
     rw [if_pos (by omega), if_pos (by omega), if_pos (by omega), if_neg (by omega), if_pos (by omega), rdI_at l i hlt, rdI_at m i hmi, w64 (x := (i : Int) + 1) (by omega) (by omega)]
     rfl
    ·by_cases h : cmpV l[i].f0 l[i].f1 l[i].f2 m[i].f0 m[i].f1 m[i].f2 = 0
     ·rw [if_pos h]; exact ev_pos h (ih (i + 1) (by omega) (by omega))
     ·rw [if_neg h]; exact ev_neg h (Ev.now _)
   ·rw [cmpR_out l m i hlt (by omega)]
    refine Ev.step (f := fun _ => some (1, true)) (fun k => ?_) (Ev.now _)
    simp only [spec_CompareRows.l0]
    rw [if_pos (by omega), if_pos (by omega), if_pos (by omega), if_pos (by omega)]
 have h1 := rowOkS l hl
 have h2 := rowOkS m hm
 have no : Ev (fun k => spec_CompareRows.j0 k l m true) (0, false) := Ev.step (f := fun _ => some (0, false)) (fun k => by simp only [spec_CompareRows.j0]; rw [if_pos trivial]) (Ev.now _)
 unfold crM
 cases a : rowOk l with
 | false => rw [a] at h1; exact ev_bind h1 (ev_neg (by simp) no)
 | true =>
  rw [a] at h1
  cases b : rowOk m with
  | false => rw [b] at h2; exact ev_bind h1 (ev_pos rfl (ev_bind h2 no))
  | true =>
   rw [b] at h2
   refine ev_bind h1 (ev_pos rfl (ev_bind h2 ?_))
   exact Ev.step (f := fun k => spec_CompareRows.l0 k l m l (l.length : Int) 0) (fun k => by simp only [spec_CompareRows.j0]; rw [if_neg (by simp)]) (loop l.length 0 (by omega) (by omega))
theorem drawRows {c : List Int} (hc : Bys c) : ∃ l m, Ev (fun k => spec_DrawCompareRows.f k c) (l, m) ∧ l.length ≤ 10 ∧ m.length ≤ 11 := by
 obtain ⟨l, i2, s2, e2, hl, h2, h3⟩ := row_d hc 0 0 (by omega) (by omega)
 obtain ⟨b, i3, s3, e3, _, h4, h5⟩ := one_d hc i2 s2 3 (by omega) (by omega) (by omega)
 cases b with
 | false =>
  obtain ⟨m, i4, s4, e4, hm, h6, h7⟩ := row_d hc i3 s3 (by omega) (by omega)
  exact ⟨l, m, ev_bind e2 (ev_const e3 (ev_neg (by simp) (ev_bind e4 (Ev.now _)))), hl, by omega⟩
 | true =>
  obtain ⟨b2, i4, s4, e4, _, h6, h7⟩ := one_d hc i3 s3 2 (by omega) (by omega) (by omega)
  cases b2 with
  | false => exact ⟨l, [] ++ l, ev_bind e2 (ev_const e3 (ev_pos rfl (ev_const rfl (ev_pos (by simp only [List.length_nil]; omega) (ev_const rfl (ev_const e4 (ev_neg (by simp) (Ev.now _)))))))), hl, by rw [List.nil_append]; omega⟩
  | true =>
   obtain ⟨a, b, t, i5, s5, e5, _, h8, h9⟩ := value_d hc i4 s4 (by omega) (by omega)
   exact ⟨l, [] ++ l ++ [(⟨a, b, t⟩ : S39)], ev_bind e2 (ev_const e3 (ev_pos rfl (ev_const rfl (ev_pos (by simp only [List.length_nil]; omega) (ev_const rfl (ev_const e4 (ev_pos rfl (ev_const e5 (ev_pos (by simp only [List.nil_append]; omega) (Ev.now _)))))))))), hl, by simp only [List.nil_append, List.length_append, List.length_cons, List.length_nil]; omega⟩
theorem drawReadRow {c : List Int} (hc : Bys c) : ∃ t, Ev (fun k => spec_DrawReadRow.f k c) t ∧ t.size ≤ 400 := by
 obtain ⟨t, i, s, e, ht, _⟩ := rowText_d hc 0 0 (by omega) (by omega)
 exact ⟨t, ev_bind e (Ev.now _), ht⟩
theorem drawRowBytes {c : List Int} (hc : Bys c) : ∃ l, Ev (fun k => spec_DrawRowBytes.f k c) l ∧ l.length ≤ 10 := by
 obtain ⟨l, i, s, e, hl, _⟩ := row_d hc 0 0 (by omega) (by omega)
 exact ⟨l, ev_bind e (Ev.now _), hl⟩
end Go.Proofs.YtmfipefpmjcddaaDoor.QM
end
section
namespace Go.Proofs.YtmfipefpmjcddaaDoor.Pure
open Go.RowKit Go.Proofs.YtmfipefpmjcddaaDoorW.PrintWords Go.Proofs.YtmfipefpmjcddaaDoorW.PrintLast Go.Proofs.YtmfipefpmjcddaaDoorW.PrintMore Go.Proofs.YtmfipefpmjcddaaDoor.PB Go.Proofs.YtmfipefpmjcddaaDoor.PD Go.Proofs.YtmfipefpmjcddaaDoor.PC Go.Proofs.YtmfipefpmjcddaaDoor.QR Go.Proofs.YtmfipefpmjcddaaDoor.QV Go.Proofs.YtmfipefpmjcddaaDoor.QE Go.Proofs.YtmfipefpmjcddaaDoor.QF Go.Proofs.YtmfipefpmjcddaaDoor.QH Go.Proofs.YtmfipefpmjcddaaDoor.QI Go.Proofs.YtmfipefpmjcddaaDoor.QK Go.Proofs.YtmfipefpmjcddaaDoor.QL Go.Proofs.YtmfipefpmjcddaaDoor.QD Go.Proofs.YtmfipefpmjcddaaDoor.QM Go.Proofs.YtmfipefpmjcddaaDoor.PA
set_option linter.unusedVariables false
theorem sameWay (x y : ByteArray) : laws_sameWay.f x y = some (cmpL x.toList y.toList) := by
 unfold laws_sameWay.f
 rw [← cmpL_less]
 split
 ·rfl
 ·split <;> rfl
theorem less_iff (x y : List UInt8) : Op.bytesLess x y = decide (cmpL x y = -1) := by
 rw [← cmpL_less]
 cases h : Op.bytesLess x y with
 | true => simp
 | false => cases Op.bytesLess y x <;> simp
theorem rowsTail {c : List Int} (hc : Bys c) : Ev (fun k => laws_FnRows.j4 k c) true := by
 obtain ⟨s, hd, hs⟩ := drawReadRow hc
 obtain ⟨l, hv, hl⟩ := drawRowBytes hc
 have hL : l.length ≤ 2000000 := by omega
 have hR : (readRowM s).1.length ≤ 2000000 := by
  cases h : readRowM s with
  | mk r b =>
   cases b with
   | true => have := (rowOk_facts (readRow_back h).1).1; show r.length ≤ _; omega
   | false =>
    unfold readRowM at h
    split at h
    ·injection h with h _; subst h; simp
    ·cases hr : readR 6 s.toList with
     | none => rw [hr] at h; injection h with h _; subst h; simp
     | some m => rw [hr] at h; injection h with _ h; cases h
 refine Ev.step (f := fun k => _) (fun k => by simp only [laws_FnRows.j4]; rfl) ?_
 refine ev_bind hd (ev_bind (readRowI s) (ev_bind (readRowS s) (ev_bind hv (ev_bind (rowBytesI l hL) (ev_bind (rowBytesS l hL) (ev_bind (afterI l hL) (ev_bind (afterS l hL) (ev_neg (by simp) (ev_bind (sameValues_yes _ hR) (ev_pos rfl (ev_neg (by simp) (ev_pos rfl (ev_neg (by simp) (ev_pos rfl ?_))))))))))))))
 simp only [bne_self_eq_false]
 cases h : readRowM s with
 | mk r b =>
  cases b with
  | false => exact Ev.step (f := fun _ => some true) (fun k => by simp only [laws_FnRows.j5]; rw [if_neg (by simp), if_neg (by simp)]) (Ev.now _)
  | true =>
   obtain ⟨g, e⟩ := readRow_back h
   have hb := rowBytesI r (by have := (rowOk_facts g).1; omega)
   unfold rowBytesM at hb
   rw [if_pos g] at hb
   refine Ev.step (f := fun k => (impl_RowBytes.f k r).bind fun t => if t.2 = true then some (t.1.toList == s.toList) else some false) (fun k => by simp only [laws_FnRows.j5]; rw [if_neg (by simp), if_pos trivial]) (ev_bind hb (ev_pos rfl (ev_eq (Ev.now _) ?_)))
   show ((rowV ⟨#[]⟩ r).toList == s.toList) = true
   rw [rowV_list, nil_list, List.nil_append, e, beq_self_eq_true]
theorem take_step (a b : List S39) (i : Nat) (h1 : i < a.length) (h2 : i < b.length) : a.take (i + 1) = b.take (i + 1) ↔ a.take i = b.take i ∧ a[i] = b[i] := by
 have ea : a.take (i + 1) = a.take i ++ [a[i]] := by rw [List.take_add_one, List.getElem?_eq_getElem h1]; rfl
 have eb : b.take (i + 1) = b.take i ++ [b[i]] := by rw [List.take_add_one, List.getElem?_eq_getElem h2]; rfl
 rw [ea, eb]
 constructor
 ·intro h
  obtain ⟨p, q⟩ := List.append_inj h (by rw [List.length_take, List.length_take]; omega)
  injection q with q _
  exact ⟨p, q⟩
 ·rintro ⟨p, q⟩
  rw [p, q]
theorem catB_append (a b : List S39) : catB (a ++ b) = catB a ++ catB b := by
 induction a with
 | nil => rfl
 | cons x a ih => rw [List.cons_append, catB, catB, ih, List.append_assoc]
theorem inRange (a b : List S39) (ga : ∀ x ∈ a, goodX x = true) (gb : ∀ x ∈ b, goodX x = true) : (cmpL (catB b) (catB a) ≠ -1 ∧ cmpL (catB b) (catB a ++ [255]) = -1) ↔ a <+: b := by
 constructor
 ·intro h; exact (catB_pre a b ga gb).1 (between _ _ h)
 ·rintro ⟨m, rfl⟩
  rw [catB_append]
  refine between_of _ _ ?_
  intro c r h
  cases m with
  | nil => cases h
  | cons y m =>
   obtain ⟨c', r', e, h'⟩ := bts_cons (gb y (by simp))
   rw [catB, e] at h
   injection h with h _
   subst h
   exact h'
theorem last_test {c : List Int} (hc : Bys c) (a b : List S39) (ga : rowOk a = true) (gb : rowOk b = true) (n : Nat) (x17 x22 : Int) (B : Bool) (hB : B = true ↔ a.take n <+: b) :
  Ev (fun k => laws_FnRows.j3 k c a b (rowV ⟨#[]⟩ b) x17 (afterM (a.take n)).1 (afterM (a.take n)).2.1 (afterM (a.take n)).2.2 B x22 false) true := by
 have gt := good_take ga n
 have R := inRange (a.take n) b (good_mem gt) (good_mem gb)
 have em : afterM (a.take n) = (rowV ⟨#[]⟩ (a.take n), rowV ⟨#[]⟩ (a.take n) ++ ⟨#[255]⟩, true) := by unfold afterM; rw [if_pos gt]
 rw [em]
 have e1 : (rowV ⟨#[]⟩ b).toList = catB b := by rw [rowV_list, nil_list, List.nil_append]
 have e2 : (rowV ⟨#[]⟩ (a.take n)).toList = catB (a.take n) := by rw [rowV_list, nil_list, List.nil_append]
 have e3 : (rowV ⟨#[]⟩ (a.take n) ++ ⟨#[255]⟩).toList = catB (a.take n) ++ [255] := by rw [app_list, e2]; congr 1; rw [ByteArray.toList_eq]
 have tail := rowsTail hc
 refine Ev.step (f := fun k => if ((Op.bytesLess (catB b) (catB (a.take n))) = true) then (if (false != B) = true then (some false) else (laws_FnRows.j4 k c)) else (if ((Op.bytesLess (catB b) (catB (a.take n) ++ [255])) != B) = true then (some false) else (laws_FnRows.j4 k c))) (fun k => ?_) ?_
 ·simp only [laws_FnRows.j3]
  rw [if_neg (by simp), if_pos trivial, e1, e2, e3]
 ·rw [less_iff, less_iff]
  by_cases h1 : cmpL (catB b) (catB (a.take n)) = -1
  ·have : B = false := by
    cases h : B with
    | false => rfl
    | true => exact absurd h1 (R.2 (hB.1 h)).1
   rw [this]
   exact ev_pos (by rw [decide_eq_true h1]) (ev_neg (by simp) tail)
  ·refine ev_neg (by rw [decide_eq_false h1]; simp) ?_
   have : decide (cmpL (catB b) (catB (a.take n) ++ [255]) = -1) = B := by
    by_cases h2 : cmpL (catB b) (catB (a.take n) ++ [255]) = -1
    ·rw [decide_eq_true h2, hB.2 (R.1 ⟨h1, h2⟩)]
    ·rw [decide_eq_false h2]
     cases h : B with
     | false => rfl
     | true => exact absurd (R.2 (hB.1 h)).2 h2
   rw [this]
   exact ev_neg (by simp) tail
theorem rowLoop {c : List Int} (hc : Bys c) (a b : List S39) (ga : rowOk a = true) (gb : rowOk b = true) (n : Nat) (hn : n ≤ a.length) : ∀ (d i : Nat) (B : Bool), i + d = n → (B = true → n ≤ b.length ∧ a.take i = b.take i) → (B = false → ¬ a.take n <+: b) →
  Ev (fun k => laws_FnRows.l0 k c a b (rowV ⟨#[]⟩ b) (n : Int) (afterM (a.take n)).1 (afterM (a.take n)).2.1 (afterM (a.take n)).2.2 B (i : Int)) true := by
 have ha6 := (rowOk_facts ga).1
 have hb6 := (rowOk_facts gb).1
 intro d
 induction d with
 | zero =>
  intro i B hi h1 h2
  have ei : i = n := by omega
  subst ei
  have lt := last_test hc a b ga gb i (i : Int) (i : Int) B (by
   constructor
   ·intro h
    obtain ⟨hl, he⟩ := h1 h
    rw [he]; exact List.take_prefix _ _
   ·intro h
    cases hB : B with
    | true => rfl
    | false => exact absurd h (h2 hB))
  cases hB : B with
  | true =>
   rw [hB] at lt
   exact Ev.step (fun k => by simp only [laws_FnRows.l0]; rw [if_pos trivial, decide_eq_false (by omega)]) lt
  | false =>
   rw [hB] at lt
   exact Ev.step (fun k => by simp only [laws_FnRows.l0]; rw [if_neg (by simp)]) lt
 | succ d ih =>
  intro i B hi h1 h2
  cases hB : B with
  | false =>
   have lt := last_test hc a b ga gb n (n : Int) (i : Int) false ⟨fun h => (by cases h), fun h => absurd h (h2 hB)⟩
   exact Ev.step (fun k => by simp only [laws_FnRows.l0]; rw [if_neg (by simp)]) lt
  | true =>
   obtain ⟨hl, he⟩ := h1 hB
   have hia : i < a.length := by omega
   have hib : i < b.length := by omega
   have gx : goodV a[i].f0 a[i].f1 a[i].f2 = true := (rowOk_facts ga).2 i hia
   have gy : goodV b[i].f0 b[i].f1 b[i].f2 = true := (rowOk_facts gb).2 i hib
   have hcv := compareI a[i].f0 a[i].f1 a[i].f2 b[i].f0 b[i].f1 b[i].f2
   unfold cvM at hcv
   rw [if_pos gx, if_pos gy] at hcv
   have hz : (cmpV a[i].f0 a[i].f1 a[i].f2 b[i].f0 b[i].f1 b[i].f2 == 0) = true ↔ a[i] = b[i] := by
    rw [beq_iff_eq, cmpV_zero]
    constructor
    ·rintro ⟨p, q, r⟩
     generalize a[i] = x at p q r
     generalize b[i] = y at p q r
     cases x; cases y
     simp only at p q r
     rw [p, q, r]
    ·intro h; rw [h]; exact ⟨rfl, rfl, rfl⟩
   have r := ih (i + 1) (cmpV a[i].f0 a[i].f1 a[i].f2 b[i].f0 b[i].f1 b[i].f2 == 0) (by omega)
    (fun h => ⟨hl, (take_step a b i hia hib).2 ⟨he, hz.1 h⟩⟩)
    (fun h hp => by
     have e : a.take n = b.take n := by
      have := List.prefix_iff_eq_take.1 hp
      rw [List.length_take, Nat.min_eq_left hn] at this
      exact this
     have e2 : a.take (i + 1) = b.take (i + 1) := by
      have := congrArg (List.take (i + 1)) e
      rw [List.take_take, List.take_take, Nat.min_eq_left (by omega)] at this
      exact this
     have := hz.2 ((take_step a b i hia hib).1 e2).2
     rw [h] at this; cases this)
   refine Ev.step (f := fun k => laws_FnRows.j3 k c a b (rowV ⟨#[]⟩ b) (n : Int) (afterM (a.take n)).1 (afterM (a.take n)).2.1 (afterM (a.take n)).2.2 true (i : Int) true) (fun k => by simp only [laws_FnRows.l0]; rw [if_pos trivial, decide_eq_true (by omega)]) ?_
   refine Ev.step (f := fun k => (impl_CompareValues.f k a[i].f0 a[i].f1 a[i].f2 b[i].f0 b[i].f1 b[i].f2).bind fun t => if t.2 = true then laws_FnRows.l0 k c a b (rowV ⟨#[]⟩ b) (n : Int) (afterM (a.take n)).1 (afterM (a.take n)).2.1 (afterM (a.take n)).2.2 (t.1 == 0) ((i + 1 : Nat) : Int) else some false) (fun k => ?_) (ev_bind hcv (ev_pos rfl r))
   simp only [laws_FnRows.j3]
   rw [if_pos trivial, if_pos (by omega), if_pos (by omega), if_pos (by omega), rdI_at a i hia, rdI_at b i hib, w64 (x := (i : Int) + 1) (by omega) (by omega)]
   rfl
theorem FnRows (l0 l1 : List Int) (h0 : l0.length ≤ maxLen ∧ ∀ x ∈ l0, (Lit.int .u8 x).wf = true) (h1 : l1.length ≤ maxLen ∧ ∀ x ∈ l1, (Lit.int .u8 x).wf = true) : ∃ k, laws_FnRows.f k l0 l1 = some true := by
 refine Ev.rounds ?_
 have hc := code_of l0 h0.2
 have hc1 := code_of l1 h1.2
 have tail := rowsTail hc1
 unfold laws_FnRows.f
 by_cases hL : wrap64 ((l0.length : Int) + (l1.length : Int)) > 1048576
 ·exact ev_pos hL (Ev.now _)
 have hl1 : l1.length ≤ 9223372036854775807 := by have h3 := h1.1; unfold maxLen at h3; omega
 refine ev_neg hL ?_
 obtain ⟨a, b, hd, ha, hb⟩ := drawRows hc
 have ca := compareRowsI a b (by omega) (by omega)
 have cs := compareRowsS a b (by omega) (by omega)
 refine ev_bind hd (ev_bind ca (ev_bind cs (ev_neg (by simp) ?_)))
 simp only [bne_self_eq_false]
 unfold crM
 have no : Ev (fun k => laws_FnRows.j0 k l1 a b 0 false false) true := Ev.step (f := fun k => laws_FnRows.j4 k l1) (fun k => by simp only [laws_FnRows.j0]; rw [if_neg (by simp), if_neg (by simp)]) tail
 by_cases g : rowOk a = true
 ·rw [if_pos g]
  by_cases g' : rowOk b = true
  ·rw [if_pos g']
   have hx := rowBytesI a (by omega)
   have hy := rowBytesI b (by omega)
   unfold rowBytesM at hx hy
   rw [if_pos g] at hx
   rw [if_pos g'] at hy
   have hr := readRowI (rowV ⟨#[]⟩ a)
   rw [readRow_cat g] at hr
   have e1 : (rowV ⟨#[]⟩ a).toList = catB a := by rw [rowV_list, nil_list, List.nil_append]
   have e2 : (rowV ⟨#[]⟩ b).toList = catB b := by rw [rowV_list, nil_list, List.nil_append]
   have ord : cmpL (rowV ⟨#[]⟩ a).toList (rowV ⟨#[]⟩ b).toList = cmpR a b := by rw [e1, e2]; exact orderR a b (good_mem g) (good_mem g')
   have j1 : Ev (fun k => laws_FnRows.j1 k l1 a b (rowV ⟨#[]⟩ b) false) true := by
    obtain ⟨n, hn, n0, n1⟩ := number_d hc1 hl1
    have wd : wrap64 ((a.length : Int) + 1) = (a.length : Int) + 1 := w64 (by omega) (by omega)
    obtain ⟨m, hm⟩ := Int.eq_ofNat_of_zero_le (a := Int.tmod n ((a.length : Int) + 1)) (by rw [Int.tmod_eq_emod_of_nonneg n0]; exact Int.emod_nonneg _ (by omega))
    have hm2 : m ≤ a.length := by
     have : Int.tmod n ((a.length : Int) + 1) < (a.length : Int) + 1 := Int.tmod_lt_of_pos _ (by omega)
     omega
    have hA := afterI (a.take m) (by rw [List.length_take]; omega)
    have lp := rowLoop hc1 a b g g' m hm2 m 0 (decide ((b.length : Int) ≥ (m : Int))) (by omega)
     (fun h => ⟨by have := of_decide_eq_true h; omega, rfl⟩)
     (fun h hp => by
      have h' := of_decide_eq_false h
      have := hp.length_le
      rw [List.length_take] at this
      omega)
    refine Ev.step (f := fun k => (laws_numberOf.f k l1).bind fun t => (if (wrap64 ((a.length : Int) + 1)) = 0 then (none) else (if 0 ≤ (Int.tmod t (wrap64 ((a.length : Int) + 1))) then (if (Int.tmod t (wrap64 ((a.length : Int) + 1))) ≤ (a.length : Int) then ((impl_AfterBeginning.f k (a.take ((Int.tmod t (wrap64 ((a.length : Int) + 1))) : Int).toNat)).bind fun bt => (laws_FnRows.l0 k l1 a b (rowV ⟨#[]⟩ b) (Int.tmod t (wrap64 ((a.length : Int) + 1))) bt.1 bt.2.1 bt.2.2 (decide ((b.length : Int) ≥ (Int.tmod t (wrap64 ((a.length : Int) + 1))))) 0)) else (none)) else (none)))) (fun k => by simp only [laws_FnRows.j1]; rw [if_neg (by simp)]) (ev_bind hn ?_)
    simp only [wd, hm]
    refine ev_neg (by omega) (ev_pos (by omega) (ev_pos (by omega) ?_))
    rw [Int.toNat_natCast]
    exact ev_bind hA lp
   refine Ev.step (f := fun k => _) (fun k => by simp only [laws_FnRows.j0]; rfl) ?_
   refine ev_neg (by simp) (ev_pos trivial (ev_bind hx (ev_bind hy (ev_bind hr (ev_pos rfl (ev_pos rfl (ev_const (sameWay _ _) (ev_pos ord (ev_pos rfl (ev_bind (sameValues_yes a (by omega)) j1))))))))))
  ·rw [if_neg g']; exact no
 ·rw [if_neg g]; exact no
end Go.Proofs.YtmfipefpmjcddaaDoor.Pure
end
