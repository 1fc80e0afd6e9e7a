/- For the law FnExactPiecesOf (laid by merge.py). -/
import Derived.Test.YtnplghcbdaiogaaMFnExactPiecesOfd
import Derived.Laws.BitsLemmas
section
namespace Go.Proofs.Ytnplghcbdaiogaa.RG
open Go.RowKit Go.Proofs.YtnplghcbdaiogaaW.PrintWords Go.Proofs.YtnplghcbdaiogaaW.PrintLast Go.Proofs.YtnplghcbdaiogaaW.PrintMore Go.Proofs.Ytnplghcbdaiogaa.PA Go.Proofs.Ytnplghcbdaiogaa.RF
attribute [local go_sem] max2_int min2_int max_two min_two max_three min_three max_four min_four
set_option linter.unusedVariables false
set_option linter.unusedSimpArgs false
set_option maxHeartbeats 4000000
set_option maxRecDepth 100000
theorem kept_set {w W : World} {S : Nat → Prop} (h : Kept w W S) {g : Nat} (hg : S g) (o : Nat) (u : Value) : Kept w (W.setCell ⟨g, o, none⟩ u) S :=
 ⟨by simpa [World.setCell] using h.1, fun i hi hs => (Below.heap_setCell W ⟨g, o, none⟩ u i (fun e => hs (by have e' : i = g := e; rw [e']; exact hg))).trans (h.2 i hi hs)⟩
theorem kept_more {w W W2 : World} {S S2 : Nat → Prop} (h : Kept w W S) (h2 : Kept W W2 S2) (hs : ∀ i, S2 i → S i ∨ w.heap.size ≤ i) : Kept w W2 S :=
 ⟨Nat.le_trans h.1 h2.1, fun i hi hn => (h2.2 i (Nat.lt_of_lt_of_le hi h.1) (fun q => (hs i q).elim hn (fun q2 => by omega))).trans (h.2 i hi hn)⟩
def markPL : Nat → List S97 → Int → Int → Option (Int × List S97)
 | 0, _, _, _ => none
 | k + 1, x0, x1, x5 => if x5 < (x0.length : Int) then (if 0 ≤ x5 then ((laws_markStringS.f k (rd_T97 x0 x5).f0 x1).bind fun b0 => ((laws_markStringS.f k (rd_T97 x0 x5).f1 b0.1).bind fun b1 => ((laws_markIntS.f k (rd_T97 x0 x5).f2 b1.1).bind fun b2 => markPL k (x0.set x5.toNat ⟨b0.2, b1.2, b2.2⟩) b2.1 (wrap64 (x5 + 1))))) else none) else some (x1, x0)
def markPF (k : Nat) (l0 : List S97) (a1 : Int) : Option (Int × List S97) := markPL k l0 a1 0
theorem markPB (k : Nat) (P0_ : Nat → Prop) (u : Value) (l0 : List S97) (a1 : Int) (r1 : Int) (r2 : List S97) (w0 w : World) (hB : Below w0.heap.size w0 w) (ho0 : Kd.S a97 97 w w0.heap.size P0_ u l0) (h : markPF k l0 a1 = some (r1, r2)) :
  Calls Try.prog 38 #[u, .int .i64 a1] w fun e w' => e = .returned (.int .i64 r1) ∧ Kd.S a97 97 w' w0.heap.size (fun k_ => (P0_ k_ ∨ w.heap.size ≤ k_)) u r2 ∧ Below w0.heap.size w0 w' ∧ Kept w w' (fun k_ => P0_ k_) := by
 have HB := zA hB
 have HS := zA (Kd.S_mono ho0 (fun k_ hk => Or.inl hk) : Kd.S a97 97 w w0.heap.size (fun k_ => P0_ k_ ∨ w.heap.size ≤ k_) u l0)
 have HKP := zA (Kept.refl w (fun k_ => P0_ k_))
 have H' := zA (show markPL k l0 a1 0 = some (r1, r2) from h)
 have HOP := zA (show ∀ k_, u.ownBlock = some k_ → P0_ k_ from fun k_ e => (Kd.S_R ho0).1 k_ e)
 obtain ⟨A0, c0, eo⟩ := Kd.S_slice ho0
 subst eo
 have hu38 := Try.underlying97
 clear hB ho0 h
 go_enter Try.func38, Try.ntmps38
 go_wp2
 go_loopg [1, 5] k (fun kq v1 v5 w' => ∃ (xs : List S97) (kk z : Int), v1 = .int .i64 kk ∧ v5 = .int .i64 z ∧ Aside0 (markPL kq xs kk z = some (r1, r2)) ∧ Aside0 (kq ≤ k) ∧ Aside0 (xs.length = l0.length) ∧ Aside0 (Kd.S a97 97 w' w0.heap.size (fun k_ => P0_ k_ ∨ w.heap.size ≤ k_) (.slice A0 l0.length c0) xs) ∧ Aside0 (Below w0.heap.size w0 w') ∧ Aside0 (Kept w w' (fun k_ => P0_ k_)))
 case atStart => exact ⟨l0, a1, 0, rfl, rfl, H', ⟨Nat.le_refl _⟩, ⟨rfl⟩, HS, HB, HKP⟩
 case round =>
  clear H' HS HB HKP
  obtain ⟨xs, kk, z, rfl, rfl, HM, HK1, HXL, HS, HB, HKP⟩ := hrel
  cases gk with
  | zero => exact absurd HM.out (by simp [markPL])
  | succ k1 =>
   have H := HM.out
   clear HM
   rw [markPL, HXL.out] at H
   by_cases c1 : z < (l0.length : Int)
   ·rw [if_pos c1] at H
    by_cases c2 : 0 ≤ z
    ·rw [if_pos c2] at H
     obtain ⟨ad, c9, eA⟩ := Kd.R_slice1 (Kd.S_R HS.out) (by have := HXL.out; omega)
     injection eA with eA eL eC
     clear eL eC
     subst eA
     obtain ⟨g, eg⟩ := Kd.R_head (Kd.S_R HS.out)
     subst eg
     replace H := zAF H
     obtain ⟨⟨m0, t0⟩, h0, H⟩ := H
     replace H := zAF H
     obtain ⟨⟨m1, t1⟩, h1, H⟩ := H
     replace H := zAF H
     obtain ⟨⟨m2, t2⟩, h2, H⟩ := H
     have H0 := zA h0
     have H1 := zA h1
     have H2 := zA h2
     have H' := zA (show markPL k1 (xs.set z.toNat ⟨t0, t1, t2⟩) m2 (wrap64 (z + 1)) = some (r1, r2) from H)
     have HZ0 := zA c2
     have HZN := zA c1
     have q1 : (z < (l0.length : Int)) = True := eq_true c1
     have q2 : decide (z < (l0.length : Int)) = true := decide_eq_true c1
     have q3 : (0 ≤ z) = True := eq_true c2
     have q4 : decide (0 ≤ z) = true := decide_eq_true c2
     have HPG := zA (show P0_ g from HOP.out g (by simp [Value.ownBlock]))
     have HGB := zA (show w0.heap.size ≤ g from Kd.R_base (Kd.S_R HS.out) g (by simp [Value.ownBlock]))
     obtain ⟨x, hx⟩ : ∃ x, x = rd_T97 xs z := ⟨_, rfl⟩
     rw [← hx] at H0 H1 H2
     have HX := zA hx
     have HIX := zA (show z.toNat < xs.length from by have := HXL.out; omega)
     clear h0 h1 h2 H c1 c2 hx
     obtain ⟨B0, d0, B1, d1, B2, d2, hc0, hc1, hc2, hr0, hr1, hr2, ho0, ho1, ho2, hb0, hb1, hb2⟩ := lend97 HS.out z HZ0.out HZN.out x HX.out.symm
     have HR := zA hr0
     have HO := zA ho0
     have HBK := zA hb0
     clear hr0 hr1 hr2 ho0 ho1 ho2 hb0 hb1 hb2 hc1 hc2
     go_wp2_with (first | ((with_reducible refine gate_dst (N := 18) rfl ?_); refine goesL_ (some 18) rfl rfl Try.func39 (by kernel_rfl) rfl #[.slice B0 x.f0.length d0, .int .i64 kk] rfl (by (try simp only [zAA, zAB, zAC]); first | done | rfl) ?_; refine (laws_markStringS.calls k1 (fun k_ => some k_ = (Value.slice B0 x.f0.length d0).ownBlock) (.slice B0 x.f0.length d0) x.f0 kk m0 t0 w0 _ HB.out HR.out H0.out).mono ?_; rintro e w18 ⟨rfl, hr, hb, hk⟩; refine ⟨_, rfl, ?_⟩; have n0_ := zA (HBK.out _ _ hk hr); have n1_ := zA hb; have n2_ := zA (kept_more HKP.out hk (fun i hi => HO.out i hi)); clear HS HB HKP HR HO HBK hc0 hr hb hk; obtain ⟨y0, hy⟩ : ∃ q, q = xs.set z.toNat (⟨t0, x.f1, x.f2⟩ : S97) := ⟨_, rfl⟩; rw [← hy] at n0_; have HS := n0_; have HB := n1_; have HKP := n2_; clear n0_ n1_ n2_; have HXS := zA hy; clear hy; obtain ⟨B0, d0, B1, d1, B2, d2, hc0, hc1, hc2, hr0, hr1, hr2, ho0, ho1, ho2, hb0, hb1, hb2⟩ := lend97 HS.out z HZ0.out HZN.out ⟨t0, x.f1, x.f2⟩ (by rw [HXS.out]; exact rd_set97 _ _ _ HIX.out); have HR := zA hr1; have HO := zA ho1; have HBK := zA hb1; clear hr0 hr1 hr2 ho0 ho1 ho2 hb0 hb1 hb2 hc0 hc2) | ((with_reducible refine gate_dst (N := 25) rfl ?_); refine goesL_ (some 25) rfl rfl Try.func39 (by kernel_rfl) rfl #[.slice B1 x.f1.length d1, .int .i64 m0] rfl (by (try simp only [zAA, zAB, zAC]); first | done | rfl) ?_; refine (laws_markStringS.calls k1 (fun k_ => some k_ = (Value.slice B1 x.f1.length d1).ownBlock) (.slice B1 x.f1.length d1) x.f1 m0 m1 t1 w0 _ HB.out HR.out H1.out).mono ?_; rintro e w25 ⟨rfl, hr, hb, hk⟩; refine ⟨_, rfl, ?_⟩; have n0_ := zA (by have := HBK.out _ _ hk hr; rw [HXS.out, List.set_set] at this; exact this : Kd.S a97 97 w25 w0.heap.size (fun k_ => P0_ k_ ∨ w.heap.size ≤ k_) (.slice (some ⟨g, 0, none⟩) l0.length c0) (xs.set z.toNat ⟨t0, t1, x.f2⟩)); have n1_ := zA hb; have n2_ := zA (kept_more HKP.out hk (fun i hi => HO.out i hi)); clear HS HB HKP HR HO HBK hc1 hr hb hk; obtain ⟨y1, hy⟩ : ∃ q, q = xs.set z.toNat (⟨t0, t1, x.f2⟩ : S97) := ⟨_, rfl⟩; rw [← hy] at n0_; have HS := n0_; have HB := n1_; have HKP := n2_; clear n0_ n1_ n2_ HXS; have HXS := zA hy; clear hy; obtain ⟨B0, d0, B1, d1, B2, d2, hc0, hc1, hc2, hr0, hr1, hr2, ho0, ho1, ho2, hb0, hb1, hb2⟩ := lend97 HS.out z HZ0.out HZN.out ⟨t0, t1, x.f2⟩ (by rw [HXS.out]; exact rd_set97 _ _ _ HIX.out); have HR := zA hr2; have HO := zA ho2; have HBK := zA hb2; clear hr0 hr1 hr2 ho0 ho1 ho2 hb0 hb1 hb2 hc0 hc1) | ((with_reducible refine gate_dst (N := 32) rfl ?_); refine goesL_ (some 32) rfl rfl Try.func48 (by kernel_rfl) rfl #[.slice B2 x.f2.length d2, .int .i64 m1] rfl (by (try simp only [zAA, zAB, zAC]); first | done | rfl) ?_; refine (laws_markIntS.calls k1 (fun k_ => some k_ = (Value.slice B2 x.f2.length d2).ownBlock) (.slice B2 x.f2.length d2) x.f2 m1 m2 t2 w0 _ HB.out HR.out H2.out).mono ?_; rintro e w32 ⟨rfl, hr, hb, hk⟩; refine ⟨_, rfl, ?_⟩; have n0_ := zA (by have := HBK.out _ _ hk hr; rw [HXS.out, List.set_set] at this; exact this : Kd.S a97 97 w32 w0.heap.size (fun k_ => P0_ k_ ∨ w.heap.size ≤ k_) (.slice (some ⟨g, 0, none⟩) l0.length c0) (xs.set z.toNat ⟨t0, t1, t2⟩)); have n1_ := zA hb; have n2_ := zA (kept_more HKP.out hk (fun i hi => HO.out i hi)); clear HS HB HKP HR HO HBK hc2 hr hb hk; obtain ⟨y2, hy⟩ : ∃ q, q = xs.set z.toNat (⟨t0, t1, t2⟩ : S97) := ⟨_, rfl⟩; rw [← hy] at n0_; have HS := n0_; have HB := n1_; have HKP := n2_; clear n0_ n1_ n2_ HXS; have HXS := zA hy; clear hy))
     go_roundg k1
     case measure => have := HK1.out; omega
     case rel => exact ⟨_, _, _, rfl, rfl, H', ⟨by have := HK1.out; omega⟩, ⟨by rw [List.length_set]; exact HXL.out⟩, ⟨by have := HS.out; rw [HXS.out] at this; exact this⟩, HB, HKP⟩
    ·rw [if_neg c2] at H; exact absurd H (by simp)
   ·rw [if_neg c1] at H
    have q3 : decide (z < (l0.length : Int)) = false := decide_eq_false c1
    simp only [Option.some.injEq, Prod.mk.injEq] at H
    obtain ⟨rfl, rfl⟩ := H
    clear c1
    go_wp2
    go_ret
    exact ⟨by first | rfl | (simp <;> rfl), HS.out, HB.out, HKP.out⟩
theorem markTB (k : Nat) (P0_ : Nat → Prop) (u : Value) (l0 : List S97) (a1 : Int) (r1 : Int) (r2 : List S97) (w0 w : World) (hB : Below w0.heap.size w0 w) (ho0 : Kd.S a97 97 w w0.heap.size P0_ u l0) (h : markPF k l0 a1 = some (r1, r2)) :
  Calls Try.prog 14 #[.agg #[u], .int .i64 a1] w fun e w' => e = .returned (.int .i64 r1) ∧ Kd.S a97 97 w' w0.heap.size (fun k_ => (P0_ k_ ∨ w.heap.size ≤ k_)) u r2 ∧ Below w0.heap.size w0 w' ∧ Kept w w' (fun k_ => P0_ k_) := by
 have HB := zA hB
 have HS := zA ho0
 have H := zA h
 have HKP := zA (Kept.refl w (fun k_ => P0_ k_))
 have HW := zA (Nat.le_refl w.heap.size)
 have hu30 := Try.underlying30
 clear hB ho0 h
 go_enter Try.func14, Try.ntmps14
 go_wp2_with (first | ((with_reducible refine gate_dst (N := 2) rfl ?_); refine box_event ?hg (N := 2) ?hd (cs := #[u]) (t := 30) ?hr ?_; (case hd => rfl); (case hg => rfl); (case hr => first | (go_simp; done) | (go_simp; rfl)); intro gb1 hg w3 hbox hb; have n0_ := zA (zAD HB.out hb); have n1_ := zA (Kd.S_below HS.out hb); have n2_ := zA (Kept.of_below hb (fun k_ => P0_ k_)); have n3_ := zA hb.size; clear HB HS HKP HW; have HB := n0_; have HS := n1_; have HKP := n2_; have HW := n3_; clear n0_ n1_ n2_ n3_ hb hg; have hx1 : w3.cell? ⟨gb1, 0, none⟩ = some u := (zP hbox 0).trans rfl; clear hbox) | ((with_reducible refine gate_dst (N := 8) rfl ?_); refine goesL_ (some 8) rfl rfl Try.func38 (by kernel_rfl) rfl #[u, .int .i64 a1] rfl (by (try simp only [zAA, zAB, zAC]); first | done | rfl) ?_; refine (markPB k P0_ u l0 a1 r1 r2 w0 _ HB.out HS.out H.out).mono ?_; rintro e w8 ⟨rfl, hr, hb, hk⟩; refine ⟨_, rfl, ?_⟩; have n0_ := zA (Kd.S_mono hr (fun k_ hk_ => hk_.elim Or.inl (fun h_ => Or.inr (Nat.le_trans HW.out h_))) : Kd.S a97 97 w8 w0.heap.size (fun k_ => (P0_ k_ ∨ w.heap.size ≤ k_)) u r2); have n2_ := zA (kept_more HKP.out hk (fun i hi => Or.inl hi)); clear HB HS HKP; have HB := zA hb; have HS := n0_; have HKP := n2_; clear n0_ n2_ hr hb hk hx1))
 go_ret
 exact ⟨by first | rfl | (simp <;> rfl), HS.out, HB.out, HKP.out⟩
end Go.Proofs.Ytnplghcbdaiogaa.RG
end
section
namespace Go.Proofs.Ytnplghcbdaiogaa.RL
open Go.RowKit Go.Proofs.YtnplghcbdaiogaaW.PrintWords Go.Proofs.YtnplghcbdaiogaaW.PrintLast Go.Proofs.YtnplghcbdaiogaaW.PrintMore Go.Proofs.Ytnplghcbdaiogaa.PA Go.Proofs.Ytnplghcbdaiogaa.RF
set_option linter.unusedVariables false
structure Pc where
 K : List ByteArray
 V : List ByteArray
 C : List ByteArray
 g : Int
 O : List Int
 L : List Pc
def zPc : Pc := ⟨[], [], [], 0, [], []⟩
theorem cell6 {w : World} {g t : Nat} {a b c d e f : Value} (h : w.heap[g]? = some (.cells #[a, b, c, d, e, f] t (0, 0))) : w.cell? ⟨g, 0, none⟩ = some a ∧ w.cell? ⟨g, 1, none⟩ = some b ∧ w.cell? ⟨g, 2, none⟩ = some c ∧ w.cell? ⟨g, 3, none⟩ = some d ∧ w.cell? ⟨g, 4, none⟩ = some e ∧ w.cell? ⟨g, 5, none⟩ = some f :=
 ⟨(blk_cell h 0).trans rfl, (blk_cell h 1).trans rfl, (blk_cell h 2).trans rfl, (blk_cell h 3).trans rfl, (blk_cell h 4).trans rfl, (blk_cell h 5).trans rfl⟩
def pcF (d : Kd Pc) : Kd Pc where
 sz := 6
 E := 9 :: 3 :: 47 :: d.E
 K := fun w x cs => ∃ A0 c0 A1 c1 A2 c2 A4 c4 A5 c5, cs = [.slice A0 x.K.length c0, .slice A1 x.V.length c1, .slice A2 x.C.length c2, .int .i64 x.g, .slice A4 x.O.length c4, .slice A5 x.L.length c5] ∧
  (x.K.length ≤ c0 ∧ Kd.string.C w A0 x.K.length x.K) ∧ (x.V.length ≤ c1 ∧ Kd.string.C w A1 x.V.length x.V) ∧ (x.C.length ≤ c2 ∧ Kd.string.C w A2 x.C.length x.C) ∧ (x.O.length ≤ c4 ∧ (Kd.int .i64).C w A4 x.O.length x.O) ∧ (x.L.length ≤ c5 ∧ d.C w A5 x.L.length x.L)
 M := fun w base ok x cs => ∃ (v0 v1 v2 v4 v5 : Value) (p : Nat → Nat), cs = [v0, v1, v2, .int .i64 x.g, v4, v5] ∧
  Kd.string.R 9 w base (fun k => ok k ∧ p k = 0) v0 x.K ∧ Kd.string.R 9 w base (fun k => ok k ∧ p k = 1) v1 x.V ∧ Kd.string.R 9 w base (fun k => ok k ∧ p k = 2) v2 x.C ∧ (Kd.int .i64).R 3 w base (fun k => ok k ∧ p k = 4) v4 x.O ∧ Kd.S d 47 w base (fun k => ok k ∧ p k = 5) v5 x.L
 K_len := by
  rintro w x cs ⟨A0, c0, A1, c1, A2, c2, A4, c4, A5, c5, rfl, _⟩
  rfl
 K_one := by
  rintro w x cs ⟨A0, c0, A1, c1, A2, c2, A4, c4, A5, c5, rfl, _⟩ u hu
  simp only [List.mem_cons, List.not_mem_nil, or_false] at hu
  rcases hu with rfl | rfl | rfl | rfl | rfl | rfl <;> rfl
 K_below := by
  rintro w w1 x cs hb ⟨A0, c0, A1, c1, A2, c2, A4, c4, A5, c5, rfl, h0, h1, h2, h4, h5⟩
  exact ⟨A0, c0, A1, c1, A2, c2, A4, c4, A5, c5, rfl, ⟨h0.1, Kd.C_below h0.2 hb⟩, ⟨h1.1, Kd.C_below h1.2 hb⟩, ⟨h2.1, Kd.C_below h2.2 hb⟩, ⟨h4.1, Kd.C_below h4.2 hb⟩, ⟨h5.1, Kd.C_below h5.2 hb⟩⟩
 K_of_M := by
  rintro w base ok x cs ⟨v0, v1, v2, v4, v5, p, rfl, h0, h1, h2, h4, h5⟩
  obtain ⟨A0, c0, rfl, l0, r0⟩ := Kd.R_reads h0
  obtain ⟨A1, c1, rfl, l1, r1⟩ := Kd.R_reads h1
  obtain ⟨A2, c2, rfl, l2, r2⟩ := Kd.R_reads h2
  obtain ⟨A4, c4, rfl, l4, r4⟩ := Kd.R_reads h4
  obtain ⟨A5, c5, rfl, l5, r5⟩ := Kd.R_reads (Kd.S_R h5)
  exact ⟨A0, c0, A1, c1, A2, c2, A4, c4, A5, c5, rfl, ⟨l0, r0⟩, ⟨l1, r1⟩, ⟨l2, r2⟩, ⟨l4, r4⟩, ⟨l5, r5⟩⟩
 M_mono := by
  rintro w base ok ok' x cs hok ⟨v0, v1, v2, v4, v5, p, rfl, h0, h1, h2, h4, h5⟩
  exact ⟨v0, v1, v2, v4, v5, p, rfl, Kd.R_mono h0 (fun k hk => ⟨hok k hk.1, hk.2⟩), Kd.R_mono h1 (fun k hk => ⟨hok k hk.1, hk.2⟩), Kd.R_mono h2 (fun k hk => ⟨hok k hk.1, hk.2⟩), Kd.R_mono h4 (fun k hk => ⟨hok k hk.1, hk.2⟩), Kd.S_mono h5 (fun k hk => ⟨hok k hk.1, hk.2⟩)⟩
 M_bound := by
  rintro w base ok x cs ⟨v0, v1, v2, v4, v5, p, rfl, h0, h1, h2, h4, h5⟩
  have e1 : ∀ q, q ∈ [9] → q ∈ 9 :: 3 :: 47 :: d.E := fun q hq => by rw [List.mem_singleton.1 hq]; exact List.mem_cons_self
  have e2 : ∀ q, q ∈ [3] → q ∈ 9 :: 3 :: 47 :: d.E := fun q hq => by rw [List.mem_singleton.1 hq]; exact List.mem_cons_of_mem _ List.mem_cons_self
  refine ⟨v0, v1, v2, v4, v5, p, rfl, Kd.R_mono (Kd.R_bound h0) ?_, Kd.R_mono (Kd.R_bound h1) ?_, Kd.R_mono (Kd.R_bound h2) ?_, Kd.R_mono (Kd.R_bound h4) ?_, Kd.S_mono (Kd.S_bound h5) ?_⟩
  ·rintro k ⟨a, b, c, q, hq, hc⟩; exact ⟨⟨a.1, b, c, q, e1 q hq, hc⟩, a.2⟩
  ·rintro k ⟨a, b, c, q, hq, hc⟩; exact ⟨⟨a.1, b, c, q, e1 q hq, hc⟩, a.2⟩
  ·rintro k ⟨a, b, c, q, hq, hc⟩; exact ⟨⟨a.1, b, c, q, e1 q hq, hc⟩, a.2⟩
  ·rintro k ⟨a, b, c, q, hq, hc⟩; exact ⟨⟨a.1, b, c, q, e2 q hq, hc⟩, a.2⟩
  ·rintro k ⟨a, b, c, q, hq, hc⟩; exact ⟨⟨a.1, b, c, q, List.mem_cons_of_mem _ (List.mem_cons_of_mem _ hq), hc⟩, a.2⟩
 M_move := by
  rintro w w1 base ok x cs hm ⟨v0, v1, v2, v4, v5, p, rfl, h0, h1, h2, h4, h5⟩
  exact ⟨v0, v1, v2, v4, v5, p, rfl, Kd.R_step h0 (fun k hk _ => hm k hk.1), Kd.R_step h1 (fun k hk _ => hm k hk.1), Kd.R_step h2 (fun k hk _ => hm k hk.1), Kd.R_step h4 (fun k hk _ => hm k hk.1), Kd.S_step h5 (fun k hk _ => hm k hk.1)⟩
 M_lower := by
  rintro w base base' ok x cs hb ⟨v0, v1, v2, v4, v5, p, rfl, h0, h1, h2, h4, h5⟩
  exact ⟨v0, v1, v2, v4, v5, p, rfl, Kd.R_lower h0 hb, Kd.R_lower h1 hb, Kd.R_lower h2 hb, Kd.R_lower h4 hb, Kd.S_lower h5 hb⟩
def bot : Kd Pc where
 sz := 6
 E := []
 K := fun _ _ _ => False
 M := fun _ _ _ _ _ => False
 K_len := fun h => h.elim
 K_one := fun h => h.elim
 K_below := fun _ h => h
 K_of_M := fun h => h
 M_mono := fun _ h => h
 M_bound := fun h => h
 M_move := fun _ h => h
 M_lower := fun _ h => h
def kp : Nat → Kd Pc
 | 0 => bot
 | n + 1 => pcF (kp n)
theorem kp_sz (n : Nat) : (kp n).sz = 6 := by cases n <;> rfl
def rdP (xs : List Pc) (i : Int) : Pc := xs.getD i.toNat zPc
theorem at_P {n m : Nat} {w : World} {A : Option Addr} {xs : List Pc} (h : (kp (n + 1)).C w A m xs) (i : Int) (h0 : 0 ≤ i) (h1 : i < m) :
  ∃ ad A0 c0 A1 c1 A2 c2 A4 c4 A5 c5, A = some ad ∧ w.cell? (ad.add (i.toNat * 6)) = some (.slice A0 (rdP xs i).K.length c0) ∧ w.cell? ⟨(ad.add (i.toNat * 6)).block, (ad.add (i.toNat * 6)).off + 1, none⟩ = some (.slice A1 (rdP xs i).V.length c1) ∧
   w.cell? ⟨(ad.add (i.toNat * 6)).block, (ad.add (i.toNat * 6)).off + 2, none⟩ = some (.slice A2 (rdP xs i).C.length c2) ∧ w.cell? ⟨(ad.add (i.toNat * 6)).block, (ad.add (i.toNat * 6)).off + 3, none⟩ = some (.int .i64 (rdP xs i).g) ∧
   w.cell? ⟨(ad.add (i.toNat * 6)).block, (ad.add (i.toNat * 6)).off + 4, none⟩ = some (.slice A4 (rdP xs i).O.length c4) ∧ w.cell? ⟨(ad.add (i.toNat * 6)).block, (ad.add (i.toNat * 6)).off + 5, none⟩ = some (.slice A5 (rdP xs i).L.length c5) ∧
   (kp (n + 1)).K w (rdP xs i) [.slice A0 (rdP xs i).K.length c0, .slice A1 (rdP xs i).V.length c1, .slice A2 (rdP xs i).C.length c2, .int .i64 (rdP xs i).g, .slice A4 (rdP xs i).O.length c4, .slice A5 (rdP xs i).L.length c5] := by
 obtain ⟨ad, c, e, _, hK, hc⟩ := Kd.C_get h zPc i h0 h1
 obtain ⟨A0, c0, A1, c1, A2, c2, A4, c4, A5, c5, rfl, hr⟩ := hK
 have hs : (kp (n + 1)).sz = 6 := rfl
 rw [hs] at hc
 exact ⟨ad, A0, c0, A1, c1, A2, c2, A4, c4, A5, c5, e, hc 0 _ rfl, by rw [← add_field _ _ 1 (by omega)]; exact hc 1 _ rfl, by rw [← add_field _ _ 2 (by omega)]; exact hc 2 _ rfl, by rw [← add_field _ _ 3 (by omega)]; exact hc 3 _ rfl, by rw [← add_field _ _ 4 (by omega)]; exact hc 4 _ rfl, by rw [← add_field _ _ 5 (by omega)]; exact hc 5 _ rfl, A0, c0, A1, c1, A2, c2, A4, c4, A5, c5, rfl, hr⟩
theorem pc_mkM {n : Nat} {w : World} {base : Nat} {ok ok5 : Nat → Prop} {x : Pc} {v0 v1 v2 v4 v5 : Value} (g0 : Kd.string.R 9 w base ok v0 x.K) (g1 : Kd.string.R 9 w base ok v1 x.V) (g2 : Kd.string.R 9 w base ok v2 x.C) (g4 : (Kd.int .i64).R 3 w base ok v4 x.O) (g5 : Kd.S (kp n) 47 w base ok5 v5 x.L)
  (a : ap3 v0 v1 v2) (h5 : ∀ k, ok5 k → ok k ∧ some k ≠ v0.ownBlock ∧ some k ≠ v1.ownBlock ∧ some k ≠ v2.ownBlock ∧ some k ≠ v4.ownBlock) : (kp (n + 1)).M w base ok x [v0, v1, v2, .int .i64 x.g, v4, v5] := by
 have b0 := ne_types g0 g4
 have b1 := ne_types g1 g4
 have b2 := ne_types g2 g4
 refine ⟨v0, v1, v2, v4, v5, fun k => if some k = v0.ownBlock then 0 else if some k = v1.ownBlock then 1 else if some k = v2.ownBlock then 2 else if some k = v4.ownBlock then 4 else 5, rfl, Kd.R_mono (Kd.R_tight rfl g0) ?_, Kd.R_mono (Kd.R_tight rfl g1) ?_, Kd.R_mono (Kd.R_tight rfl g2) ?_, Kd.R_mono (Kd.R_tight rfl g4) ?_, Kd.S_mono g5 ?_⟩
 ·intro k hk
  exact ⟨g0.1 k hk.symm, if_pos hk⟩
 ·intro k hk
  refine ⟨g1.1 k hk.symm, ?_⟩
  dsimp only
  rw [if_neg (fun e => (a.1 k e.symm).1 hk.symm), if_pos hk]
 ·intro k hk
  refine ⟨g2.1 k hk.symm, ?_⟩
  dsimp only
  rw [if_neg (fun e => (a.1 k e.symm).2 hk.symm), if_neg (fun e => a.2 k e.symm hk.symm), if_pos hk]
 ·intro k hk
  refine ⟨g4.1 k hk.symm, ?_⟩
  dsimp only
  rw [if_neg (fun e => b0 k e.symm hk.symm), if_neg (fun e => b1 k e.symm hk.symm), if_neg (fun e => b2 k e.symm hk.symm), if_pos hk]
 ·intro k hk
  obtain ⟨q, q0, q1, q2, q4⟩ := h5 k hk
  refine ⟨q, ?_⟩
  dsimp only
  rw [if_neg q0, if_neg q1, if_neg q2, if_neg q4]
end Go.Proofs.Ytnplghcbdaiogaa.RL
end
section
namespace Go.Proofs.Ytnplghcbdaiogaa.PB
open Go.RowKit Go.Proofs.YtnplghcbdaiogaaW.PrintWords Go.Proofs.YtnplghcbdaiogaaW.PrintLast Go.Proofs.YtnplghcbdaiogaaW.PrintMore
set_option linter.unusedVariables false
theorem ev_pos {α : Type} {c : Prop} [Decidable c] {f g : Nat → Option α} {r : α} (hc : c) (h : Ev f r) : Ev (fun k => if c then f k else g k) r := by
 simp only [if_pos hc]; exact h
theorem ev_neg {α : Type} {c : Prop} [Decidable c] {f g : Nat → Option α} {r : α} (hc : ¬ c) (h : Ev g r) : Ev (fun k => if c then f k else g k) r := by
 simp only [if_neg hc]; exact h
theorem ev_bind {α β : Type} {g : Nat → Option α} {f : Nat → α → Option β} {a : α} {r : β} (h : Ev g a) (k : Ev (fun n => f n a) r) : Ev (fun n => (g n).bind (f n)) r := Ev.bind h k
theorem ev_const {α β : Type} {o : Option α} {f : Nat → α → Option β} {a : α} {r : β} (h : o = some a) (k : Ev (fun n => f n a) r) : Ev (fun n => o.bind (f n)) r := by
 subst h; exact k
theorem ev_eq {α : Type} {f : Nat → Option α} {r r' : α} (h : Ev f r) (e : r = r') : Ev f r' := e ▸ h
theorem w64 {x : Int} (h0 : -9223372036854775808 ≤ x) (h1 : x ≤ 9223372036854775807) : wrap64 x = x := by
 unfold wrap64; omega
theorem size_toList (s : ByteArray) : s.toList.length = s.size := by rw [ByteArray.toList_eq]; exact data_length s
theorem bt_get (s : ByteArray) (i : Nat) (h : i < s.size) : bt s (i : Int) = ((s.toList.getD i 0).toNat : Int) := by
 rw [ByteArray.toList_eq]
 unfold bt
 rw [dif_pos (by simpa using h)]
 have h' : i < s.data.toList.length := by rw [data_length]; exact h
 simp [List.getD_eq_getElem?_getD, List.getElem?_eq_getElem h']
 rfl
end Go.Proofs.Ytnplghcbdaiogaa.PB
end
section
namespace Go.Proofs.Ytnplghcbdaiogaa.PD
open Go.RowKit Go.Proofs.YtnplghcbdaiogaaW.PrintWords Go.Proofs.YtnplghcbdaiogaaW.PrintLast Go.Proofs.YtnplghcbdaiogaaW.PrintMore Go.Proofs.Ytnplghcbdaiogaa.PB Go.Proofs.Ytnplghcbdaiogaa.PA
set_option linter.unusedVariables false
def dstep (p : Int × Int) (c : UInt8) : Int × Int := ((p.1 + (c.toNat : Int)) % 65521, (p.2 + (p.1 + (c.toNat : Int)) % 65521) % 65521)
def dfold (p : Int × Int) (l : List UInt8) : Int × Int := l.foldl dstep p
def InP (p : Int × Int) : Prop := 0 ≤ p.1 ∧ p.1 < 65521 ∧ 0 ≤ p.2 ∧ p.2 < 65521
theorem dstep_in {p : Int × Int} {c : UInt8} : InP (dstep p c) := by
 unfold InP dstep; refine ⟨?_, ?_, ?_, ?_⟩ <;> simp only <;> omega
theorem dfold_in {p : Int × Int} (h : InP p) (l : List UInt8) : InP (dfold p l) := by
 induction l generalizing p with
 | nil => exact h
 | cons c l ih => exact ih dstep_in
def four (p : Int × Int) : ByteArray := strOfNums [p.2 / 256 % 256, p.2 % 256, p.1 / 256 % 256, p.1 % 256]
def dig (kind : Int) (s : ByteArray) : ByteArray := four (dfold (kind + 1, kind + 1) s.toList)
theorem four_size (p : Int × Int) : (four p).size = 4 := by unfold four; rw [strOfNums_size]; rfl
theorem dig_size (kind : Int) (s : ByteArray) : (dig kind s).size = 4 := four_size _
theorem drop_at (l : List UInt8) (i : Nat) (h : i < l.length) : l.drop i = l.getD i 0 :: l.drop (i + 1) := by
 rw [List.drop_eq_getElem_cons h]; simp [List.getD_eq_getElem?_getD, List.getElem?_eq_getElem h]
theorem step_arith {A B : Int} {c : Nat} (hA : 0 ≤ A ∧ A < 65521 ∧ 0 ≤ B ∧ B < 65521) (hc : c < 256) :
  Int.tmod (wrap64 (A + wrap64 (c : Int))) 65521 = (A + (c : Int)) % 65521 ∧ Int.tmod (wrap64 (B + (A + (c : Int)) % 65521)) 65521 = (B + (A + (c : Int)) % 65521) % 65521 := by
 have h1 : wrap64 (c : Int) = c := w64 (by omega) (by omega)
 have h2 : wrap64 (A + c) = A + c := w64 (by omega) (by omega)
 have h3 : wrap64 (B + (A + (c : Int)) % 65521) = B + (A + (c : Int)) % 65521 := w64 (by omega) (by omega)
 rw [h1, h2, h3, Int.tmod_eq_emod_of_nonneg (by omega), Int.tmod_eq_emod_of_nonneg (by omega)]
 exact ⟨rfl, rfl⟩
theorem feed_spec (s : ByteArray) (hs : s.size ≤ 1000000000000) (L : Int) (hL : 0 ≤ L ∧ L ≤ 1000000000000) : ∀ (d i : Nat) (A B : Int), i + d = s.size → InP (A, B) →
  Ev (fun k => spec_l1Feed.l0 k s (i : Int) A B L) ((dfold (A, B) (s.toList.drop i)).1, (dfold (A, B) (s.toList.drop i)).2, L + s.size) := by
 intro d
 induction d with
 | zero =>
  intro i A B hi hp
  refine Ev.step (f := fun _ => some (A, B, wrap64 (L + (s.size : Int)))) (fun k => ?_) ?_
  ·simp only [spec_l1Feed.l0]; rw [if_neg (by omega)]
  ·rw [List.drop_eq_nil_of_le (by rw [size_toList]; omega)]
   rw [w64 (by omega) (by omega)]
   exact Ev.now _
 | succ d ih =>
  intro i A B hi hp
  have hlt : i < s.size := by omega
  have hb := bt_get s i hlt
  have hc : (s.toList.getD i 0).toNat < 256 := UInt8.toNat_lt _
  have ha := step_arith (A := A) (B := B) hp hc
  refine Ev.step (f := fun k => spec_l1Feed.l0 k s ((i + 1 : Nat) : Int) (dstep (A, B) (s.toList.getD i 0)).1 (dstep (A, B) (s.toList.getD i 0)).2 L) (fun k => ?_) ?_
  ·simp only [spec_l1Feed.l0]; rw [if_pos (by omega), if_pos (by omega), hb, ha.1, ha.2, w64 (x := (i : Int) + 1) (by omega) (by omega)]
   simp only [dstep]
   congr 1
  ·rw [drop_at _ _ (by rw [size_toList]; exact hlt)]
   exact ih (i + 1) _ _ (by omega) dstep_in
theorem feed_impl (s : ByteArray) (hs : s.size ≤ 1000000000000) (L : Int) (hL : 0 ≤ L ∧ L ≤ 1000000000000) : ∀ (d i : Nat) (A B : Int), i + d = s.size → InP (A, B) →
  Ev (fun k => impl_Mix_feed.l0 k s (s.size : Int) (i : Int) A B L) ((dfold (A, B) (s.toList.drop i)).1, (dfold (A, B) (s.toList.drop i)).2, L + s.size) := by
 intro d
 induction d with
 | zero =>
  intro i A B hi hp
  refine Ev.step (f := fun _ => some (A, B, wrap64 (L + (s.size : Int)))) (fun k => ?_) ?_
  ·simp only [impl_Mix_feed.l0]; rw [if_neg (by omega)]
  ·rw [List.drop_eq_nil_of_le (by rw [size_toList]; omega)]
   rw [w64 (by omega) (by omega)]
   exact Ev.now _
 | succ d ih =>
  intro i A B hi hp
  have hlt : i < s.size := by omega
  have hb := bt_get s i hlt
  have hc : (s.toList.getD i 0).toNat < 256 := UInt8.toNat_lt _
  have ha := step_arith (A := A) (B := B) hp hc
  refine Ev.step (f := fun k => impl_Mix_feed.l0 k s (s.size : Int) ((i + 1 : Nat) : Int) (dstep (A, B) (s.toList.getD i 0)).1 (dstep (A, B) (s.toList.getD i 0)).2 L) (fun k => ?_) ?_
  ·simp only [impl_Mix_feed.l0]; rw [if_pos (by omega), if_pos (by omega), if_pos (by omega), hb, ha.1, ha.2, w64 (x := (i : Int) + 1) (by omega) (by omega)]
   simp only [dstep]
   congr 1
  ·rw [drop_at _ _ (by rw [size_toList]; exact hlt)]
   exact ih (i + 1) _ _ (by omega) dstep_in
def Kd_ (c : Int) : Prop := 97 ≤ c ∧ c ≤ 122
theorem digS (kind : Int) (hk : Kd_ kind) (s : ByteArray) (hs : s.size ≤ 1000000000000) : Ev (fun k => spec_l1Digest.f k kind s) (dig kind s) := by
 obtain ⟨h0, h1⟩ := hk
 have e1 : spec_NewMix.f kind = some (kind + 1, kind + 1, 0, true) := by
  unfold spec_NewMix.f spec_l1Kind.f
  rw [if_pos (by omega)]
  simp only [Option.bind_some, decide_eq_true h1, if_true]
  rw [w64 (x := kind) (by omega) (by omega), w64 (by omega) (by omega), Int.add_comm]
 have hp : InP (kind + 1, kind + 1) := by unfold InP; refine ⟨?_, ?_, ?_, ?_⟩ <;> simp only <;> omega
 obtain ⟨K, h⟩ := feed_spec s hs 0 (by omega) s.size 0 (kind + 1) (kind + 1) (by omega) hp
 refine ⟨K, fun k hk => ?_⟩
 have h' := h k hk
 dsimp only at h'
 rw [show ((0 : Nat) : Int) = 0 from rfl] at h'
 unfold spec_l1Digest.f spec_l1Feed.f spec_l1End.f
 simp only [e1, Option.bind_some]
 rw [h']
 simp only [Option.bind_some, List.drop_zero]
 rfl
theorem digI (kind : Int) (hk : Kd_ kind) (s : ByteArray) (hs : s.size ≤ 1000000000000) : Ev (fun k => impl_digest.f k kind s) (dig kind s) := by
 obtain ⟨h0, h1⟩ := hk
 have e1 : impl_newMix.f kind = some (kind + 1, kind + 1, 0) := by
  unfold impl_newMix.f
  rw [w64 (x := kind) (by omega) (by omega), w64 (by omega) (by omega)]
 have hp : InP (kind + 1, kind + 1) := by unfold InP; refine ⟨?_, ?_, ?_, ?_⟩ <;> simp only <;> omega
 obtain ⟨K, h⟩ := feed_impl s hs 0 (by omega) s.size 0 (kind + 1) (kind + 1) (by omega) hp
 refine ⟨K, fun k hk => ?_⟩
 have h' := h k hk
 dsimp only at h'
 rw [show ((0 : Nat) : Int) = 0 from rfl] at h'
 have hq := dfold_in hp s.toList
 unfold impl_digest.f impl_Mix_feed.f impl_Mix_end.f
 simp only [e1, Option.bind_some]
 rw [h']
 simp only [Option.bind_some, List.drop_zero]
 unfold dig four
 generalize dfold (kind + 1, kind + 1) s.toList = p at hq ⊢
 obtain ⟨q0, q1, q2, q3⟩ := hq
 rw [Int.tdiv_eq_ediv_of_nonneg q2, Int.tdiv_eq_ediv_of_nonneg q0, Int.tmod_eq_emod_of_nonneg q2, Int.tmod_eq_emod_of_nonneg q0, w64 (x := p.2 / 256) (by omega) (by omega), w64 (x := p.1 / 256) (by omega) (by omega)]
 rw [Int.emod_emod_of_dvd p.2 (Int.dvd_refl _), Int.emod_emod_of_dvd p.1 (Int.dvd_refl _)]
def one (n : Int) : ByteArray := strOfNums [n % 256]
theorem one_size (n : Int) : (one n).size = 1 := by unfold one; rw [strOfNums_size]; rfl
end Go.Proofs.Ytnplghcbdaiogaa.PD
end
section
namespace Go.Proofs.Ytnplghcbdaiogaa.PK
open Go.RowKit Go.Proofs.YtnplghcbdaiogaaW.PrintWords Go.Proofs.YtnplghcbdaiogaaW.PrintLast Go.Proofs.YtnplghcbdaiogaaW.PrintMore Go.Proofs.Ytnplghcbdaiogaa.PB Go.Proofs.Ytnplghcbdaiogaa.PD Go.Proofs.Ytnplghcbdaiogaa.PA
set_option linter.unusedVariables false
theorem app_size (a b : ByteArray) : (a ++ b).size = a.size + b.size := ByteArray.size_append
end Go.Proofs.Ytnplghcbdaiogaa.PK
end
section
namespace Go.Proofs.Ytnplghcbdaiogaa.PL
open Go.RowKit Go.Proofs.YtnplghcbdaiogaaW.PrintWords Go.Proofs.YtnplghcbdaiogaaW.PrintLast Go.Proofs.YtnplghcbdaiogaaW.PrintMore Go.Proofs.Ytnplghcbdaiogaa.PB Go.Proofs.Ytnplghcbdaiogaa.PA
set_option linter.unusedVariables false
theorem rdOf_at {α : Type} (d : α) (l : List α) (i : Nat) (h : i < l.length) : rdOf d l (i : Int) = l[i] := by
 simp [rdOf, List.getD_eq_getElem?_getD, List.getElem?_eq_getElem h]
def filled {α β : Type} (f : α → β) (z : β) (l : List α) (i : Nat) : List β := (l.take i).map f ++ List.replicate (l.length - i) z
theorem filled_length {α β : Type} (f : α → β) (z : β) (l : List α) (i : Nat) (h : i ≤ l.length) : (filled f z l i).length = l.length := by
 simp [filled, Nat.min_eq_left h]; omega
theorem filled_zero {α β : Type} (f : α → β) (z : β) (l : List α) : filled f z l 0 = List.replicate l.length z := by simp [filled]
theorem filled_all {α β : Type} (f : α → β) (z : β) (l : List α) : filled f z l l.length = l.map f := by simp [filled]
theorem filled_set {α β : Type} (f : α → β) (z : β) (l : List α) (i : Nat) (h : i < l.length) : (filled f z l i).set i (f l[i]) = filled f z l (i + 1) := by
 unfold filled
 rw [List.take_succ_eq_append_getElem h, List.map_append, List.map_cons, List.map_nil]
 have hl : ((l.take i).map f).length = i := by simp [Nat.min_eq_left (Nat.le_of_lt h)]
 obtain ⟨m, hm⟩ : ∃ m, l.length - i = m + 1 := ⟨l.length - i - 1, by omega⟩
 rw [hm, List.replicate_succ, List.set_append_right _ _ (by omega), hl, Nat.sub_self, List.set_cons_zero, show l.length - (i + 1) = m by omega]
 simp
theorem toS (l : List ByteArray) (hl : l.length ≤ 2000000) : Ev (fun k => laws_toStringS.f k l) l := by
 have key : ∀ (d i : Nat), i + d = l.length → Ev (fun k => laws_toStringS.l0 k l (filled (fun x => x) ⟨#[]⟩ l i) (i : Int)) l := by
  intro d
  induction d with
  | zero =>
   intro i hi
   have hi' : i = l.length := by omega
   subst hi'
   refine Ev.step (f := fun _ => some l) (fun k => ?_) (Ev.now _)
   simp only [laws_toStringS.l0]
   rw [if_neg (by omega), filled_all]
   simp
  | succ d ih =>
   intro i hi
   have hlt : i < l.length := by omega
   refine Ev.step (f := fun k => laws_toStringS.l0 k l (filled (fun x => x) ⟨#[]⟩ l (i + 1)) ((i + 1 : Nat) : Int)) (fun k => ?_) (ih (i + 1) (by omega))
   simp only [laws_toStringS.l0]
   rw [if_pos (by omega), if_pos (by omega), if_pos (by rw [filled_length _ _ _ _ (by omega)]; omega), rdOf_at _ _ _ hlt, w64 (x := (i : Int) + 1) (by omega) (by omega)]
   rw [show ((i : Int)).toNat = i from by omega, filled_set (fun x => x) _ l i hlt]
   rfl
 refine Ev.congr (f := fun k => laws_toStringS.l0 k l (filled (fun x => x) ⟨#[]⟩ l 0) ((0 : Nat) : Int)) (fun k => ?_) (key l.length 0 (by omega))
 simp only [laws_toStringS.f]
 rw [if_pos (by omega), if_pos (by omega), filled_zero]
 rfl
theorem eqS_yes (l : List ByteArray) (hl : l.length ≤ 2000000) : Ev (fun k => laws_eqStringS.f k l l) true := by
 have key : ∀ (d i : Nat), i + d = l.length → Ev (fun k => laws_eqStringS.l0 k l l (i : Int)) true := by
  intro d
  induction d with
  | zero =>
   intro i hi
   refine Ev.step (f := fun _ => some true) (fun k => ?_) (Ev.now _)
   simp only [laws_eqStringS.l0]
   rw [if_neg (by omega)]
  | succ d ih =>
   intro i hi
   refine Ev.step (f := fun k => laws_eqStringS.l0 k l l ((i + 1 : Nat) : Int)) (fun k => ?_) (ih (i + 1) (by omega))
   simp only [laws_eqStringS.l0]
   rw [if_pos (by omega), if_pos (by omega), if_pos (by omega), if_pos trivial, w64 (x := (i : Int) + 1) (by omega) (by omega)]
   rfl
 refine Ev.congr (f := fun k => laws_eqStringS.l0 k l l ((0 : Nat) : Int)) (fun k => ?_) (key l.length 0 (by omega))
 simp only [laws_eqStringS.f]
 rw [if_pos trivial]
 rfl
def szL : List ByteArray → Nat
 | [] => 0
 | s :: l => s.size + szL l
def total (l : List ByteArray) : Nat := l.length + szL l
def Fit (l : List ByteArray) : Prop := l.length ≤ 9223372036854775807 ∧ ∀ s ∈ l, s.size ≤ 9223372036854775807
theorem szS_loop (l : List ByteArray) (hf : Fit l) : ∀ (d i : Nat) (R : Int), i + d = l.length → 0 ≤ R → R ≤ 1000000000000 → l.length ≤ 1000000000000 →
  Ev (fun k => laws_szStringS.l0 k l R (i : Int)) (if (szL (l.drop i) : Int) ≤ R then R - szL (l.drop i) else -1) := by
 intro d
 induction d with
 | zero =>
  intro i R hi h0 h1 h2
  rw [List.drop_eq_nil_of_le (by omega)]
  refine Ev.step (f := fun _ => some R) (fun k => ?_) ?_
  ·simp only [laws_szStringS.l0]
   rw [if_neg (by omega)]
  ·rw [show szL [] = 0 from rfl, if_pos (by omega)]
   exact ev_eq (Ev.now R) (by omega)
 | succ d ih =>
  intro i R hi h0 h1 h2
  have hlt : i < l.length := by omega
  have hs := hf.2 _ (List.getElem_mem hlt)
  rw [List.drop_eq_getElem_cons hlt, show szL (l[i] :: l.drop (i + 1)) = l[i].size + szL (l.drop (i + 1)) from rfl]
  by_cases hc : (l[i].size : Int) ≤ R
  ·refine Ev.step (f := fun k => laws_szStringS.l0 k l (R - l[i].size) ((i + 1 : Nat) : Int)) (fun k => ?_) ?_
   ·simp only [laws_szStringS.l0]
    rw [if_pos (by omega), if_pos (by omega), rdOf_at _ _ _ hlt, w64 (x := R - (l[i].size : Int)) (by omega) (by omega), if_neg (by omega), w64 (x := (i : Int) + 1) (by omega) (by omega)]
    rfl
   ·refine ev_eq (ih (i + 1) (R - l[i].size) (by omega) (by omega) (by omega) h2) ?_
    by_cases hd : (szL (l.drop (i + 1)) : Int) ≤ R - l[i].size
    ·rw [if_pos hd, if_pos (by omega)]; omega
    ·rw [if_neg hd, if_neg (by omega)]
  ·refine Ev.step (f := fun _ => some (-1)) (fun k => ?_) ?_
   ·simp only [laws_szStringS.l0]
    rw [if_pos (by omega), if_pos (by omega), rdOf_at _ _ _ hlt, w64 (x := R - (l[i].size : Int)) (by omega) (by omega), if_pos (by omega)]
   ·rw [if_neg (by omega)]
    exact Ev.now _
theorem szS (l : List ByteArray) (hf : Fit l) (R : Int) (h0 : 0 ≤ R) (h1 : R ≤ 1000000000) : Ev (fun k => laws_szStringS.f k l R) (if (total l : Int) ≤ R then R - total l else -1) := by
 have hl := hf.1
 by_cases hc : (l.length : Int) ≤ R
 ·refine Ev.congr (f := fun k => laws_szStringS.l0 k l (R - l.length) ((0 : Nat) : Int)) (fun k => ?_) ?_
  ·simp only [laws_szStringS.f]
   rw [w64 (x := R - (l.length : Int)) (by omega) (by omega), if_neg (by omega)]
   rfl
  ·refine ev_eq (szS_loop l hf l.length 0 (R - l.length) (by omega) (by omega) (by omega) (by omega)) ?_
   rw [List.drop_zero]
   unfold total
   by_cases hd : (szL l : Int) ≤ R - l.length
   ·rw [if_pos hd, if_pos (by omega)]; omega
   ·rw [if_neg hd, if_neg (by omega)]
 ·refine Ev.congr (f := fun _ => some (-1)) (fun k => ?_) ?_
  ·simp only [laws_szStringS.f]
   rw [w64 (x := R - (l.length : Int)) (by omega) (by omega), if_pos (by omega)]
  ·unfold total
   rw [if_neg (by omega)]
   exact Ev.now _
theorem mark_go : ∀ (m n : Nat) (out : ByteArray), n < 10 ^ m → out.size + m ≤ 1000 → n ≤ 1000000000000000000 → ∃ t, Ev (fun k => laws_markText.l0 k (n : Int) out) t := by
 intro m
 induction m with
 | zero =>
  intro n out hn ho _
  have : n = 0 := by simpa using hn
  subst this
  refine ⟨(⟨#[109]⟩ : ByteArray) ++ out, Ev.step (f := fun _ => some ((⟨#[109]⟩ : ByteArray) ++ out)) (fun k => ?_) (Ev.now _)⟩
  simp only [laws_markText.l0]
  rw [if_neg (by omega), if_pos (by omega)]
 | succ m ih =>
  intro n out hn ho hb
  by_cases h0 : n = 0
  ·subst h0
   refine ⟨(⟨#[109]⟩ : ByteArray) ++ out, Ev.step (f := fun _ => some ((⟨#[109]⟩ : ByteArray) ++ out)) (fun k => ?_) (Ev.now _)⟩
   simp only [laws_markText.l0]
   rw [if_neg (by omega), if_pos (by omega)]
  ·have hs : ∀ x : Int, (strOfNums [x]).size = 1 := fun x => by rw [strOfNums_size]; rfl
   obtain ⟨t, ht⟩ := ih (n / 10) (strOfNums [(wrap64 (48 + (Int.tmod (n : Int) 10))) % 256] ++ out) (by rw [Nat.pow_succ] at hn; omega) (by rw [ByteArray.size_append, hs]; omega) (by omega)
   refine ⟨t, Ev.step (f := fun k => laws_markText.l0 k ((n / 10 : Nat) : Int) (strOfNums [(wrap64 (48 + (Int.tmod (n : Int) 10))) % 256] ++ out)) (fun k => ?_) ht⟩
   simp only [laws_markText.l0]
   rw [if_pos (by omega)]
   simp only [Option.bind_some]
   rw [if_pos (by rw [hs]; omega), Int.tdiv_eq_ediv_of_nonneg (by omega), w64 (x := (n : Int) / 10) (by omega) (by omega)]
   rfl
theorem mark_any (n : Nat) (hn : n ≤ 1000000000000000000) : ∃ t, Ev (fun k => laws_markText.f k (n : Int)) t := by
 by_cases h0 : n = 0
 ·subst h0
  exact ⟨_, Ev.congr (f := fun _ => some (⟨#[109, 48]⟩ : ByteArray)) (fun k => by simp [laws_markText.f]) (Ev.now _)⟩
 ·obtain ⟨t, ht⟩ := mark_go 19 n ⟨#[]⟩ (by omega) (by simp [ByteArray.size]) hn
  exact ⟨t, Ev.congr (fun k => by simp only [laws_markText.f]; rw [if_neg (by omega)]) ht⟩
noncomputable def mk_ (n : Nat) : ByteArray := if h : n ≤ 1000000000000000000 then Classical.choose (mark_any n h) else ⟨#[]⟩
theorem markT (n : Nat) (hn : n ≤ 1000000000000000000) : Ev (fun k => laws_markText.f k (n : Int)) (mk_ n) := by
 unfold mk_
 rw [dif_pos hn]
 exact Classical.choose_spec (mark_any n hn)
noncomputable def marks (a n : Nat) : List ByteArray := (List.range n).map fun i => mk_ (a + i)
theorem marks_length (a n : Nat) : (marks a n).length = n := by simp [marks]
theorem marks_at (a n i : Nat) (h : i < n) : (marks a n)[i]'(by rw [marks_length]; exact h) = mk_ (a + i) := by simp [marks]
theorem markS_loop (l : List ByteArray) (a : Nat) (hl : l.length ≤ 1000000000) (ha : a ≤ 1000000000) : ∀ (d i : Nat), i + d = l.length → Ev (fun k => laws_markStringS.l0 k ((marks a i) ++ l.drop i) ((a + i : Nat) : Int) (i : Int)) (((a + l.length : Nat) : Int), marks a l.length) := by
 intro d
 induction d with
 | zero =>
  intro i hi
  have hi' : i = l.length := by omega
  subst hi'
  refine Ev.step (f := fun _ => some (((a + l.length : Nat) : Int), marks a l.length)) (fun k => ?_) (Ev.now _)
  simp only [laws_markStringS.l0]
  rw [if_neg (by simp [marks_length]), List.drop_length, List.append_nil]
 | succ d ih =>
  intro i hi
  have hlt : i < l.length := by omega
  refine Ev.step (f := fun k => (laws_markText.f k ((a + i : Nat) : Int)).bind fun t => laws_markStringS.l0 k (((marks a i) ++ l.drop i).set i t) ((a + (i + 1) : Nat) : Int) ((i + 1 : Nat) : Int)) (fun k => ?_) ?_
  ·simp only [laws_markStringS.l0]
   rw [if_pos (by simp only [List.length_append, marks_length, List.length_drop]; omega)]
   congr 1
   funext t
   rw [if_pos (by omega), w64 (x := ((a + i : Nat) : Int) + 1) (by omega) (by omega), w64 (x := (i : Int) + 1) (by omega) (by omega)]
   rfl
  ·refine ev_bind (markT (a + i) (by omega)) ?_
   have hset : ((marks a i) ++ l.drop i).set i (mk_ (a + i)) = marks a (i + 1) ++ l.drop (i + 1) := by
    rw [List.set_append_right _ _ (by rw [marks_length]; omega), marks_length, Nat.sub_self, List.drop_eq_getElem_cons hlt, List.set_cons_zero]
    simp [marks, List.range_succ]
   rw [hset]
   exact ih (i + 1) (by omega)
theorem markS (l : List ByteArray) (a : Nat) (hl : l.length ≤ 1000000000) (ha : a ≤ 1000000000) : Ev (fun k => laws_markStringS.f k l (a : Int)) (((a + l.length : Nat) : Int), marks a l.length) := by
 have := markS_loop l a hl ha l.length 0 (by omega)
 simp only [List.drop_zero, marks, List.range_zero, List.map_nil, List.nil_append, Nat.add_zero] at this
 exact this
theorem heldS (n a : Nat) (hl : n ≤ 1000000000) (ha : a ≤ 1000000000) : Ev (fun k => laws_heldStringS.f k (marks a n) (a : Int)) ((a + n : Nat) : Int) := by
 have key : ∀ (d i : Nat), i + d = n → Ev (fun k => laws_heldStringS.l0 k (marks a n) ((a + i : Nat) : Int) (i : Int)) ((a + n : Nat) : Int) := by
  intro d
  induction d with
  | zero =>
   intro i hi
   refine Ev.step (f := fun _ => some ((a + n : Nat) : Int)) (fun k => ?_) (Ev.now _)
   simp only [laws_heldStringS.l0]
   rw [if_neg (by rw [marks_length]; omega), show i = n by omega]
  | succ d ih =>
   intro i hi
   have hlt : i < (marks a n).length := by rw [marks_length]; omega
   refine Ev.step (f := fun k => (laws_markText.f k ((a + i : Nat) : Int)).bind fun t => if (mk_ (a + i)).toList = t.toList then laws_heldStringS.l0 k (marks a n) ((a + (i + 1) : Nat) : Int) ((i + 1 : Nat) : Int) else some (-1)) (fun k => ?_) ?_
   ·simp only [laws_heldStringS.l0]
    rw [if_pos (by rw [marks_length]; omega), if_pos (by omega), rdOf_at _ _ _ hlt, marks_at _ _ _ (by omega), w64 (x := ((a + i : Nat) : Int) + 1) (by omega) (by omega), w64 (x := (i : Int) + 1) (by omega) (by omega)]
    rfl
   ·exact ev_bind (markT (a + i) (by omega)) (ev_pos rfl (ih (i + 1) (by omega)))
 exact key n 0 (by omega)
end Go.Proofs.Ytnplghcbdaiogaa.PL
end
section
namespace Go.Proofs.Ytnplghcbdaiogaa.PS
open Go.RowKit Go.Proofs.YtnplghcbdaiogaaW.PrintWords Go.Proofs.YtnplghcbdaiogaaW.PrintLast Go.Proofs.YtnplghcbdaiogaaW.PrintMore Go.Proofs.Ytnplghcbdaiogaa.PB Go.Proofs.Ytnplghcbdaiogaa.PD Go.Proofs.Ytnplghcbdaiogaa.PK Go.Proofs.Ytnplghcbdaiogaa.PL Go.Proofs.Ytnplghcbdaiogaa.PA
set_option linter.unusedVariables false
theorem kk : Kd_ 107 := ⟨by decide, by decide⟩
end Go.Proofs.Ytnplghcbdaiogaa.PS
end
section
namespace Go.Proofs.Ytnplghcbdaiogaa.PT
open Go.RowKit Go.Proofs.YtnplghcbdaiogaaW.PrintWords Go.Proofs.YtnplghcbdaiogaaW.PrintLast Go.Proofs.YtnplghcbdaiogaaW.PrintMore Go.Proofs.Ytnplghcbdaiogaa.PB Go.Proofs.Ytnplghcbdaiogaa.PD Go.Proofs.Ytnplghcbdaiogaa.PK Go.Proofs.Ytnplghcbdaiogaa.PL Go.Proofs.Ytnplghcbdaiogaa.PS Go.Proofs.Ytnplghcbdaiogaa.PA
set_option linter.unusedVariables false
theorem inI (a b c : Int) : impl_within.f a b c = some (decide (b ≤ a ∧ a ≤ c)) := by
 unfold impl_within.f
 by_cases h : a ≥ b
 ·rw [if_pos h]; simp [show b ≤ a from h]
 ·rw [if_neg h]; simp [show ¬ b ≤ a from h]
end Go.Proofs.Ytnplghcbdaiogaa.PT
end
section
namespace Go.Proofs.Ytnplghcbdaiogaa.PU
open Go.RowKit Go.Proofs.YtnplghcbdaiogaaW.PrintWords Go.Proofs.YtnplghcbdaiogaaW.PrintLast Go.Proofs.YtnplghcbdaiogaaW.PrintMore Go.Proofs.Ytnplghcbdaiogaa.PB Go.Proofs.Ytnplghcbdaiogaa.PD Go.Proofs.Ytnplghcbdaiogaa.PK Go.Proofs.Ytnplghcbdaiogaa.PL Go.Proofs.Ytnplghcbdaiogaa.PS Go.Proofs.Ytnplghcbdaiogaa.PT Go.Proofs.Ytnplghcbdaiogaa.PA
set_option linter.unusedVariables false
theorem idx_any {α : Type} (l : List α) (rf : List α → Int → α) (hrf : ∀ i (h : i < l.length), rf l (i : Int) = l[i]) (L0 : Nat → List α → Int → Int → Option Int) (cl : Nat → α → Option Bool) (p : α → Bool)
  (hstep : ∀ k n i, L0 (k + 1) l n i = if i < n then (if 0 ≤ i then (if i < (l.length : Int) then ((cl k (rf l i)).bind fun t => if t = true then some i else L0 k l n (wrap64 (i + 1))) else none) else none) else some (-1))
  (hp : ∀ x ∈ l, Ev (fun k => cl k x) (p x)) (hl : l.length ≤ 4000000000000000000) : ∃ r, Ev (fun k => L0 k l (l.length : Int) 0) r ∧ decide (r ≥ 0) = l.any p := by
 have key : ∀ (d i : Nat), i + d = l.length → ∃ r, Ev (fun k => L0 k l (l.length : Int) (i : Int)) r ∧ decide (r ≥ 0) = (l.drop i).any p := by
  intro d
  induction d with
  | zero =>
   intro i hi
   refine ⟨-1, Ev.step (f := fun _ => some (-1)) (fun k => ?_) (Ev.now _), ?_⟩
   ·rw [hstep, if_neg (by omega)]
   ·rw [List.drop_eq_nil_of_le (by omega)]; rfl
  | succ d ih =>
   intro i hi
   have hlt : i < l.length := by omega
   have hpx := hp _ (List.getElem_mem hlt)
   rw [List.drop_eq_getElem_cons hlt, List.any_cons]
   have st : ∀ k, L0 (k + 1) l (l.length : Int) (i : Int) = (cl k l[i]).bind fun t => if t = true then some (i : Int) else L0 k l (l.length : Int) ((i + 1 : Nat) : Int) := by
    intro k
    rw [hstep, if_pos (by omega), if_pos (by omega), if_pos (by omega), hrf i hlt, w64 (x := (i : Int) + 1) (by omega) (by omega)]
    rfl
   cases hb : p l[i] with
   | true =>
    rw [hb] at hpx
    refine ⟨(i : Int), Ev.step (f := fun k => (cl k l[i]).bind fun t => if t = true then some (i : Int) else L0 k l (l.length : Int) ((i + 1 : Nat) : Int)) st (ev_bind hpx (ev_pos rfl (Ev.now _))), ?_⟩
    simp only [Bool.true_or]
    exact decide_eq_true (by omega)
   | false =>
    rw [hb] at hpx
    obtain ⟨r, hr, e⟩ := ih (i + 1) (by omega)
    refine ⟨r, Ev.step (f := fun k => (cl k l[i]).bind fun t => if t = true then some (i : Int) else L0 k l (l.length : Int) ((i + 1 : Nat) : Int)) st (ev_bind hpx (ev_neg (by simp) hr)), ?_⟩
    rw [Bool.false_or]; exact e
 obtain ⟨r, hr, e⟩ := key l.length 0 (by omega)
 exact ⟨r, hr, by rw [e, List.drop_zero]⟩
def all4 (l : List ByteArray) : Bool := l.all fun s => decide (s.size = 4)
end Go.Proofs.Ytnplghcbdaiogaa.PU
end
section
namespace Go.Proofs.Ytnplghcbdaiogaa.PG
open Go.RowKit Go.Proofs.YtnplghcbdaiogaaW.PrintWords Go.Proofs.YtnplghcbdaiogaaW.PrintLast Go.Proofs.YtnplghcbdaiogaaW.PrintMore Go.Proofs.Ytnplghcbdaiogaa.PB Go.Proofs.Ytnplghcbdaiogaa.PL
set_option linter.unusedVariables false
theorem loop_up {β : Type} {r : β} (n : Nat) (S : Nat → Nat → Option β) (hend : Ev (S n) r) (hround : ∀ i, i < n → Ev (S (i + 1)) r → Ev (S i) r) : Ev (S 0) r := by
 have key : ∀ d i, i + d = n → Ev (S i) r := by
  intro d
  induction d with
  | zero => intro i hi; rw [show i = n by omega]; exact hend
  | succ d ih => intro i hi; exact hround i (by omega) (ih (i + 1) (by omega))
 exact key n 0 (by omega)
def wsum {α : Type} (wt : α → Nat) : List α → Nat
 | [] => 0
 | x :: l => wt x + wsum wt l
theorem wsum_mem {α : Type} (wt : α → Nat) (l : List α) : ∀ x ∈ l, wt x ≤ wsum wt l := by
 induction l with
 | nil => intro s h; cases h
 | cons a l ih =>
  intro s h
  simp only [wsum]
  rcases List.mem_cons.mp h with rfl | h
  ·omega
  ·have := ih s h; omega
def left (R : Int) (w : Nat) : Int := if (w : Int) ≤ R then R - w else -1
theorem left_yes {R : Int} {w : Nat} (h : (w : Int) ≤ R) : left R w = R - w := if_pos h
theorem left_no {R : Int} {w : Nat} (h : ¬ (w : Int) ≤ R) : left R w = -1 := if_neg h
theorem left_add {R : Int} {a b : Nat} (h : (a : Int) ≤ R) : left (R - a) b = left R (a + b) := by
 unfold left
 by_cases hb : (b : Int) ≤ R - a
 ·rw [if_pos hb, if_pos (by omega)]; omega
 ·rw [if_neg hb, if_neg (by omega)]
theorem to_list {α β : Type} (f : α → β) (z : β) (l : List α) (L0 : Nat → List α → List β → Int → Option (List β)) (hl : l.length ≤ 2000000)
  (hend : ∀ k out, L0 (k + 1) l out (l.length : Int) = some out)
  (hround : ∀ i (h : i < l.length) (out : List β), out.length = l.length → ∀ r, Ev (fun k => L0 k l (out.set i (f l[i])) ((i + 1 : Nat) : Int)) r → Ev (fun k => L0 k l out (i : Int)) r) :
  Ev (fun k => L0 k l (List.replicate l.length z) 0) (l.map f) := by
 have h := loop_up (r := l.map f) l.length (fun i k => L0 k l (filled f z l i) (i : Int)) ?_ ?_
 ·rw [← filled_zero f z l]; exact h
 ·refine Ev.step (f := fun _ => some (l.map f)) (fun k => ?_) (Ev.now _)
  rw [hend, filled_all]
 ·intro i hi h
  refine hround i hi _ (filled_length _ _ _ _ (by omega)) _ ?_
  rw [filled_set f z l i hi]
  exact h
theorem eq_list {α : Type} (l : List α) (L0 : Nat → List α → List α → Int → Option Bool) (F : Nat → List α → List α → Option Bool) (hend : ∀ k, L0 (k + 1) l l (l.length : Int) = some true)
  (hF : ∀ k, F k l l = L0 k l l 0) (hround : ∀ i (h : i < l.length), Ev (fun k => L0 k l l ((i + 1 : Nat) : Int)) true → Ev (fun k => L0 k l l (i : Int)) true) : Ev (fun k => F k l l) true := by
 refine Ev.congr (f := fun k => L0 k l l ((0 : Nat) : Int)) (fun k => hF k) ?_
 exact loop_up l.length (fun i k => L0 k l l (i : Int)) (Ev.step (f := fun _ => some true) (fun k => hend k) (Ev.now _)) (fun i hi h => hround i hi h)
end Go.Proofs.Ytnplghcbdaiogaa.PG
end
section
namespace Go.Proofs.Ytnplghcbdaiogaa.PQ

end Go.Proofs.Ytnplghcbdaiogaa.PQ
end
section
namespace Go.Proofs.Ytnplghcbdaiogaa.PV

end Go.Proofs.Ytnplghcbdaiogaa.PV
end
section
namespace Go.Proofs.Ytnplghcbdaiogaa.PW
open Go.RowKit Go.Proofs.YtnplghcbdaiogaaW.PrintWords Go.Proofs.YtnplghcbdaiogaaW.PrintLast Go.Proofs.YtnplghcbdaiogaaW.PrintMore Go.Proofs.Ytnplghcbdaiogaa.PB Go.Proofs.Ytnplghcbdaiogaa.PD Go.Proofs.Ytnplghcbdaiogaa.PK Go.Proofs.Ytnplghcbdaiogaa.PL Go.Proofs.Ytnplghcbdaiogaa.PS Go.Proofs.Ytnplghcbdaiogaa.PT Go.Proofs.Ytnplghcbdaiogaa.PU Go.Proofs.Ytnplghcbdaiogaa.PG Go.Proofs.Ytnplghcbdaiogaa.PQ Go.Proofs.Ytnplghcbdaiogaa.PV Go.Proofs.Ytnplghcbdaiogaa.PA
set_option linter.unusedVariables false
noncomputable def ch (P : Prop) : Bool := @decide P (Classical.propDecidable P)
theorem ch_yes {P : Prop} (h : P) : ch P = true := @decide_eq_true P (Classical.propDecidable P) h
theorem ch_no {P : Prop} (h : ¬ P) : ch P = false := @decide_eq_false P (Classical.propDecidable P) h
theorem loop_yes {β : Type} (n : Nat) (S : Nat → Nat → Option β) (Q : Nat → Prop) (b : β) (hround : ∀ r i, i < n → Q i → Ev (S (i + 1)) r → Ev (S i) r) (hend : Ev (S n) b) (hq : ∀ i, i < n → Q i) : Ev (S 0) b :=
 loop_up n S hend (fun i hi h => hround b i hi (hq i hi) h)
theorem loop_no {β : Type} (n : Nat) (S : Nat → Nat → Option β) (Q : Nat → Prop) (no : β) (hround : ∀ r i, i < n → Q i → Ev (S (i + 1)) r → Ev (S i) r) (hno : ∀ i, i < n → ¬ Q i → Ev (S i) no) (hq : ¬ ∀ i, i < n → Q i) : Ev (S 0) no := by
 refine Classical.byContradiction fun hc => hq ?_
 have key : ∀ i, i ≤ n → (¬ Ev (S i) no) ∧ ∀ j, j < i → Q j := by
  intro i
  induction i with
  | zero => intro _; exact ⟨hc, fun j hj => absurd hj (Nat.not_lt_zero j)⟩
  | succ i ih =>
   intro hi
   obtain ⟨h1, h2⟩ := ih (by omega)
   have hQ : Q i := Classical.byContradiction fun h => h1 (hno i (by omega) h)
   refine ⟨fun h => h1 (hround no i (by omega) hQ h), fun j hj => ?_⟩
   by_cases e : j = i
   ·subst e; exact hQ
   ·exact h2 j (by omega)
 exact (key n (Nat.le_refl n)).2
theorem has_str (l : List ByteArray) (L0 : Nat → List ByteArray → Int → Int → Option Int) (cl : Nat → ByteArray → Option Bool) (p : ByteArray → Bool)
  (hstep : ∀ k n i, L0 (k + 1) l n i = if i < n then (if 0 ≤ i then (if i < (l.length : Int) then ((cl k (rdOf ByteArray.empty l i)).bind fun t => if t = true then some i else L0 k l n (wrap64 (i + 1))) else none) else none) else some (-1))
  (hp : ∀ x ∈ l, Ev (fun k => cl k x) (p x)) (hl : l.length ≤ 4000000000000000000) : Ev (fun k => (L0 k l (l.length : Int) 0).bind fun t => some (decide (t ≥ 0))) (l.any p) := by
 obtain ⟨r, hr, e⟩ := idx_any l (fun l i => rdOf ByteArray.empty l i) (fun i h => rdOf_at _ l i h) L0 cl p hstep hp hl
 rw [← e]
 exact ev_bind (f := fun _ t => some (decide (t ≥ 0))) hr (Ev.now _)
theorem not_any {α : Type} (p : α → Bool) : ∀ l : List α, (l.any fun s => !p s) = !(l.all p) := by
 intro l
 induction l with
 | nil => rfl
 | cons x l ih => simp only [List.any_cons, List.all_cons, Bool.not_and, ih]
theorem all_at (l : List ByteArray) (p : ByteArray → Bool) : l.all p = true ↔ ∀ i, i < l.length → p (rdOf ByteArray.empty l (i : Int)) = true := by
 rw [List.all_eq_true]
 constructor
 ·intro h i hi
  rw [rdOf_at _ _ _ hi]
  exact h _ (List.getElem_mem hi)
 ·intro h x hx
  obtain ⟨i, hi, e⟩ := List.getElem_of_mem hx
  have := h i hi
  rw [rdOf_at _ _ _ hi, e] at this
  exact this
def keyB (s : ByteArray) : Bool := decide (1 ≤ (s.size : Int) ∧ (s.size : Int) ≤ 12)
def valB (s : ByteArray) : Bool := decide ((s.size : Int) ≤ 12)
theorem keyI (s : ByteArray) : impl_isKey.f s = some (keyB s) := by
 unfold impl_isKey.f; rw [inI]; rfl
theorem empty_iff (a : ByteArray) : a.toList = ([] : List UInt8) ↔ a.size = 0 := by
 rw [← size_toList]
 constructor
 ·intro h; rw [h]; rfl
 ·intro h; exact List.length_eq_zero_iff.mp h
theorem pairS (a b : ByteArray) : spec_l5Pair.f a b = some (keyB a && valB b) := by
 unfold spec_l5Pair.f spec_l5Text.f keyB valB
 simp only [Option.bind_some]
 by_cases h1 : (a.size : Int) ≤ 12
 ·rw [if_pos (decide_eq_true h1)]
  by_cases h2 : (b.size : Int) ≤ 12
  ·rw [if_pos (decide_eq_true h2), decide_eq_true h2, Bool.and_true]
   by_cases h3 : a.size = 0
   ·rw [(empty_iff a).2 h3, decide_eq_false (by omega)]; rfl
   ·have : a.toList ≠ [] := fun h => h3 ((empty_iff a).1 h)
    rw [decide_eq_true ⟨by omega, h1⟩]
    exact congrArg some (by simp [this])
  ·rw [if_neg (by simp [h2]), decide_eq_false h2, Bool.and_false]
 ·rw [if_neg (by simp [h1]), decide_eq_false (fun h => h1 h.2)]; rfl
abbrev tx (l : List ByteArray) (i : Nat) : ByteArray := rdOf ByteArray.empty l (i : Int)
def risesAt (K : List ByteArray) (i : Nat) : Prop := 0 < i → Op.bytesLess (tx K (i - 1)).toList (tx K i).toList = true
def pageOk (K V C : List ByteArray) (g : Int) : Prop := K.length ≤ 4 ∧ V.length = K.length ∧ (∀ i, i < K.length → keyB (tx K i) = true ∧ risesAt K i) ∧ V.all valB = true ∧ (C.length = 0 ∨ C.length = K.length + 1) ∧ all4 C = true ∧ (0 ≤ g ∧ g ≤ (K.length : Int))
theorem risingI (K : List ByteArray) (hK : K.length ≤ 2000000) : Ev (fun k => impl_areRising.f k K) (ch (∀ i, i < K.length → keyB (tx K i) = true ∧ risesAt K i)) := by
 have round : ∀ (r : Bool) i, i < K.length → (keyB (tx K i) = true ∧ risesAt K i) → Ev (fun k => impl_areRising.l0 k K K (K.length : Int) ((i + 1 : Nat) : Int)) r → Ev (fun k => impl_areRising.l0 k K K (K.length : Int) (i : Int)) r := by
  intro r i hi hq h
  refine Ev.step (f := fun k => impl_areRising.l0 k K K (K.length : Int) ((i + 1 : Nat) : Int)) (fun k => ?_) h
  simp only [impl_areRising.l0]
  rw [if_pos (by omega), if_pos (by omega), if_pos (by omega), keyI, w64 (x := (i : Int) + 1) (by omega) (by omega)]
  simp only [Option.bind_some]
  rw [if_pos hq.1]
  by_cases h0 : 0 < i
  ·rw [if_pos (by omega), w64 (x := (i : Int) - 1) (by omega) (by omega), if_pos (by omega), if_pos (by omega), show (i : Int) - 1 = ((i - 1 : Nat) : Int) by omega, if_pos (hq.2 h0)]; rfl
  ·rw [if_neg (by omega)]; rfl
 have stop : ∀ i, i < K.length → ¬ (keyB (tx K i) = true ∧ risesAt K i) → Ev (fun k => impl_areRising.l0 k K K (K.length : Int) (i : Int)) false := by
  intro i hi hq
  refine Ev.step (f := fun _ => some false) (fun k => ?_) (Ev.now _)
  simp only [impl_areRising.l0]
  rw [if_pos (by omega), if_pos (by omega), if_pos (by omega), keyI]
  simp only [Option.bind_some]
  by_cases hk : keyB (tx K i) = true
  ·rw [if_pos hk]
   have h0 : 0 < i := Classical.byContradiction fun h => hq ⟨hk, fun h' => absurd h' h⟩
   rw [if_pos (by omega), w64 (x := (i : Int) - 1) (by omega) (by omega), if_pos (by omega), if_pos (by omega), show (i : Int) - 1 = ((i - 1 : Nat) : Int) by omega, if_neg (fun h => hq ⟨hk, fun _ => h⟩)]
  ·rw [if_neg hk]
 by_cases h : ∀ i, i < K.length → keyB (tx K i) = true ∧ risesAt K i
 ·rw [ch_yes h]
  exact loop_yes K.length (fun i k => impl_areRising.l0 k K K (K.length : Int) (i : Int)) _ true round (Ev.step (f := fun _ => some true) (fun k => by simp only [impl_areRising.l0]; rw [if_neg (by omega)]) (Ev.now _)) h
 ·rw [ch_no h]
  exact loop_no K.length (fun i k => impl_areRising.l0 k K K (K.length : Int) (i : Int)) _ false round stop h
theorem valsI (V : List ByteArray) (hV : V.length ≤ 2000000) : Ev (fun k => slices_ContainsFunc_impl_arePairs_1.f k V) (!(V.all valB)) := by
 rw [← not_any]
 exact has_str V slices_IndexFunc_impl_arePairs_1.l0 (fun _ s => impl_arePairs_1.f s) (fun s => !valB s) (fun k n i => rfl) (fun x _ => Ev.now _) (by omega)
theorem pairsI (K V : List ByteArray) (hK : K.length ≤ 2000000) (hV : V.length ≤ 2000000) : Ev (fun k => impl_arePairs.f k K V) (ch (K.length ≤ 40 ∧ V.length = K.length ∧ (∀ i, i < K.length → keyB (tx K i) = true ∧ risesAt K i) ∧ V.all valB = true)) := by
 unfold impl_arePairs.f
 by_cases h1 : K.length ≤ 40
 ·refine ev_pos (by omega) ?_
  by_cases h2 : V.length = K.length
  ·refine ev_pos (by omega) (ev_bind (risingI K hK) ?_)
   by_cases h3 : ∀ i, i < K.length → keyB (tx K i) = true ∧ risesAt K i
   ·rw [ch_yes h3]
    refine ev_pos rfl (ev_bind (valsI V hV) (ev_eq (Ev.now _) ?_))
    cases h4 : V.all valB with
    | true => exact (ch_yes ⟨h1, h2, h3, rfl⟩).symm
    | false => rw [ch_no (fun h => by simp at h)]; rfl
   ·rw [ch_no h3]
    exact ev_eq (ev_neg (by simp) (Ev.now _)) (ch_no (fun h => h3 h.2.2.1)).symm
  ·exact ev_eq (ev_neg (by omega) (Ev.now _)) (ch_no (fun h => h2 h.2.1)).symm
 ·exact ev_eq (ev_neg (by omega) (Ev.now _)) (ch_no (fun h => h1 h.1)).symm
theorem bytes_l1 : ∀ k x C n i, impl_Shown_bytes.l1 k x C n i = spec_l6Bytes.l1 k x C n i := by
 intro k
 induction k with
 | zero => intros; rfl
 | succ k ih => intros; simp only [impl_Shown_bytes.l1, spec_l6Bytes.l1, ih]
theorem bytes_l0 : ∀ k x K0 n i K V C g, impl_Shown_bytes.l0 k x K0 n i K V C g = spec_l6Bytes.l0 k x K0 n i K V C g := by
 intro k
 induction k with
 | zero => intros; rfl
 | succ k ih => intros; simp only [impl_Shown_bytes.l0, spec_l6Bytes.l0, ih, bytes_l1, impl_oneByte.f, Option.bind_some]
theorem bytes_eq (k : Nat) (K V C : List ByteArray) (g : Int) : impl_Shown_bytes.f k K V C g = spec_l6Bytes.f k K V C g := by
 unfold impl_Shown_bytes.f spec_l6Bytes.f impl_oneByte.f
 simp only [Option.bind_some]
 exact bytes_l0 _ _ _ _ _ _ _ _ _
theorem k103 : Kd_ 103 := ⟨by decide, by decide⟩
theorem eqShown (K V C : List ByteArray) (g : Int) (hK : K.length ≤ 2000000) (hV : V.length ≤ 2000000) (hC : C.length ≤ 2000000) : Ev (fun k => laws_eqShown.f k K V C g K V C g) true :=
 ev_bind (eqS_yes K hK) (ev_pos rfl (ev_bind (eqS_yes V hV) (ev_pos rfl (ev_bind (eqS_yes C hC) (ev_pos rfl (ev_pos rfl (Ev.now _)))))))
end Go.Proofs.Ytnplghcbdaiogaa.PW
end
section
namespace Go.Proofs.Ytnplghcbdaiogaa.PX

end Go.Proofs.Ytnplghcbdaiogaa.PX
end
section
namespace Go.Proofs.Ytnplghcbdaiogaa.PY
open Go.RowKit Go.Proofs.YtnplghcbdaiogaaW.PrintWords Go.Proofs.YtnplghcbdaiogaaW.PrintLast Go.Proofs.YtnplghcbdaiogaaW.PrintMore Go.Proofs.Ytnplghcbdaiogaa.PB Go.Proofs.Ytnplghcbdaiogaa.PD Go.Proofs.Ytnplghcbdaiogaa.PK Go.Proofs.Ytnplghcbdaiogaa.PL Go.Proofs.Ytnplghcbdaiogaa.PS Go.Proofs.Ytnplghcbdaiogaa.PT Go.Proofs.Ytnplghcbdaiogaa.PU Go.Proofs.Ytnplghcbdaiogaa.PG Go.Proofs.Ytnplghcbdaiogaa.PQ Go.Proofs.Ytnplghcbdaiogaa.PW Go.Proofs.Ytnplghcbdaiogaa.PX Go.Proofs.Ytnplghcbdaiogaa.PA
set_option linter.unusedVariables false
theorem sz_list2 {α : Type} (wt : α → Nat) (l : List α) (rf : List α → Int → α) (hrf : ∀ i (h : i < l.length), rf l (i : Int) = l[i]) (L0 : Nat → List α → Int → Int → Option Int) (F : Nat → List α → Int → Option Int) (e : Nat → α → Int → Option Int)
  (hstep : ∀ k R i, L0 (k + 1) l R i = if i < (l.length : Int) then (if 0 ≤ i then ((e k (rf l i) R).bind fun t => if t < 0 then some (-1) else L0 k l t (wrap64 (i + 1))) else none) else some R)
  (hF : ∀ k R, F k l R = if wrap64 (R - (l.length : Int)) < 0 then some (-1) else L0 k l (wrap64 (R - (l.length : Int))) 0)
  (he : ∀ x ∈ l, ∀ R, 0 ≤ R → R ≤ 1000000000 → Ev (fun k => e k x R) (left R (wt x))) (hl : l.length ≤ 9223372036854775807) (R : Int) (h0 : 0 ≤ R) (h1 : R ≤ 1000000000) :
  Ev (fun k => F k l R) (left R (l.length + wsum wt l)) := by
 have key : ∀ (d i : Nat) (R : Int), i + d = l.length → 0 ≤ R → R ≤ 1000000000 → l.length ≤ 1000000000000 → Ev (fun k => L0 k l R (i : Int)) (left R (wsum wt (l.drop i))) := by
  intro d
  induction d with
  | zero =>
   intro i R hi h0 h1 h2
   rw [List.drop_eq_nil_of_le (by omega)]
   refine Ev.step (f := fun _ => some R) (fun k => by rw [hstep, if_neg (by omega)]) ?_
   refine ev_eq (Ev.now R) ?_
   show R = left R 0
   unfold left
   rw [if_pos (by omega)]; omega
  | succ d ih =>
   intro i R hi h0 h1 h2
   have hlt : i < l.length := by omega
   have hx := he _ (List.getElem_mem hlt) R h0 h1
   rw [List.drop_eq_getElem_cons hlt, show wsum wt (l[i] :: l.drop (i + 1)) = wt l[i] + wsum wt (l.drop (i + 1)) from rfl]
   refine Ev.step (f := fun k => (e k l[i] R).bind fun t => if t < 0 then some (-1) else L0 k l t ((i + 1 : Nat) : Int)) (fun k => ?_) ?_
   ·rw [hstep, if_pos (by omega), if_pos (by omega), hrf i hlt, w64 (x := (i : Int) + 1) (by omega) (by omega)]; rfl
   ·refine ev_bind hx ?_
    by_cases hc : ((wt l[i] : Nat) : Int) ≤ R
    ·rw [left_yes hc]
     refine ev_neg (by omega) ?_
     refine ev_eq (ih (i + 1) (R - wt l[i]) (by omega) (by omega) (by omega) h2) (left_add hc)
    ·rw [left_no hc]
     refine ev_pos (by omega) (ev_eq (Ev.now _) ?_)
     unfold left
     rw [if_neg (by omega)]
 by_cases hc : (l.length : Int) ≤ R
 ·refine Ev.congr (f := fun k => L0 k l (R - l.length) ((0 : Nat) : Int)) (fun k => ?_) ?_
  ·rw [hF, w64 (x := R - (l.length : Int)) (by omega) (by omega), if_neg (by omega)]; rfl
  ·refine ev_eq (key l.length 0 (R - l.length) (by omega) (by omega) (by omega) (by omega)) ?_
   rw [List.drop_zero]; exact left_add hc
 ·refine Ev.congr (f := fun _ => some (-1)) (fun k => ?_) (ev_eq (Ev.now _) ?_)
  ·rw [hF, w64 (x := R - (l.length : Int)) (by omega) (by omega), if_pos (by omega)]
  ·unfold left; rw [if_neg (by omega)]
end Go.Proofs.Ytnplghcbdaiogaa.PY
end
section
namespace Go.Proofs.Ytnplghcbdaiogaa.QP
open Go.RowKit Go.Proofs.YtnplghcbdaiogaaW.PrintWords Go.Proofs.YtnplghcbdaiogaaW.PrintLast Go.Proofs.YtnplghcbdaiogaaW.PrintMore Go.Proofs.Ytnplghcbdaiogaa.PB Go.Proofs.Ytnplghcbdaiogaa.PD Go.Proofs.Ytnplghcbdaiogaa.PK Go.Proofs.Ytnplghcbdaiogaa.PL Go.Proofs.Ytnplghcbdaiogaa.PT Go.Proofs.Ytnplghcbdaiogaa.PU Go.Proofs.Ytnplghcbdaiogaa.PG Go.Proofs.Ytnplghcbdaiogaa.PW Go.Proofs.Ytnplghcbdaiogaa.QW Go.Proofs.Ytnplghcbdaiogaa.PA
set_option linter.unusedVariables false
mutual
def keysT : T → List ByteArray
 | ⟨K, _, l⟩ => wvK l K
def wvK : List T → List ByteArray → List ByteArray
 | [], K => K
 | t :: l, [] => keysT t ++ wvK l []
 | t :: l, k :: K => keysT t ++ k :: wvK l K
end
mutual
def valsT : T → List ByteArray
 | ⟨_, V, l⟩ => wvV l V
def wvV : List T → List ByteArray → List ByteArray
 | [], V => V
 | t :: l, [] => valsT t ++ wvV l []
 | t :: l, k :: V => valsT t ++ k :: wvV l V
end
mutual
def levT : T → Option Nat
 | ⟨_, _, l⟩ => levH l
def levH : List T → Option Nat
 | [] => some 1
 | t :: l => match levT t with
  | none => none
  | some d => if (decide (2 ≤ t.f0.length) && levL d l) = true then some (d + 1) else none
def levL : Nat → List T → Bool
 | _, [] => true
 | d, t :: l => decide (levT t = some d) && (decide (2 ≤ t.f0.length) && levL d l)
end
mutual
def hT : T → Nat
 | ⟨_, _, l⟩ => hL l + 1
def hL : List T → Nat
 | [] => 0
 | t :: l => max (hT t) (hL l)
end
def pairsP : ByteArray → List ByteArray → List ByteArray → ByteArray
 | s, k :: K, v :: V => pairsP (s ++ (((one k.size ++ k) ++ one v.size) ++ v)) K V
 | s, _, _ => s
def kidsP : ByteArray → List ByteArray → ByteArray
 | s, [] => s
 | s, d :: C => kidsP (s ++ d) C
def digP (K V C : List ByteArray) : ByteArray := dig 103 (kidsP (pairsP (one K.length) K V ++ one C.length) C)
mutual
def digT : T → ByteArray
 | ⟨K, V, l⟩ => digP K V (digL l)
def digL : List T → List ByteArray
 | [] => []
 | t :: l => digT t :: digL l
end
theorem digL_map (l : List T) : digL l = l.map digT := by
 induction l with
 | nil => rfl
 | cons x l ih => rw [digL, List.map_cons, ih]
def okT (t : T) : Prop := T.rec (motive_1 := fun _ => Prop) (motive_2 := fun _ => Prop) (fun K V l h => K.length ≤ 4 ∧ V.length = K.length ∧ (l.length = 0 ∨ l.length = K.length + 1) ∧ h) True (fun _ _ h1 h2 => h1 ∧ h2) t
def okL (l : List T) : Prop := ∀ t ∈ l, okT t
theorem okT_eq (t : T) : okT t ↔ (t.f0.length ≤ 4 ∧ t.f1.length = t.f0.length ∧ (t.f2.length = 0 ∨ t.f2.length = t.f0.length + 1) ∧ okL t.f2) := by
 obtain ⟨K, V, l⟩ := t
 have key : ∀ l : List T, (T.rec_1 (motive_1 := fun _ => Prop) (motive_2 := fun _ => Prop) (fun K V l h => K.length ≤ 4 ∧ V.length = K.length ∧ (l.length = 0 ∨ l.length = K.length + 1) ∧ h) True (fun _ _ h1 h2 => h1 ∧ h2) l) ↔ okL l := by
  intro l
  induction l with
  | nil => exact ⟨fun _ => fun t h => absurd h List.not_mem_nil, fun _ => trivial⟩
  | cons t l ih =>
   constructor
   ·rintro ⟨h1, h2⟩ u hu
    rcases List.mem_cons.1 hu with rfl | hu
    ·exact h1
    ·exact ih.1 h2 u hu
   ·intro h
    exact ⟨h t List.mem_cons_self, ih.2 (fun u hu => h u (List.mem_cons_of_mem _ hu))⟩
 show (K.length ≤ 4 ∧ V.length = K.length ∧ (l.length = 0 ∨ l.length = K.length + 1) ∧ _) ↔ _
 rw [key l]
theorem wvK_nil (K : List ByteArray) : wvK [] K = K := by cases K <;> rfl
theorem wvV_nil (K : List ByteArray) : wvV [] K = K := by cases K <;> rfl
theorem keysT_eq (t : T) : keysT t = wvK t.f2 t.f0 := by obtain ⟨K, V, l⟩ := t; rw [keysT]
theorem valsT_eq (t : T) : valsT t = wvV t.f2 t.f1 := by obtain ⟨K, V, l⟩ := t; rw [valsT]
theorem levT_eq (t : T) : levT t = levH t.f2 := by obtain ⟨K, V, l⟩ := t; rw [levT]
theorem hT_eq (t : T) : hT t = hL t.f2 + 1 := by obtain ⟨K, V, l⟩ := t; rw [hT]
theorem digT_eq (t : T) : digT t = digP t.f0 t.f1 (t.f2.map digT) := by obtain ⟨K, V, l⟩ := t; rw [digT, digL_map]
theorem hL_mem (l : List T) : ∀ t ∈ l, hT t ≤ hL l := by
 induction l with
 | nil => intro t h; cases h
 | cons a l ih =>
  intro t h
  rw [hL]
  rcases List.mem_cons.1 h with rfl | h
  ·omega
  ·have := ih t h; omega
theorem readK_len {rd : Nat → Option (T × Nat)} : ∀ (ks : List Int) (a : Nat) (l : List T) (e : Nat), readK rd ks a = some (l, e) → l.length = ks.length := by
 intro ks
 induction ks with
 | nil => intro a l e h; simp only [readK, Option.some.injEq, Prod.mk.injEq] at h; rw [← h.1]; rfl
 | cons k ks ih =>
  intro a l e h
  rw [readK] at h
  by_cases c : k = (a : Int)
  ·rw [if_pos c] at h
   cases hr : rd a with
   | none => rw [hr] at h; cases h
   | some te =>
    obtain ⟨t, e1⟩ := te
    rw [hr] at h
    dsimp only at h
    cases hk : readK rd ks e1 with
    | none => rw [hk] at h; cases h
    | some le =>
     obtain ⟨l1, e2⟩ := le
     rw [hk] at h
     simp only [Option.some.injEq, Prod.mk.injEq] at h
     rw [← h.1, List.length_cons, List.length_cons, ih e1 l1 e2 hk]
  ·rw [if_neg c] at h; cases h
theorem readK_mem {rd : Nat → Option (T × Nat)} : ∀ (ks : List Int) (a : Nat) (l : List T) (e : Nat), readK rd ks a = some (l, e) → ∀ t ∈ l, ∃ b e', rd b = some (t, e') := by
 intro ks
 induction ks with
 | nil => intro a l e h t ht; simp only [readK, Option.some.injEq, Prod.mk.injEq] at h; rw [← h.1] at ht; cases ht
 | cons k ks ih =>
  intro a l e h t ht
  rw [readK] at h
  by_cases c : k = (a : Int)
  ·rw [if_pos c] at h
   cases hr : rd a with
   | none => rw [hr] at h; cases h
   | some te =>
    obtain ⟨t1, e1⟩ := te
    rw [hr] at h
    dsimp only at h
    cases hk : readK rd ks e1 with
    | none => rw [hk] at h; cases h
    | some le =>
     obtain ⟨l1, e2⟩ := le
     rw [hk] at h
     simp only [Option.some.injEq, Prod.mk.injEq] at h
     rw [← h.1] at ht
     rcases List.mem_cons.1 ht with rfl | ht
     ·exact ⟨a, e1, hr⟩
     ·exact ih e1 l1 e2 hk t ht
  ·rw [if_neg c] at h; cases h
theorem readF_open (ps : List S97) (n a : Nat) (t : T) (e : Nat) (h : readF ps (n + 1) a = some (t, e)) : ∃ p l, ps[a]? = some p ∧ okP p ∧ readK (readF ps n) p.f2 (a + 1) = some (l, e) ∧ t = ⟨p.f0, p.f1, l⟩ := by
 rw [readF] at h
 cases hp : ps[a]? with
 | none => rw [hp] at h; cases h
 | some p =>
  rw [hp] at h
  dsimp only at h
  by_cases c : okP p
  ·rw [if_pos c] at h
   cases hk : readK (readF ps n) p.f2 (a + 1) with
   | none => rw [hk] at h; cases h
   | some le =>
    obtain ⟨l, e1⟩ := le
    rw [hk] at h
    simp only [Option.some.injEq, Prod.mk.injEq] at h
    exact ⟨p, l, rfl, c, by rw [hk, h.2], h.1.symm⟩
  ·rw [if_neg c] at h; cases h
theorem readF_ok (ps : List S97) : ∀ (n a : Nat) (t : T) (e : Nat), readF ps n a = some (t, e) → okT t ∧ hT t ≤ n := by
 intro n
 induction n with
 | zero => intro a t e h; cases h
 | succ n ih =>
  intro a t e h
  obtain ⟨p, l, hp, hok, hk, rfl⟩ := readF_open ps n a t e h
  have hl := readK_len _ _ _ _ hk
  have hm := readK_mem _ _ _ _ hk
  refine ⟨(okT_eq _).2 ⟨hok.1, hok.2.1, ?_, fun u hu => ?_⟩, ?_⟩
  ·show l.length = 0 ∨ l.length = p.f0.length + 1
   rw [hl]; exact hok.2.2
  ·obtain ⟨b, e', hb⟩ := hm u hu
   exact (ih b u e' hb).1
  ·rw [hT_eq]
   show hL l + 1 ≤ n + 1
   have : ∀ m : List T, (∀ u ∈ m, hT u ≤ n) → hL m ≤ n := by
    intro m
    induction m with
    | nil => intro _; exact Nat.zero_le _
    | cons u m ih2 =>
     intro hu
     rw [hL]
     have := hu u List.mem_cons_self
     have := ih2 (fun v hv => hu v (List.mem_cons_of_mem _ hv))
     omega
   have := this l (fun u hu => by
    obtain ⟨b, e', hb⟩ := hm u hu
    exact (ih b u e' hb).2)
   omega
theorem wv_len : ∀ (l : List T) (K V : List ByteArray), K.length = V.length → (∀ t ∈ l, (keysT t).length = (valsT t).length) → (wvK l K).length = (wvV l V).length := by
 intro l
 induction l with
 | nil => intro K V h _; rw [wvK_nil, wvV_nil]; exact h
 | cons t l ih =>
  intro K V h ht
  have h1 := ht t List.mem_cons_self
  have h2 := fun u hu => ht u (List.mem_cons_of_mem _ hu)
  cases K with
  | nil =>
   cases V with
   | nil => rw [wvK, wvV, List.length_append, List.length_append, h1, ih [] [] rfl h2]
   | cons v V => cases h
  | cons k K =>
   cases V with
   | nil => cases h
   | cons v V => rw [wvK, wvV, List.length_append, List.length_append, List.length_cons, List.length_cons, h1, ih K V (by simpa using h) h2]
theorem kv_len (t : T) : okT t → (keysT t).length = (valsT t).length := by
 refine indT (P := fun t => okT t → (keysT t).length = (valsT t).length) (fun x ih h => ?_) t
 obtain ⟨h1, h2, h3, h4⟩ := (okT_eq x).1 h
 rw [keysT_eq, valsT_eq]
 exact wv_len x.f2 x.f0 x.f1 h2.symm (fun u hu => ih u hu (h4 u hu))
theorem wvK_len : ∀ (l : List T) (K : List ByteArray) (w : Nat), (l.map fun t => (keysT t).length).sum ≤ w → (wvK l K).length ≤ w + K.length := by
 intro l
 induction l with
 | nil => intro K w h; rw [wvK_nil]; omega
 | cons t l ih =>
  intro K w h
  rw [List.map_cons, List.sum_cons] at h
  cases K with
  | nil =>
   have := ih [] (w - (keysT t).length) (by omega)
   rw [wvK, List.length_append]; omega
  | cons k K =>
   have := ih K (w - (keysT t).length) (by omega)
   rw [wvK, List.length_append, List.length_cons, List.length_cons]; omega
theorem readK_cnt {rd : Nat → Option (T × Nat)} (hrd : ∀ a t e, rd a = some (t, e) → (keysT t).length + 4 * a ≤ 4 * e) : ∀ (ks : List Int) (a : Nat) (l : List T) (e : Nat), readK rd ks a = some (l, e) → (l.map fun t => (keysT t).length).sum + 4 * a ≤ 4 * e := by
 intro ks
 induction ks with
 | nil => intro a l e h; simp only [readK, Option.some.injEq, Prod.mk.injEq] at h; rw [← h.1, ← h.2]; simp
 | cons k ks ih =>
  intro a l e h
  rw [readK] at h
  by_cases c : k = (a : Int)
  ·rw [if_pos c] at h
   cases hr : rd a with
   | none => rw [hr] at h; cases h
   | some te =>
    obtain ⟨t1, e1⟩ := te
    rw [hr] at h
    dsimp only at h
    cases hk : readK rd ks e1 with
    | none => rw [hk] at h; cases h
    | some le =>
     obtain ⟨l1, e2⟩ := le
     rw [hk] at h
     simp only [Option.some.injEq, Prod.mk.injEq] at h
     have h1 := hrd a t1 e1 hr
     have h2 := ih e1 l1 e2 hk
     rw [← h.1, ← h.2, List.map_cons, List.sum_cons]
     omega
  ·rw [if_neg c] at h; cases h
theorem readF_cnt (ps : List S97) : ∀ (n a : Nat) (t : T) (e : Nat), readF ps n a = some (t, e) → (keysT t).length + 4 * a ≤ 4 * e := by
 intro n
 induction n with
 | zero => intro a t e h; cases h
 | succ n ih =>
  intro a t e h
  obtain ⟨p, l, hp, hok, hk, rfl⟩ := readF_open ps n a t e h
  have h1 := readK_cnt ih _ _ _ _ hk
  have h2 := wvK_len l p.f0 _ (Nat.le_refl _)
  have h3 := hok.1
  rw [keysT_eq]
  show (wvK l p.f0).length + 4 * a ≤ 4 * e
  omega
end Go.Proofs.Ytnplghcbdaiogaa.QP
end
section
namespace Go.Proofs.Ytnplghcbdaiogaa.QO
open Go.RowKit Go.Proofs.YtnplghcbdaiogaaW.PrintWords Go.Proofs.YtnplghcbdaiogaaW.PrintLast Go.Proofs.YtnplghcbdaiogaaW.PrintMore Go.Proofs.Ytnplghcbdaiogaa.PB Go.Proofs.Ytnplghcbdaiogaa.PD Go.Proofs.Ytnplghcbdaiogaa.PK Go.Proofs.Ytnplghcbdaiogaa.PL Go.Proofs.Ytnplghcbdaiogaa.PT Go.Proofs.Ytnplghcbdaiogaa.PU Go.Proofs.Ytnplghcbdaiogaa.PG Go.Proofs.Ytnplghcbdaiogaa.PW Go.Proofs.Ytnplghcbdaiogaa.QW Go.Proofs.Ytnplghcbdaiogaa.PA Go.Proofs.Ytnplghcbdaiogaa.QP
set_option linter.unusedVariables false
theorem rdS_at (l : List S95) (i : Nat) (h : i < l.length) : rd_N95 l (i : Int) = l[i] := by
 unfold rd_N95; rw [Int.toNat_natCast, List.getD_eq_getElem?_getD, List.getElem?_eq_getElem h]; rfl
theorem rdI_at (l : List S74) (i : Nat) (h : i < l.length) : rd_N74 l (i : Int) = l[i] := by
 unfold rd_N74; rw [Int.toNat_natCast, List.getD_eq_getElem?_getD, List.getElem?_eq_getElem h]; rfl
theorem er95_f (x : S95) : (er95 x).f0 = x.f0 ∧ (er95 x).f1 = x.f1 ∧ (er95 x).f2 = x.f2.map er95 := by rw [er95_eq]; exact ⟨rfl, rfl, rfl⟩
theorem er74_f (x : S74) : (er74 x).f0 = x.f0 ∧ (er74 x).f1 = x.f1 ∧ (er74 x).f2 = x.f2.map er74 := by rw [er74_eq]; exact ⟨rfl, rfl, rfl⟩
theorem wvK_mid (t : T) (l : List T) (k : ByteArray) (K : List ByteArray) : wvK (t :: l) (k :: K) = keysT t ++ k :: wvK l K := by rw [wvK]
theorem wvV_mid (t : T) (l : List T) (k : ByteArray) (K : List ByteArray) : wvV (t :: l) (k :: K) = valsT t ++ k :: wvV l K := by rw [wvV]
theorem wvK_last (t : T) : wvK [t] [] = keysT t := by rw [wvK, wvK_nil, List.append_nil]
theorem wvV_last (t : T) : wvV [t] [] = valsT t := by rw [wvV, wvV_nil, List.append_nil]
theorem allS (x : S95) : okT (er95 x) → ∀ l1 l2 : List ByteArray, l1.length + (keysT (er95 x)).length < 8796093022208 → l2.length + (valsT (er95 x)).length < 8796093022208 → Ev (fun k => spec_l5T_all.f k x l1 l2) (l1 ++ keysT (er95 x), l2 ++ valsT (er95 x)) := by
 refine ind95 (P := fun x => okT (er95 x) → ∀ l1 l2 : List ByteArray, l1.length + (keysT (er95 x)).length < 8796093022208 → l2.length + (valsT (er95 x)).length < 8796093022208 → Ev (fun k => spec_l5T_all.f k x l1 l2) (l1 ++ keysT (er95 x), l2 ++ valsT (er95 x))) (fun x ih hok => ?_) x
 obtain ⟨e0, e1, e2⟩ := er95_f x
 obtain ⟨h1, h2, h3, h4⟩ := (okT_eq _).1 hok
 rw [keysT_eq, valsT_eq]
 rw [e0] at h1 h2 h3
 rw [e1] at h2
 rw [e2] at h3 h4
 rw [e0, e1, e2]
 rw [List.length_map] at h3
 have key : ∀ (d i : Nat) (a1 a2 : List ByteArray), i + d = x.f0.length + 1 → a1.length + (wvK ((x.f2.map er95).drop i) (x.f0.drop i)).length < 8796093022208 → a2.length + (wvV ((x.f2.map er95).drop i) (x.f1.drop i)).length < 8796093022208 →
   Ev (fun k => spec_l5T_all.l0 k x a1 a2 (i : Int)) (a1 ++ wvK ((x.f2.map er95).drop i) (x.f0.drop i), a2 ++ wvV ((x.f2.map er95).drop i) (x.f1.drop i)) := by
  intro d
  induction d with
  | zero =>
   intro i a1 a2 hi b1 b2
   rw [List.drop_eq_nil_of_le (by rw [List.length_map]; omega), List.drop_eq_nil_of_le (by omega), List.drop_eq_nil_of_le (by omega), wvK_nil, wvV_nil, List.append_nil, List.append_nil]
   exact Ev.step (f := fun _ => some (a1, a2)) (fun k => by simp only [spec_l5T_all.l0]; rw [if_neg (by omega)]) (Ev.now _)
  | succ d ihd =>
   intro i a1 a2 hi b1 b2
   have hw : wrap64 ((i : Int) + 1) = ((i + 1 : Nat) : Int) := by rw [w64 (x := (i : Int) + 1) (by omega) (by omega)]; rfl
   refine Ev.step (f := fun k => _) (fun k => by simp only [spec_l5T_all.l0]; rfl) ?_
   refine ev_pos (by omega) (ev_const (rfl : spec_l5T_leaf.f x = some _) ?_)
   rcases Nat.eq_zero_or_pos x.f2.length with hz | hz
   ·have hn : x.f2 = [] := List.eq_nil_of_length_eq_zero hz
    rw [hn] at b1 b2 ⊢
    rw [List.map_nil, List.drop_nil, wvK_nil] at b1
    rw [List.map_nil, List.drop_nil, wvV_nil] at b2
    rw [List.map_nil, List.drop_nil, wvK_nil, wvV_nil]
    refine ev_pos (by simp) ?_
    rcases Nat.lt_or_ge i x.f0.length with hlt | hge
    ·rw [List.drop_eq_getElem_cons hlt] at b1
     rw [List.drop_eq_getElem_cons (by omega : i < x.f1.length)] at b2
     rw [List.length_cons] at b1 b2
     refine ev_pos (by omega) (ev_pos (by omega) (ev_pos (by omega) (ev_pos (by omega) (ev_pos (by omega) ?_))))
     rw [hw, rdOf_at _ _ _ hlt, rdOf_at _ _ _ (by omega : i < x.f1.length)]
     have := ihd (i + 1) (a1 ++ [x.f0[i]]) (a2 ++ [x.f1[i]]) (by omega) (by rw [hn, List.map_nil, List.drop_nil, wvK_nil, List.length_append]; simp only [List.length_cons, List.length_nil]; omega) (by rw [hn, List.map_nil, List.drop_nil, wvV_nil, List.length_append]; simp only [List.length_cons, List.length_nil]; omega)
     rw [hn, List.map_nil, List.drop_nil, wvK_nil, wvV_nil, List.append_assoc, List.append_assoc] at this
     rw [List.drop_eq_getElem_cons hlt, List.drop_eq_getElem_cons (by omega : i < x.f1.length)]
     exact this
    ·refine ev_neg (by omega) ?_
     rw [hw]
     have := ihd (i + 1) a1 a2 (by omega) (by rw [hn, List.map_nil, List.drop_nil, wvK_nil, List.drop_eq_nil_of_le (by omega)]; simp only [List.length_nil]; omega) (by rw [hn, List.map_nil, List.drop_nil, wvV_nil, List.drop_eq_nil_of_le (by omega)]; simp only [List.length_nil]; omega)
     rw [hn, List.map_nil, List.drop_nil, wvK_nil, wvV_nil, List.drop_eq_nil_of_le (by omega), List.drop_eq_nil_of_le (by omega)] at this
     rw [List.drop_eq_nil_of_le (by omega), List.drop_eq_nil_of_le (by omega)]
     exact this
   ·have hk : x.f2.length = x.f0.length + 1 := by omega
    have hi2 : i < x.f2.length := by omega
    refine ev_neg (by rw [beq_iff_eq]; omega) (ev_pos (by omega) (ev_pos (by omega) ?_))
    rw [rdS_at _ _ hi2]
    have hdm : (x.f2.map er95).drop i = er95 (x.f2[i]) :: (x.f2.map er95).drop (i + 1) := by
     rw [List.drop_eq_getElem_cons (by rw [List.length_map]; exact hi2), List.getElem_map]
    have hmem := List.getElem_mem hi2
    have hih := ih _ hmem (h4 _ (List.mem_map_of_mem hmem))
    rw [hdm] at b1 b2 ⊢
    rcases Nat.lt_or_ge i x.f0.length with hlt | hge
    ·rw [List.drop_eq_getElem_cons hlt, wvK_mid] at b1
     rw [List.drop_eq_getElem_cons (by omega : i < x.f1.length), wvV_mid] at b2
     rw [List.length_append, List.length_cons] at b1 b2
     refine ev_bind (hih a1 a2 (by omega) (by omega)) ?_
     refine ev_pos (by omega) (ev_pos (by rw [List.length_append]; omega) (ev_pos (by omega) (ev_pos (by rw [List.length_append]; omega) ?_)))
     rw [hw, rdOf_at _ _ _ hlt, rdOf_at _ _ _ (by omega : i < x.f1.length)]
     have := ihd (i + 1) (a1 ++ keysT (er95 x.f2[i]) ++ [x.f0[i]]) (a2 ++ valsT (er95 x.f2[i]) ++ [x.f1[i]]) (by omega) (by simp only [List.length_append, List.length_cons, List.length_nil]; omega) (by simp only [List.length_append, List.length_cons, List.length_nil]; omega)
     rw [List.drop_eq_getElem_cons hlt, List.drop_eq_getElem_cons (by omega : i < x.f1.length), wvK_mid, wvV_mid]
     simp only [List.append_assoc, List.cons_append, List.nil_append] at this ⊢
     exact this
    ·have hl : i = x.f0.length := by omega
     have hd0 : (x.f2.map er95).drop (i + 1) = [] := List.drop_eq_nil_of_le (by rw [List.length_map]; omega)
     rw [hd0, List.drop_eq_nil_of_le (by omega : x.f0.length ≤ i), wvK_last] at b1
     rw [hd0, List.drop_eq_nil_of_le (by omega : x.f1.length ≤ i), wvV_last] at b2
     rw [hd0, List.drop_eq_nil_of_le (by omega : x.f0.length ≤ i), List.drop_eq_nil_of_le (by omega : x.f1.length ≤ i), wvK_last, wvV_last]
     refine ev_bind (hih a1 a2 (by omega) (by omega)) (ev_neg (by omega) ?_)
     rw [hw]
     have := ihd (i + 1) (a1 ++ keysT (er95 x.f2[i])) (a2 ++ valsT (er95 x.f2[i])) (by omega) (by rw [hd0, List.drop_eq_nil_of_le (by omega : x.f0.length ≤ i + 1), wvK_nil, List.length_append]; simp only [List.length_nil]; omega) (by rw [hd0, List.drop_eq_nil_of_le (by omega : x.f1.length ≤ i + 1), wvV_nil, List.length_append]; simp only [List.length_nil]; omega)
     rw [hd0, List.drop_eq_nil_of_le (by omega : x.f0.length ≤ i + 1), List.drop_eq_nil_of_le (by omega : x.f1.length ≤ i + 1), wvK_nil, wvV_nil, List.append_nil, List.append_nil] at this
     exact this
 intro l1 l2 b1 b2
 refine Ev.step (f := fun k => spec_l5T_all.l0 k x l1 l2 ((0 : Nat) : Int)) (fun k => by simp only [spec_l5T_all.f]; rfl) ?_
 have := key (x.f0.length + 1) 0 l1 l2 (by omega) (by simpa using b1) (by simpa using b2)
 simpa using this
def lvS : Option Nat → Int
 | none => -1
 | some d => (d : Int)
theorem levL_iff (d : Nat) (l : List T) : levL d l = true ↔ ∀ t ∈ l, levT t = some d ∧ 2 ≤ t.f0.length := by
 induction l with
 | nil => exact ⟨fun _ t h => absurd h List.not_mem_nil, fun _ => by rw [levL]⟩
 | cons a l ih =>
  rw [levL, Bool.and_eq_true, Bool.and_eq_true, decide_eq_true_iff, decide_eq_true_iff, ih]
  constructor
  ·rintro ⟨h1, h2, h3⟩ t ht
   rcases List.mem_cons.1 ht with rfl | ht
   ·exact ⟨h1, h2⟩
   ·exact h3 t ht
  ·intro h
   exact ⟨(h a List.mem_cons_self).1, (h a List.mem_cons_self).2, fun t ht => h t (List.mem_cons_of_mem _ ht)⟩
theorem levH_eq (t : T) (l : List T) : levH (t :: l) = match levT t with
  | none => none
  | some d => if levL d (t :: l) = true then some (d + 1) else none := by
 rw [levH]
 cases h : levT t with
 | none => rfl
 | some d =>
  have : levL d (t :: l) = (decide (2 ≤ t.f0.length) && levL d l) := by
   rw [levL, h, decide_eq_true rfl, Bool.true_and]
  dsimp only
  rw [this]
theorem lev_le (t : T) : ∀ d, levT t = some d → d ≤ hT t := by
 refine indT (P := fun t => ∀ d, levT t = some d → d ≤ hT t) (fun x ih d h => ?_) t
 rw [levT_eq] at h
 rw [hT_eq]
 cases hl : x.f2 with
 | nil => rw [hl, levH] at h; injection h with h; omega
 | cons a l =>
  rw [hl, levH_eq] at h
  cases ha : levT a with
  | none => rw [ha] at h; cases h
  | some e =>
   rw [ha] at h
   dsimp only at h
   by_cases c : levL e (a :: l) = true
   ·rw [if_pos c] at h
    injection h with h
    have := ih a (by rw [hl]; exact List.mem_cons_self) e ha
    have := hL_mem (a :: l) a List.mem_cons_self
    omega
   ·rw [if_neg c] at h; cases h
theorem evenS (x : S95) : hT (er95 x) ≤ 1000000000000000000 → okT (er95 x) → Ev (fun k => spec_l5T_even.f k x) (lvS (levT (er95 x))) := by
 refine ind95 (P := fun x => hT (er95 x) ≤ 1000000000000000000 → okT (er95 x) → Ev (fun k => spec_l5T_even.f k x) (lvS (levT (er95 x)))) (fun x ih hh hok => ?_) x
 obtain ⟨e0, e1, e2⟩ := er95_f x
 obtain ⟨h1, h2, h3, h4⟩ := (okT_eq _).1 hok
 rw [e0, e2, List.length_map] at h3
 rw [e0] at h1
 rw [hT_eq, e2] at hh
 rw [e2] at h4
 rw [levT_eq, e2]
 refine Ev.step (f := fun k => _) (fun k => by simp only [spec_l5T_even.f]; rfl) ?_
 refine ev_const (rfl : spec_l5T_leaf.f x = some _) ?_
 have hgt : ∀ k ∈ x.f2, hT (er95 k) ≤ 1000000000000000000 := fun k hk => by have := hL_mem _ _ (List.mem_map_of_mem (f := er95) hk); omega
 rcases Nat.eq_zero_or_pos x.f2.length with hz | hz
 ·have hn : x.f2 = [] := List.eq_nil_of_length_eq_zero hz
  refine ev_pos (by rw [hn]; rfl) ?_
  rw [hn, List.map_nil, levH]
  exact Ev.now _
 ·refine ev_neg (by rw [beq_iff_eq]; omega) (ev_pos (by omega) ?_)
  have hm0 := List.getElem_mem hz
  have hk0 := ih _ hm0 (hgt _ hm0) (h4 _ (List.mem_map_of_mem hm0))
  have er : rd_N95 x.f2 0 = x.f2[0] := rdS_at x.f2 0 hz
  rw [er]
  refine ev_bind hk0 ?_
  have hd0 : x.f2.map er95 = er95 x.f2[0] :: (x.f2.map er95).drop 1 := by
   have := List.drop_eq_getElem_cons (l := x.f2.map er95) (i := 0) (by rw [List.length_map]; exact hz)
   rw [List.drop_zero, List.getElem_map] at this
   exact this
  cases hv : levT (er95 x.f2[0]) with
  | none =>
   rw [hd0, levH_eq, hv]
   refine Ev.step (f := fun k => _) (fun k => by simp only [spec_l5T_even.l0]; rfl) ?_
   exact ev_pos (by omega) (ev_pos (by omega) (ev_pos (by omega) (ev_pos (by show (-1 : Int) < 0; omega) (Ev.now _))))
  | some d =>
   have hdle : d ≤ 1000000000000000000 := Nat.le_trans (lev_le _ d hv) (hgt _ hm0)
   have key : ∀ (m i : Nat), i + m = x.f2.length → Ev (fun k => spec_l5T_even.l0 k (d : Int) x.f2 (x.f2.length : Int) (i : Int)) (if levL d ((x.f2.map er95).drop i) = true then (d : Int) + 1 else -1) := by
    intro m
    induction m with
    | zero =>
     intro i hi
     rw [List.drop_eq_nil_of_le (by rw [List.length_map]; omega), levL, if_pos rfl]
     refine Ev.step (f := fun k => _) (fun k => by simp only [spec_l5T_even.l0]; rfl) ?_
     refine ev_neg (by omega) ?_
     rw [w64 (x := (d : Int) + 1) (by omega) (by omega)]
     exact Ev.now _
    | succ m ihm =>
     intro i hi
     have hi2 : i < x.f2.length := by omega
     have hw : wrap64 ((i : Int) + 1) = ((i + 1 : Nat) : Int) := by rw [w64 (x := (i : Int) + 1) (by omega) (by omega)]; rfl
     have hmi := List.getElem_mem hi2
     have hdm : (x.f2.map er95).drop i = er95 (x.f2[i]) :: (x.f2.map er95).drop (i + 1) := by
      rw [List.drop_eq_getElem_cons (by rw [List.length_map]; exact hi2), List.getElem_map]
     rw [hdm, levL]
     refine Ev.step (f := fun k => _) (fun k => by simp only [spec_l5T_even.l0]; rfl) ?_
     refine ev_pos (by omega) (ev_pos (by omega) (ev_pos (by omega) (ev_neg (by omega) ?_)))
     rw [rdS_at _ _ hi2]
     refine ev_bind (ih _ hmi (hgt _ hmi) (h4 _ (List.mem_map_of_mem hmi))) ?_
     by_cases c : levT (er95 x.f2[i]) = some d
     ·rw [c, decide_eq_true rfl, Bool.true_and, (er95_f x.f2[i]).1]
      refine ev_pos rfl ?_
      by_cases c2 : 2 ≤ x.f2[i].f0.length
      ·rw [decide_eq_true c2, Bool.true_and, hw]
       exact ev_neg (by omega) (ihm (i + 1) (by omega))
      ·rw [decide_eq_false c2, Bool.false_and, if_neg (by simp)]
       exact ev_pos (by omega) (Ev.now _)
     ·rw [decide_eq_false c, Bool.false_and, if_neg (by simp)]
      refine ev_neg ?_ (Ev.now _)
      intro e
      apply c
      cases h : levT (er95 x.f2[i]) with
      | none => rw [h] at e; simp only [lvS] at e; omega
      | some d' => rw [h] at e; simp only [lvS] at e; congr 1; omega
   have hk := key x.f2.length 0 (by omega)
   rw [List.drop_zero] at hk
   refine ev_eq hk ?_
   rw [hd0, levH_eq, hv]
   dsimp only
   by_cases c : levL d (er95 x.f2[0] :: (x.f2.map er95).drop 1) = true
   ·rw [if_pos c, if_pos c]; rfl
   ·rw [if_neg c, if_neg c]; rfl
def dpI (t : T) : Int × Bool := match levT t with
 | none => (0, false)
 | some d => ((d : Int), t.f2.isEmpty || decide (0 < t.f0.length))
theorem depthI (x : S74) : hT (er74 x) ≤ 1000000000000000000 → okT (er74 x) → Ev (fun k => impl_node_depth.f k x) (dpI (er74 x)) := by
 refine ind74 (P := fun x => hT (er74 x) ≤ 1000000000000000000 → okT (er74 x) → Ev (fun k => impl_node_depth.f k x) (dpI (er74 x))) (fun x ih hh hok => ?_) x
 obtain ⟨e0, e1, e2⟩ := er74_f x
 obtain ⟨h1, h2, h3, h4⟩ := (okT_eq _).1 hok
 rw [e0, e2, List.length_map] at h3
 rw [e0] at h1
 rw [hT_eq, e2] at hh
 rw [e2] at h4
 refine Ev.step (f := fun k => _) (fun k => by simp only [impl_node_depth.f]; rfl) ?_
 refine ev_const (rfl : impl_node_isLeaf.f x = some _) ?_
 have hgt : ∀ k ∈ x.f2, hT (er74 k) ≤ 1000000000000000000 := fun k hk => by have := hL_mem _ _ (List.mem_map_of_mem (f := er74) hk); omega
 rcases Nat.eq_zero_or_pos x.f2.length with hz | hz
 ·have hn : x.f2 = [] := List.eq_nil_of_length_eq_zero hz
  refine ev_pos (by rw [hn]; rfl) ?_
  unfold dpI
  rw [levT_eq, e2, hn, List.map_nil, levH]
  exact Ev.now _
 ·refine ev_neg (by rw [beq_iff_eq]; omega) ?_
  have hm0 := List.getElem_mem hz
  have hd0 : x.f2.map er74 = er74 x.f2[0] :: (x.f2.map er74).drop 1 := by
   have := List.drop_eq_getElem_cons (l := x.f2.map er74) (i := 0) (by rw [List.length_map]; exact hz)
   rw [List.drop_zero, List.getElem_map] at this
   exact this
  have hne : (x.f2.map er74).isEmpty = false := by rw [hd0]; rfl
  have hk0 := ih _ hm0 (hgt _ hm0) (h4 _ (List.mem_map_of_mem hm0))
  -- a kid's answer
  have kid : ∀ (y : S74) (d : Nat), dpI (er74 y) = (match levT (er74 y) with | none => (0, false) | some d => ((d : Int), (er74 y).f2.isEmpty || decide (0 < (er74 y).f0.length))) := fun y d => rfl
  have key : ∀ (d : Nat) (_ : d ≤ 1000000000000000000) (m i : Nat), 0 < i → i + m = x.f2.length → Ev (fun k => impl_node_depth.l0 k x (d : Int) x.f2 (x.f2.length : Int) (i : Int)) (if levL d ((x.f2.map er74).drop i) = true then ((d : Int) + 1, decide (0 < x.f0.length)) else (0, false)) := by
   intro d hdle m
   induction m with
   | zero =>
    intro i hp hi
    rw [List.drop_eq_nil_of_le (by rw [List.length_map]; omega), levL, if_pos rfl]
    refine Ev.step (f := fun k => _) (fun k => by simp only [impl_node_depth.l0]; rfl) ?_
    refine ev_neg (by omega) ?_
    rw [w64 (x := (d : Int) + 1) (by omega) (by omega)]
    refine ev_eq (Ev.now _) ?_
    congr 1
    by_cases c : 0 < x.f0.length
    ·rw [decide_eq_true c, decide_eq_true (by omega)]
    ·rw [decide_eq_false c, decide_eq_false (by omega)]
   | succ m ihm =>
    intro i hp hi
    have hi2 : i < x.f2.length := by omega
    have hw : wrap64 ((i : Int) + 1) = ((i + 1 : Nat) : Int) := by rw [w64 (x := (i : Int) + 1) (by omega) (by omega)]; rfl
    have hmi := List.getElem_mem hi2
    have hdm : (x.f2.map er74).drop i = er74 (x.f2[i]) :: (x.f2.map er74).drop (i + 1) := by
     rw [List.drop_eq_getElem_cons (by rw [List.length_map]; exact hi2), List.getElem_map]
    rw [hdm, levL]
    refine Ev.step (f := fun k => _) (fun k => by simp only [impl_node_depth.l0]; rfl) ?_
    refine ev_pos (by omega) (ev_pos (by omega) (ev_pos (by omega) ?_))
    rw [rdI_at _ _ hi2]
    refine ev_bind (ih _ hmi (hgt _ hmi) (h4 _ (List.mem_map_of_mem hmi))) ?_
    rw [kid _ d]
    cases hv : levT (er74 x.f2[i]) with
    | none =>
     dsimp only
     rw [decide_eq_false (show ¬ ((none : Option Nat) = some d) by simp), Bool.false_and, if_neg (by simp)]
     exact ev_neg (by simp) (Ev.now _)
    | some d' =>
     dsimp only
     rw [(er74_f x.f2[i]).1]
     by_cases c2 : 2 ≤ x.f2[i].f0.length
     ·refine ev_pos (by show ((er74 x.f2[i]).f2.isEmpty || decide (0 < x.f2[i].f0.length)) = true; rw [decide_eq_true (by omega : 0 < x.f2[i].f0.length), Bool.or_true]) (ev_neg (by omega) (ev_pos (by omega) ?_))
      by_cases c : d' = d
      ·subst c
       rw [decide_eq_true rfl, Bool.true_and, decide_eq_true c2, Bool.true_and, hw]
       exact ev_pos rfl (ihm (i + 1) (by omega) (by omega))
      ·rw [decide_eq_false (show ¬ ((some d' : Option Nat) = some d) from fun e => c (Option.some.inj e)), Bool.false_and, if_neg (by simp)]
       exact ev_neg (by show ¬ ((d' : Int) = (d : Int)); omega) (Ev.now _)
     ·rw [decide_eq_false c2, Bool.false_and, Bool.and_false, if_neg (by simp)]
      by_cases cb : ((er74 x.f2[i]).f2.isEmpty || decide (0 < x.f2[i].f0.length)) = true
      ·exact ev_pos cb (ev_pos (by omega) (Ev.now _))
      ·exact ev_neg cb (Ev.now _)
  have er : rd_N74 x.f2 ((0 : Nat) : Int) = x.f2[0] := rdI_at x.f2 0 hz
  show Ev (fun k => impl_node_depth.l0 k x 0 x.f2 (x.f2.length : Int) ((0 : Nat) : Int)) _
  refine Ev.step (f := fun k => _) (fun k => by simp only [impl_node_depth.l0]; rfl) ?_
  refine ev_pos (by omega) (ev_pos (by omega) (ev_pos (by omega) ?_))
  rw [er]
  refine ev_bind hk0 ?_
  rw [kid _ 0]
  unfold dpI
  rw [levT_eq (er74 x), e2, hd0, levH_eq, ← hd0, hne, Bool.false_or, e0]
  cases hv : levT (er74 x.f2[0]) with
  | none => exact ev_neg (by simp) (Ev.now _)
  | some d =>
   have hdle : d ≤ 1000000000000000000 := Nat.le_trans (lev_le _ d hv) (hgt _ hm0)
   have hw : wrap64 (((0 : Nat) : Int) + 1) = ((1 : Nat) : Int) := by rw [w64 (x := ((0 : Nat) : Int) + 1) (by omega) (by omega)]; rfl
   dsimp only
   rw [hd0, levL, hv, decide_eq_true rfl, Bool.true_and, (er74_f x.f2[0]).1]
   by_cases c2 : 2 ≤ x.f2[0].f0.length
   ·refine ev_pos (by rw [decide_eq_true (by omega : 0 < x.f2[0].f0.length), Bool.or_true]) (ev_neg (by omega) (ev_neg (by omega) ?_))
    rw [hw, decide_eq_true c2, Bool.true_and]
    refine ev_eq (key d hdle (x.f2.length - 1) 1 (by omega) (by omega)) ?_
    by_cases c : levL d ((x.f2.map er74).drop 1) = true
    ·rw [if_pos c, if_pos c]; rfl
    ·rw [if_neg c, if_neg c]
   ·rw [decide_eq_false c2, Bool.false_and, if_neg (by simp)]
    by_cases cb : ((er74 x.f2[0]).f2.isEmpty || decide (0 < x.f2[0].f0.length)) = true
    ·exact ev_pos cb (ev_pos (by omega) (Ev.now _))
    ·exact ev_neg cb (Ev.now _)
end Go.Proofs.Ytnplghcbdaiogaa.QO
end
section
namespace Go.Proofs.Ytnplghcbdaiogaa.QQ
open Go.RowKit Go.Proofs.YtnplghcbdaiogaaW.PrintWords Go.Proofs.YtnplghcbdaiogaaW.PrintLast Go.Proofs.YtnplghcbdaiogaaW.PrintMore Go.Proofs.Ytnplghcbdaiogaa.PB Go.Proofs.Ytnplghcbdaiogaa.PD Go.Proofs.Ytnplghcbdaiogaa.PK Go.Proofs.Ytnplghcbdaiogaa.PL Go.Proofs.Ytnplghcbdaiogaa.PT Go.Proofs.Ytnplghcbdaiogaa.PU Go.Proofs.Ytnplghcbdaiogaa.PG Go.Proofs.Ytnplghcbdaiogaa.PW Go.Proofs.Ytnplghcbdaiogaa.QW Go.Proofs.Ytnplghcbdaiogaa.PA Go.Proofs.Ytnplghcbdaiogaa.QP Go.Proofs.Ytnplghcbdaiogaa.QO
set_option linter.unusedVariables false
theorem kidsP_size : ∀ (C : List ByteArray) (x : ByteArray), (∀ s ∈ C, s.size = 4) → (kidsP x C).size = x.size + 4 * C.length := by
 intro C
 induction C with
 | nil => intro x _; rfl
 | cons d C ih =>
  intro x h
  rw [kidsP, ih _ (fun s hs => h s (List.mem_cons_of_mem _ hs)), app_size, h d List.mem_cons_self, List.length_cons]
  omega
theorem pairsP_size : ∀ (K V : List ByteArray) (x : ByteArray), (∀ s ∈ K, s.size ≤ 12) → (∀ s ∈ V, s.size ≤ 12) → (pairsP x K V).size ≤ x.size + 26 * K.length := by
 intro K
 induction K with
 | nil => intro V x _ _; rw [pairsP.eq_def]; simp
 | cons k K ih =>
  intro V x hK hV
  cases V with
  | nil => rw [pairsP.eq_def]; simp
  | cons v V =>
   rw [pairsP]
   have h1 := ih V (x ++ (((one k.size ++ k) ++ one v.size) ++ v)) (fun s hs => hK s (List.mem_cons_of_mem _ hs)) (fun s hs => hV s (List.mem_cons_of_mem _ hs))
   have h2 := hK k List.mem_cons_self
   have h3 := hV v List.mem_cons_self
   simp only [app_size, one_size, List.length_cons] at h1 ⊢
   omega
def Pg (K V C : List ByteArray) : Prop := K.length ≤ 4 ∧ V.length = K.length ∧ (∀ s ∈ K, s.size ≤ 12) ∧ (∀ s ∈ V, s.size ≤ 12) ∧ C.length ≤ 5 ∧ ∀ s ∈ C, s.size = 4
theorem bytesS (K V C : List ByteArray) (g : Int) (h : Pg K V C) : Ev (fun k => spec_l6Bytes.f k K V C g) (kidsP (pairsP (one K.length) K V ++ one C.length) C) := by
 obtain ⟨h1, h2, h3, h4, h5, h6⟩ := h
 have kids : ∀ (d i : Nat) (x : ByteArray), i + d = C.length → x.size ≤ 500 + 4 * i → Ev (fun k => spec_l6Bytes.l1 k x C (C.length : Int) (i : Int)) (kidsP x (C.drop i)) := by
  intro d
  induction d with
  | zero =>
   intro i x hi hx
   rw [List.drop_eq_nil_of_le (by omega)]
   refine Ev.step (f := fun _ => some x) (fun k => ?_) (Ev.now _)
   simp only [spec_l6Bytes.l1]; rw [if_neg (by omega)]
  | succ d ih =>
   intro i x hi hx
   have hlt : i < C.length := by omega
   have hs : (C[i]).size = 4 := h6 _ (List.getElem_mem hlt)
   rw [List.drop_eq_getElem_cons hlt, kidsP]
   refine Ev.step (f := fun k => spec_l6Bytes.l1 k (x ++ C[i]) C (C.length : Int) ((i + 1 : Nat) : Int)) (fun k => ?_) (ih (i + 1) (x ++ C[i]) (by omega) (by rw [app_size, hs]; omega))
   simp only [spec_l6Bytes.l1]
   rw [rdOf_at _ _ _ hlt, if_pos (by omega), if_pos (by omega), if_pos (by omega), if_pos (by omega), w64 (x := (i : Int) + 1) (by omega) (by omega)]
   rfl
 have pairs : ∀ (d i : Nat) (x : ByteArray), i + d = K.length → x.size ≤ 1 + 40 * i → Ev (fun k => spec_l6Bytes.l0 k x K (K.length : Int) (i : Int) K V C g) (kidsP (pairsP x (K.drop i) (V.drop i) ++ one C.length) C) := by
  intro d
  induction d with
  | zero =>
   intro i x hi hx
   rw [List.drop_eq_nil_of_le (by omega : K.length ≤ i)]
   have hk := kids C.length 0 (x ++ one C.length) (by omega) (by rw [app_size, one_size]; omega)
   rw [List.drop_zero] at hk
   have e : pairsP x [] (V.drop i) = x := by rw [pairsP.eq_def]
   rw [e]
   refine Ev.step (f := fun k => spec_l6Bytes.l1 k (x ++ one C.length) C (C.length : Int) ((0 : Nat) : Int)) (fun k => ?_) hk
   simp only [spec_l6Bytes.l0, Option.bind_some]
   rw [if_neg (by omega), if_pos (by rw [show strOfNums [(C.length : Int) % 256] = one C.length from rfl, one_size]; omega)]
   rfl
  | succ d ih =>
   intro i x hi hx
   have hlt : i < K.length := by omega
   have hlt1 : i < V.length := by omega
   have ks := h3 _ (List.getElem_mem hlt)
   have vs := h4 _ (List.getElem_mem hlt1)
   rw [List.drop_eq_getElem_cons hlt, List.drop_eq_getElem_cons hlt1, pairsP]
   have hh := ih (i + 1) (x ++ (((one K[i].size ++ K[i]) ++ one V[i].size) ++ V[i])) (by omega) (by simp only [app_size, one_size]; omega)
   refine Ev.step (f := fun k => spec_l6Bytes.l0 k (x ++ (((one K[i].size ++ K[i]) ++ one V[i].size) ++ V[i])) K (K.length : Int) ((i + 1 : Nat) : Int) K V C g) (fun k => ?_) hh
   simp only [spec_l6Bytes.l0, Option.bind_some]
   rw [rdOf_at _ _ _ hlt, rdOf_at _ _ _ hlt1]
   rw [show strOfNums [(K[i].size : Int) % 256] = one K[i].size from rfl, show strOfNums [(V[i].size : Int) % 256] = one V[i].size from rfl]
   rw [if_pos (by omega), if_pos (by omega), if_pos (by omega), if_pos (by rw [one_size]; omega), if_pos (by omega), if_pos (by simp only [app_size, one_size]; omega), if_pos (by simp only [app_size, one_size]; omega), if_pos (by simp only [app_size, one_size]; omega), w64 (x := (i : Int) + 1) (by omega) (by omega)]
   rfl
 have := pairs K.length 0 (one K.length) (by omega) (by rw [one_size]; omega)
 rw [List.drop_zero, List.drop_zero] at this
 exact this
theorem bytes_le {K V C : List ByteArray} (h : Pg K V C) : (kidsP (pairsP (one K.length) K V ++ one C.length) C).size ≤ 1000 := by
 obtain ⟨h1, h2, h3, h4, h5, h6⟩ := h
 rw [kidsP_size _ _ h6, app_size, one_size]
 have := pairsP_size K V (one K.length) h3 h4
 rw [one_size] at this
 omega
theorem digestS (K V C : List ByteArray) (g : Int) (h : Pg K V C) : Ev (fun k => spec_l6Digest.f k K V C g) (digP K V C) := by
 unfold spec_l6Digest.f
 exact ev_bind (bytesS K V C g h) (ev_bind (digS 103 k103 _ (by have := bytes_le h; omega)) (Ev.now _))
theorem digestI (K V C : List ByteArray) (g : Int) (h : Pg K V C) : Ev (fun k => impl_Shown_digest.f k K V C g) (digP K V C) := by
 unfold impl_Shown_digest.f
 exact ev_bind (Ev.congr (fun k => bytes_eq k K V C g) (bytesS K V C g h)) (ev_bind (digI 103 k103 _ (by have := bytes_le h; omega)) (Ev.now _))
theorem mem_wvK_key (s : ByteArray) : ∀ (l : List T) (K : List ByteArray), s ∈ K → s ∈ wvK l K := by
 intro l
 induction l with
 | nil => intro K h; rw [wvK_nil]; exact h
 | cons t l ih =>
  intro K h
  cases K with
  | nil => cases h
  | cons k K =>
   rw [wvK_mid]
   rcases List.mem_cons.1 h with rfl | h
   ·exact List.mem_append_right _ List.mem_cons_self
   ·exact List.mem_append_right _ (List.mem_cons_of_mem _ (ih K h))
theorem mem_wvV_key (s : ByteArray) : ∀ (l : List T) (K : List ByteArray), s ∈ K → s ∈ wvV l K := by
 intro l
 induction l with
 | nil => intro K h; rw [wvV_nil]; exact h
 | cons t l ih =>
  intro K h
  cases K with
  | nil => cases h
  | cons k K =>
   rw [wvV_mid]
   rcases List.mem_cons.1 h with rfl | h
   ·exact List.mem_append_right _ List.mem_cons_self
   ·exact List.mem_append_right _ (List.mem_cons_of_mem _ (ih K h))
theorem mem_wvK_kid (s : ByteArray) (t : T) (hs : s ∈ keysT t) : ∀ (l : List T) (K : List ByteArray), t ∈ l → s ∈ wvK l K := by
 intro l
 induction l with
 | nil => intro K h; cases h
 | cons u l ih =>
  intro K h
  cases K with
  | nil =>
   rw [wvK]
   rcases List.mem_cons.1 h with rfl | h
   ·exact List.mem_append_left _ hs
   ·exact List.mem_append_right _ (ih [] h)
  | cons k K =>
   rw [wvK_mid]
   rcases List.mem_cons.1 h with rfl | h
   ·exact List.mem_append_left _ hs
   ·exact List.mem_append_right _ (List.mem_cons_of_mem _ (ih K h))
theorem mem_wvV_kid (s : ByteArray) (t : T) (hs : s ∈ valsT t) : ∀ (l : List T) (K : List ByteArray), t ∈ l → s ∈ wvV l K := by
 intro l
 induction l with
 | nil => intro K h; cases h
 | cons u l ih =>
  intro K h
  cases K with
  | nil =>
   rw [wvV]
   rcases List.mem_cons.1 h with rfl | h
   ·exact List.mem_append_left _ hs
   ·exact List.mem_append_right _ (ih [] h)
  | cons k K =>
   rw [wvV_mid]
   rcases List.mem_cons.1 h with rfl | h
   ·exact List.mem_append_left _ hs
   ·exact List.mem_append_right _ (List.mem_cons_of_mem _ (ih K h))
def smT (t : T) : Prop := (∀ s ∈ keysT t, s.size ≤ 12) ∧ ∀ s ∈ valsT t, s.size ≤ 12
theorem smT_kid {t u : T} (h : smT t) (hu : u ∈ t.f2) : smT u := by
 unfold smT at h
 rw [keysT_eq, valsT_eq] at h
 exact ⟨fun s hs => h.1 s (mem_wvK_kid s u hs _ _ hu), fun s hs => h.2 s (mem_wvV_kid s u hs _ _ hu)⟩
theorem digT_size (t : T) : (digT t).size = 4 := by rw [digT_eq]; exact dig_size _ _
theorem pg_of (t : T) (hok : okT t) (hs : smT t) : Pg t.f0 t.f1 (t.f2.map digT) := by
 obtain ⟨h1, h2, h3, h4⟩ := (okT_eq t).1 hok
 unfold smT at hs
 rw [keysT_eq, valsT_eq] at hs
 refine ⟨h1, h2, fun s h => hs.1 s (mem_wvK_key s _ _ h), fun s h => hs.2 s (mem_wvV_key s _ _ h), by rw [List.length_map]; omega, fun s h => ?_⟩
 obtain ⟨u, _, rfl⟩ := List.mem_map.1 h
 exact digT_size u
theorem shownS (x : S95) : okT (er95 x) → smT (er95 x) → Ev (fun k => spec_l6Shown.f k x) (x.f0, x.f1, x.f2.map (fun y => digT (er95 y)), 0) ∧ Ev (fun k => spec_l6Digest.f k x.f0 x.f1 (x.f2.map (fun y => digT (er95 y))) 0) (digT (er95 x)) := by
 refine ind95 (P := fun x => okT (er95 x) → smT (er95 x) → Ev (fun k => spec_l6Shown.f k x) (x.f0, x.f1, x.f2.map (fun y => digT (er95 y)), 0) ∧ Ev (fun k => spec_l6Digest.f k x.f0 x.f1 (x.f2.map (fun y => digT (er95 y))) 0) (digT (er95 x))) (fun x ih hok hsm => ?_) x
 obtain ⟨e0, e1, e2⟩ := er95_f x
 obtain ⟨h1, h2, h3, h4⟩ := (okT_eq _).1 hok
 have hpg := pg_of _ hok hsm
 rw [e0, e1, e2, List.map_map] at hpg
 rw [e0, e2, List.length_map] at h3
 rw [e0] at h1
 rw [e1, e0] at h2
 have hkid : ∀ y ∈ x.f2, okT (er95 y) ∧ smT (er95 y) := fun y hy => by
  have hm : er95 y ∈ (er95 x).f2 := by rw [e2]; exact List.mem_map_of_mem hy
  exact ⟨h4 _ hm, smT_kid hsm hm⟩
 refine ⟨?_, ?_⟩
 ·have key : ∀ (m i : Nat) (C : List ByteArray), i + m = x.f2.length → C.length = i → Ev (fun k => spec_l6Shown.l0 k x.f2 (x.f2.length : Int) (i : Int) x.f0 x.f1 C 0) (x.f0, x.f1, C ++ (x.f2.drop i).map (fun y => digT (er95 y)), 0) := by
   intro m
   induction m with
   | zero =>
    intro i C hi hC
    rw [List.drop_eq_nil_of_le (by omega), List.map_nil, List.append_nil]
    exact Ev.step (f := fun _ => some _) (fun k => by simp only [spec_l6Shown.l0]; rw [if_neg (by omega)]) (Ev.now _)
   | succ m ihm =>
    intro i C hi hC
    have hi2 : i < x.f2.length := by omega
    have hw : wrap64 ((i : Int) + 1) = ((i + 1 : Nat) : Int) := by rw [w64 (x := (i : Int) + 1) (by omega) (by omega)]; rfl
    have hmi := List.getElem_mem hi2
    obtain ⟨q1, q2⟩ := ih _ hmi (hkid _ hmi).1 (hkid _ hmi).2
    refine Ev.step (f := fun k => _) (fun k => by simp only [spec_l6Shown.l0]; rfl) ?_
    refine ev_pos (by omega) (ev_pos (by omega) (ev_pos (by omega) ?_))
    rw [rdS_at _ _ hi2]
    refine ev_bind q1 (ev_bind q2 (ev_pos (by omega) ?_))
    rw [hw]
    have := ihm (i + 1) (C ++ [digT (er95 x.f2[i])]) (by omega) (by rw [List.length_append, hC]; rfl)
    rw [List.drop_eq_getElem_cons hi2, List.map_cons]
    rw [List.append_assoc] at this
    exact this
  refine Ev.step (f := fun k => _) (fun k => by simp only [spec_l6Shown.f]; rfl) ?_
  refine ev_const rfl (ev_pos (by simp only [List.length_nil]; omega) (ev_const rfl (ev_pos (by simp only [List.length_nil]; omega) ?_)))
  have := key x.f2.length 0 [] (by omega) rfl
  rw [List.drop_zero] at this
  exact this
 ·refine ev_eq (digestS _ _ _ _ hpg) ?_
  rw [digT_eq, e0, e1, e2, List.map_map]
  rfl
theorem shownI (x : S74) : okT (er74 x) → smT (er74 x) → Ev (fun k => impl_node_shown.f k x) (x.f0, x.f1, x.f2.map (fun y => digT (er74 y)), 0) ∧ Ev (fun k => impl_Shown_digest.f k x.f0 x.f1 (x.f2.map (fun y => digT (er74 y))) 0) (digT (er74 x)) := by
 refine ind74 (P := fun x => okT (er74 x) → smT (er74 x) → Ev (fun k => impl_node_shown.f k x) (x.f0, x.f1, x.f2.map (fun y => digT (er74 y)), 0) ∧ Ev (fun k => impl_Shown_digest.f k x.f0 x.f1 (x.f2.map (fun y => digT (er74 y))) 0) (digT (er74 x))) (fun x ih hok hsm => ?_) x
 obtain ⟨e0, e1, e2⟩ := er74_f x
 obtain ⟨h1, h2, h3, h4⟩ := (okT_eq _).1 hok
 have hpg := pg_of _ hok hsm
 rw [e0, e1, e2, List.map_map] at hpg
 rw [e0, e2, List.length_map] at h3
 rw [e0] at h1
 rw [e1, e0] at h2
 have hkid : ∀ y ∈ x.f2, okT (er74 y) ∧ smT (er74 y) := fun y hy => by
  have hm : er74 y ∈ (er74 x).f2 := by rw [e2]; exact List.mem_map_of_mem hy
  exact ⟨h4 _ hm, smT_kid hsm hm⟩
 refine ⟨?_, ?_⟩
 ·have key : ∀ (m i : Nat) (C : List ByteArray), i + m = x.f2.length → C.length = i → Ev (fun k => impl_node_shown.l0 k x.f2 (x.f2.length : Int) (i : Int) x.f0 x.f1 C 0) (x.f0, x.f1, C ++ (x.f2.drop i).map (fun y => digT (er74 y)), 0) := by
   intro m
   induction m with
   | zero =>
    intro i C hi hC
    rw [List.drop_eq_nil_of_le (by omega), List.map_nil, List.append_nil]
    exact Ev.step (f := fun _ => some _) (fun k => by simp only [impl_node_shown.l0]; rw [if_neg (by omega)]) (Ev.now _)
   | succ m ihm =>
    intro i C hi hC
    have hi2 : i < x.f2.length := by omega
    have hw : wrap64 ((i : Int) + 1) = ((i + 1 : Nat) : Int) := by rw [w64 (x := (i : Int) + 1) (by omega) (by omega)]; rfl
    have hmi := List.getElem_mem hi2
    obtain ⟨q1, q2⟩ := ih _ hmi (hkid _ hmi).1 (hkid _ hmi).2
    refine Ev.step (f := fun k => _) (fun k => by simp only [impl_node_shown.l0]; rfl) ?_
    refine ev_pos (by omega) (ev_pos (by omega) (ev_pos (by omega) ?_))
    rw [rdI_at _ _ hi2]
    refine ev_bind q1 (ev_bind q2 (ev_pos (by omega) ?_))
    rw [hw]
    have := ihm (i + 1) (C ++ [digT (er74 x.f2[i])]) (by omega) (by rw [List.length_append, hC]; rfl)
    rw [List.drop_eq_getElem_cons hi2, List.map_cons]
    rw [List.append_assoc] at this
    exact this
  have hcl : ∀ K : List ByteArray, K.length ≤ 4 → slices_Clone_string_string.f K = some K := fun K hK => by
   unfold slices_Clone_string_string.f; rw [Option.bind_some, if_pos (by simp only [List.length_nil]; omega), List.nil_append]
  refine Ev.step (f := fun k => _) (fun k => by simp only [impl_node_shown.f]; rfl) ?_
  refine ev_const (hcl _ h1) (ev_const (hcl _ (by omega)) ?_)
  have := key x.f2.length 0 [] (by omega) rfl
  rw [List.drop_zero] at this
  exact this
 ·refine ev_eq (digestI _ _ _ _ hpg) ?_
  rw [digT_eq, e0, e1, e2, List.map_map]
  rfl
end Go.Proofs.Ytnplghcbdaiogaa.QQ
end
section
namespace Go.Proofs.Ytnplghcbdaiogaa.QZ
open Go.RowKit Go.Proofs.YtnplghcbdaiogaaW.PrintWords Go.Proofs.YtnplghcbdaiogaaW.PrintLast Go.Proofs.YtnplghcbdaiogaaW.PrintMore Go.Proofs.Ytnplghcbdaiogaa.PB Go.Proofs.Ytnplghcbdaiogaa.PD Go.Proofs.Ytnplghcbdaiogaa.PK Go.Proofs.Ytnplghcbdaiogaa.PL Go.Proofs.Ytnplghcbdaiogaa.PT Go.Proofs.Ytnplghcbdaiogaa.PU Go.Proofs.Ytnplghcbdaiogaa.PG Go.Proofs.Ytnplghcbdaiogaa.PW Go.Proofs.Ytnplghcbdaiogaa.QW Go.Proofs.Ytnplghcbdaiogaa.PA Go.Proofs.Ytnplghcbdaiogaa.QP Go.Proofs.Ytnplghcbdaiogaa.QO Go.Proofs.Ytnplghcbdaiogaa.QQ
set_option linter.unusedVariables false
def isK (s : ByteArray) : Bool := decide (1 ≤ (s.size : Int) ∧ (s.size : Int) ≤ 12)
def isV (s : ByteArray) : Bool := decide ((s.size : Int) ≤ 12)
def risesB : List ByteArray → Bool
 | a :: b :: l => Op.bytesLess a.toList b.toList && risesB (b :: l)
 | _ => true
def pairsB (K V : List ByteArray) : Bool := decide (K.length ≤ 40) && (K.all isK && (risesB K && V.all isV))
def goodB (t : T) : Bool := pairsB (keysT t) (valsT t) && ((levT t).isSome && (t.f2.isEmpty || decide (0 < t.f0.length)))
def treeG (ps : List S97) (n : Nat) : Option T := match readF ps n 0 with
 | none => none
 | some (t, nx) => if nx = ps.length ∧ goodB t = true then some t else none
def smlB (ps : List S97) : Bool := decide (ps.length < 1099511627776) && ps.all fun p => decide (p.f0.length < 1099511627776 ∧ p.f1.length < 1099511627776 ∧ p.f2.length < 1099511627776)
theorem smlB_iff (ps : List S97) : smlB ps = true ↔ Sml ps := by
 unfold smlB Sml
 rw [Bool.and_eq_true, decide_eq_true_iff, List.all_eq_true]
 constructor
 ·rintro ⟨h1, h2⟩
  exact ⟨h1, fun p hp => of_decide_eq_true (h2 p hp)⟩
 ·rintro ⟨h1, h2⟩
  exact ⟨h1, fun p hp => decide_eq_true (h2 p hp)⟩
theorem rises_iff : ∀ K : List ByteArray, risesB K = true ↔ ∀ i, i < K.length → risesAt K i := by
 intro K
 induction K with
 | nil => exact ⟨fun _ i h => absurd h (Nat.not_lt_zero i), fun _ => by rw [risesB.eq_def]⟩
 | cons a K ih =>
  cases K with
  | nil => exact ⟨fun _ i h hp => by simp only [List.length_cons, List.length_nil] at h; omega, fun _ => by rw [risesB.eq_def]⟩
  | cons b l =>
   rw [risesB, Bool.and_eq_true, ih]
   constructor
   ·rintro ⟨h1, h2⟩ i hi hp
    match i, hp with
    | 1, _ => exact h1
    | i + 2, _ =>
     have := h2 (i + 1) (by simp only [List.length_cons] at hi ⊢; omega) (by omega)
     exact this
   ·intro h
    refine ⟨h 1 (by simp only [List.length_cons]; omega) (by omega), fun i hi hp => ?_⟩
    have := h (i + 1) (by simp only [List.length_cons] at hi ⊢; omega) (by omega)
    match i, hp with
    | i + 1, _ => exact this
theorem pairs_iff (K V : List ByteArray) : pairsB K V = true ↔ K.length ≤ 40 ∧ (∀ i, i < K.length → keyB (tx K i) = true ∧ risesAt K i) ∧ V.all valB = true := by
 unfold pairsB
 rw [Bool.and_eq_true, Bool.and_eq_true, Bool.and_eq_true, decide_eq_true_iff, rises_iff]
 constructor
 ·rintro ⟨h1, h2, h3, h4⟩
  exact ⟨h1, fun i hi => ⟨(all_at K keyB).1 h2 i hi, h3 i hi⟩, h4⟩
 ·rintro ⟨h1, h2, h3⟩
  exact ⟨h1, (all_at K keyB).2 (fun i hi => (h2 i hi).1), fun i hi => (h2 i hi).2, h3⟩
theorem pairs_two (K V : List ByteArray) (hl : V.length = K.length) : pairsB K V = ch (K.length ≤ 40 ∧ V.length = K.length ∧ (∀ i, i < K.length → keyB (tx K i) = true ∧ risesAt K i) ∧ V.all valB = true) := by
 by_cases h : pairsB K V = true
 ·obtain ⟨h1, h2, h3⟩ := (pairs_iff K V).1 h
  rw [h, ch_yes ⟨h1, hl, h2, h3⟩]
 ·rw [Bool.eq_false_iff.2 h, ch_no (fun ⟨h1, _, h2, h3⟩ => h ((pairs_iff K V).2 ⟨h1, h2, h3⟩))]
theorem pairs_sm (t : T) (h : pairsB (keysT t) (valsT t) = true) : smT t := by
 obtain ⟨h1, h2, h3⟩ := (pairs_iff _ _).1 h
 unfold pairsB at h
 rw [Bool.and_eq_true, Bool.and_eq_true, Bool.and_eq_true] at h
 refine ⟨fun s hs => ?_, fun s hs => ?_⟩
 ·have := of_decide_eq_true (List.all_eq_true.1 h.2.1 s hs)
  omega
 ·have := of_decide_eq_true (List.all_eq_true.1 h.2.2.2 s hs)
  omega
theorem readK_imp {rd rd' : Nat → Option (T × Nat)} (h : ∀ a r, rd a = some r → rd' a = some r) : ∀ (ks : List Int) (a : Nat) (r : List T × Nat), readK rd ks a = some r → readK rd' ks a = some r := by
 intro ks
 induction ks with
 | nil => intro a r hr; exact hr
 | cons k ks ih =>
  intro a r hr
  rw [readK] at hr ⊢
  by_cases c : k = (a : Int)
  ·rw [if_pos c] at hr ⊢
   cases h1 : rd a with
   | none => rw [h1] at hr; cases hr
   | some te =>
    obtain ⟨t, e⟩ := te
    rw [h1] at hr
    rw [h a _ h1]
    dsimp only at hr ⊢
    cases h2 : readK rd ks e with
    | none => rw [h2] at hr; cases hr
    | some le =>
     obtain ⟨l, e'⟩ := le
     rw [h2] at hr
     rw [ih e _ h2]
     exact hr
  ·rw [if_neg c] at hr; cases hr
theorem readF_mono (ps : List S97) : ∀ (n a : Nat) (r : T × Nat), readF ps n a = some r → readF ps (n + 1) a = some r := by
 intro n
 induction n with
 | zero => intro a r h; cases h
 | succ n ih =>
  intro a r h
  rw [readF] at h ⊢
  cases hp : ps[a]? with
  | none => rw [hp] at h; cases h
  | some p =>
   rw [hp] at h
   dsimp only at h ⊢
   by_cases c : okP p
   ·rw [if_pos c] at h ⊢
    cases hk : readK (readF ps n) p.f2 (a + 1) with
    | none => rw [hk] at h; cases h
    | some le =>
     rw [hk] at h
     rw [readK_imp ih _ _ _ hk]
     exact h
   ·rw [if_neg c] at h; cases h
theorem readF_up (ps : List S97) (n m a : Nat) (r : T × Nat) (hm : n ≤ m) (h : readF ps n a = some r) : readF ps m a = some r := by
 induction m with
 | zero => rw [show n = 0 by omega] at h; exact h
 | succ m ih =>
  by_cases c : n = m + 1
  ·rw [← c]; exact h
  ·exact readF_mono ps m a r (ih (by omega))
theorem readK_suff {rd rd' : Nat → Option (T × Nat)} {m : Nat} (hle : ∀ a t e, rd a = some (t, e) → a < e ∧ e ≤ m) : ∀ (ks : List Int) (a b : Nat), b ≤ a → a ≤ m → (∀ x, b ≤ x → x ≤ m → rd x = rd' x) → readK rd ks a = readK rd' ks a := by
 intro ks
 induction ks with
 | nil => intro a b _ _ _; rfl
 | cons k ks ih =>
  intro a b hb ha h
  rw [readK, readK]
  by_cases c : k = (a : Int)
  ·rw [if_pos c, if_pos c, ← h a hb ha]
   cases h1 : rd a with
   | none => rfl
   | some te =>
    obtain ⟨t, e⟩ := te
    have := hle a t e h1
    dsimp only
    rw [ih e b (by omega) (by omega) h]
  ·rw [if_neg c, if_neg c]
theorem readF_suff (ps : List S97) : ∀ (n a : Nat), a ≤ ps.length → ps.length ≤ a + n → readF ps (n + 1) a = readF ps n a := by
 intro n
 induction n with
 | zero =>
  intro a h0 h1
  have e : readF ps (0 + 1) a = none := by rw [readF, List.getElem?_eq_none (by omega)]
  rw [e]; rfl
 | succ n ih =>
  intro a h0 h1
  rw [readF, readF]
  cases hp : ps[a]? with
  | none => rfl
  | some p =>
   dsimp only
   have ha : a < ps.length := by
    rcases Nat.lt_or_ge a ps.length with h2 | h2
    ·exact h2
    ·rw [List.getElem?_eq_none h2] at hp; cases hp
   rw [readK_suff (rd := readF ps (n + 1)) (rd' := readF ps n) (readF_le ps (n + 1)) p.f2 (a + 1) (a + 1) (Nat.le_refl _) (by omega) (fun x h2 h3 => ih x h3 (by omega))]
theorem readF_far (ps : List S97) (m : Nat) : readF ps (ps.length + m) 0 = readF ps ps.length 0 := by
 induction m with
 | zero => rfl
 | succ m ih => rw [← ih]; exact readF_suff ps (ps.length + m) 0 (by omega) (by omega)
theorem readF_any (ps : List S97) (n : Nat) (r : T × Nat) (h : readF ps n 0 = some r) : readF ps ps.length 0 = some r := by
 rw [← readF_far ps n]
 exact readF_up ps n _ 0 r (by omega) h
theorem readK_lev {rd rd' : Nat → Option (T × Nat)} {d : Nat} (h : ∀ a t e, rd a = some (t, e) → levT t = some d → rd' a = some (t, e)) : ∀ (ks : List Int) (a : Nat) (l : List T) (e : Nat), readK rd ks a = some (l, e) → (∀ t ∈ l, levT t = some d) → readK rd' ks a = some (l, e) := by
 intro ks
 induction ks with
 | nil => intro a l e hr _; exact hr
 | cons k ks ih =>
  intro a l e hr hl
  rw [readK] at hr ⊢
  by_cases c : k = (a : Int)
  ·rw [if_pos c] at hr ⊢
   cases h1 : rd a with
   | none => rw [h1] at hr; cases hr
   | some te =>
    obtain ⟨t, e1⟩ := te
    rw [h1] at hr
    dsimp only at hr
    cases h2 : readK rd ks e1 with
    | none => rw [h2] at hr; cases hr
    | some le =>
     obtain ⟨l1, e'⟩ := le
     rw [h2] at hr
     simp only [Option.some.injEq, Prod.mk.injEq] at hr
     obtain ⟨rfl, rfl⟩ := hr
     rw [h a t e1 h1 (hl t List.mem_cons_self)]
     dsimp only
     rw [ih e1 l1 e' h2 (fun u hu => hl u (List.mem_cons_of_mem _ hu))]
  ·rw [if_neg c] at hr; cases hr
theorem lev_kids {t : T} {d : Nat} (h : levT t = some d) : t.f2 = [] ∧ d = 1 ∨ ∃ e, d = e + 1 ∧ t.f2 ≠ [] ∧ ∀ u ∈ t.f2, levT u = some e ∧ 2 ≤ u.f0.length := by
 rw [levT_eq] at h
 cases hl : t.f2 with
 | nil => rw [hl, levH] at h; injection h with h; exact .inl ⟨rfl, h.symm⟩
 | cons a l =>
  rw [hl, levH_eq] at h
  cases ha : levT a with
  | none => rw [ha] at h; cases h
  | some e =>
   rw [ha] at h
   dsimp only at h
   by_cases c : levL e (a :: l) = true
   ·rw [if_pos c] at h
    injection h with h
    exact .inr ⟨e, h.symm, by simp, (levL_iff e _).1 c⟩
   ·rw [if_neg c] at h; cases h
theorem readF_lev (ps : List S97) : ∀ (n a : Nat) (t : T) (e d : Nat), readF ps n a = some (t, e) → levT t = some d → readF ps d a = some (t, e) := by
 intro n
 induction n with
 | zero => intro a t e d h _; cases h
 | succ n ih =>
  intro a t e d h hd
  obtain ⟨p, l, hp, hok, hk, rfl⟩ := readF_open ps n a t e h
  rcases lev_kids hd with ⟨h1, rfl⟩ | ⟨d', rfl, h1, h2⟩
  ·have hl : p.f2 = [] := by
    have := readK_len _ _ _ _ hk
    rw [show l = [] from h1] at this
    exact List.eq_nil_of_length_eq_zero this.symm
   rw [readF, hp]
   dsimp only
   rw [if_pos hok, hl, readK]
   rw [hl, readK] at hk
   simp only [Option.some.injEq, Prod.mk.injEq] at hk
   rw [hk.1, hk.2]
  ·rw [readF, hp]
   dsimp only
   rw [if_pos hok, readK_lev (rd' := readF ps d') (fun a t e q1 q2 => ih a t e d' q1 q2) _ _ _ _ hk (fun u hu => (h2 u hu).1)]
theorem wvK_sum : ∀ (l : List T) (K : List ByteArray), (wvK l K).length = (l.map fun t => (keysT t).length).sum + K.length := by
 intro l
 induction l with
 | nil => intro K; rw [wvK_nil]; simp
 | cons t l ih =>
  intro K
  cases K with
  | nil => rw [wvK, List.length_append, ih, List.map_cons, List.sum_cons]; simp
  | cons k K => rw [wvK, List.length_append, List.length_cons, ih, List.map_cons, List.sum_cons, List.length_cons]; omega
theorem sum_ge (l : List T) (b : Nat) (h : ∀ t ∈ l, b ≤ (keysT t).length) : l.length * b ≤ (l.map fun t => (keysT t).length).sum := by
 induction l with
 | nil => simp
 | cons a l ih =>
  have h1 := h a List.mem_cons_self
  have h2 := ih (fun t ht => h t (List.mem_cons_of_mem _ ht))
  rw [List.length_cons, List.map_cons, List.sum_cons, Nat.succ_mul]
  omega
theorem many : ∀ (d : Nat) (t : T), okT t → levT t = some d → 2 ≤ t.f0.length → 5 * d ≤ (keysT t).length + 3 := by
 intro d
 induction d with
 | zero => intro t _ _ _; omega
 | succ d ih =>
  intro t hok hl h2
  obtain ⟨o1, o2, o3, o4⟩ := (okT_eq t).1 hok
  rw [keysT_eq, wvK_sum]
  rcases lev_kids hl with ⟨h1, h3⟩ | ⟨e, h1, h3, h4⟩
  ·rw [h1]; simp; omega
  ·obtain rfl : d = e := by omega
   have hn : t.f2.length ≠ 0 := fun h => h3 (List.eq_nil_of_length_eq_zero h)
   have := sum_ge t.f2 (5 * d - 3) (fun u hu => by have := ih u (o4 u hu) (h4 u hu).1 (h4 u hu).2; omega)
   have h5 : 3 ≤ t.f2.length := by omega
   have h6 : 3 * (5 * d - 3) ≤ t.f2.length * (5 * d - 3) := Nat.mul_le_mul_right _ h5
   rcases Nat.eq_zero_or_pos d with hz | hz
   ·subst hz; omega
   ·omega
theorem good_deep {t : T} {d : Nat} (hok : okT t) (hg : goodB t = true) (hd : levT t = some d) : d ≤ 10 := by
 unfold goodB at hg
 rw [Bool.and_eq_true, Bool.and_eq_true] at hg
 obtain ⟨hp, _, hr⟩ := hg
 obtain ⟨h40, _⟩ := (pairs_iff _ _).1 hp
 rw [keysT_eq, wvK_sum] at h40
 obtain ⟨o1, o2, o3, o4⟩ := (okT_eq t).1 hok
 rcases lev_kids hd with ⟨h1, h3⟩ | ⟨e, h1, h3, h4⟩
 ·omega
 ·have hn : t.f2.length ≠ 0 := fun h => h3 (List.eq_nil_of_length_eq_zero h)
  have he : t.f2.isEmpty = false := by cases hq : t.f2 with | nil => exact absurd hq h3 | cons a l => rfl
  rw [he, Bool.false_or] at hr
  have hr := of_decide_eq_true hr
  have := sum_ge t.f2 (5 * e - 3) (fun u hu => by have := many e u (o4 u hu) (h4 u hu).1 (h4 u hu).2; omega)
  have h5 : 2 ≤ t.f2.length := by omega
  have h6 : 2 * (5 * e - 3) ≤ t.f2.length * (5 * e - 3) := Nat.mul_le_mul_right _ h5
  omega
theorem treeG_len (ps : List S97) : treeG ps ps.length = treeG ps 10 := by
 unfold treeG
 cases h10 : readF ps 10 0 with
 | some r => rw [readF_any ps 10 r h10]
 | none =>
  cases hl : readF ps ps.length 0 with
  | none => rfl
  | some r =>
   obtain ⟨t, nx⟩ := r
   dsimp only
   rw [if_neg]
   rintro ⟨h1, h2⟩
   have hok := (readF_ok ps _ _ _ _ hl).1
   have h3 := h2
   unfold goodB at h3
   rw [Bool.and_eq_true, Bool.and_eq_true] at h3
   obtain ⟨d, hd⟩ := Option.isSome_iff_exists.1 h3.2.1
   have := readF_up ps d 10 0 _ (good_deep hok h2 hd) (readF_lev ps _ _ _ _ d hl hd)
   rw [h10] at this
   cases this
end Go.Proofs.Ytnplghcbdaiogaa.QZ
end
section
namespace Go.Proofs.Ytnplghcbdaiogaa.Pure
open Go.RowKit Go.Proofs.YtnplghcbdaiogaaW.PrintWords Go.Proofs.YtnplghcbdaiogaaW.PrintLast Go.Proofs.YtnplghcbdaiogaaW.PrintMore Go.Proofs.Ytnplghcbdaiogaa.PB Go.Proofs.Ytnplghcbdaiogaa.PL Go.Proofs.Ytnplghcbdaiogaa.PG Go.Proofs.Ytnplghcbdaiogaa.PY Go.Proofs.Ytnplghcbdaiogaa.QW Go.Proofs.Ytnplghcbdaiogaa.PA
set_option linter.unusedVariables false
theorem rdPL_at (l : List S87) (i : Nat) (h : i < l.length) : rd_T87 l (i : Int) = l[i] := by
 unfold rd_T87; rw [Int.toNat_natCast, List.getD_eq_getElem?_getD, List.getElem?_eq_getElem h]; rfl
theorem rdPI_at (l : List S97) (i : Nat) (h : i < l.length) : rd_T97 l (i : Int) = l[i] := by
 unfold rd_T97; rw [Int.toNat_natCast, List.getD_eq_getElem?_getD, List.getElem?_eq_getElem h]; rfl
theorem rdN_at (l : List Int) (i : Nat) (h : i < l.length) : rd l (i : Int) = l[i] := by
 unfold rd; rw [Int.toNat_natCast, List.getD_eq_getElem?_getD, List.getElem?_eq_getElem h]; rfl
theorem toN (l : List Int) (hl : l.length ≤ 2000000) : Ev (fun k => laws_toIntS.f k l) l := by
 have key : ∀ (d i : Nat), i + d = l.length → Ev (fun k => laws_toIntS.l0 k l (filled (fun x => x) 0 l i) (i : Int)) l := by
  intro d
  induction d with
  | zero =>
   intro i hi
   have hi' : i = l.length := by omega
   subst hi'
   refine Ev.step (f := fun _ => some l) (fun k => ?_) (Ev.now _)
   simp only [laws_toIntS.l0]
   rw [if_neg (by omega), filled_all]
   simp
  | succ d ih =>
   intro i hi
   have hlt : i < l.length := by omega
   refine Ev.step (f := fun k => laws_toIntS.l0 k l (filled (fun x => x) 0 l (i + 1)) ((i + 1 : Nat) : Int)) (fun k => ?_) (ih (i + 1) (by omega))
   simp only [laws_toIntS.l0]
   rw [if_pos (by omega), if_pos (by omega), if_pos (by rw [filled_length _ _ _ _ (by omega)]; omega), rdN_at _ _ hlt, w64 (x := (i : Int) + 1) (by omega) (by omega)]
   rw [show ((i : Int)).toNat = i from by omega, filled_set (fun x => x) _ l i hlt]
   rfl
 refine Ev.congr (f := fun k => laws_toIntS.l0 k l (filled (fun x => x) 0 l 0) ((0 : Nat) : Int)) (fun k => ?_) (key l.length 0 (by omega))
 simp only [laws_toIntS.f]
 rw [if_pos (by omega), if_pos (by omega), filled_zero]
 rfl
theorem eqN (l : List Int) (hl : l.length ≤ 2000000) : Ev (fun k => laws_eqIntS.f k l l) true := by
 have key : ∀ (d i : Nat), i + d = l.length → Ev (fun k => laws_eqIntS.l0 k l l (i : Int)) true := by
  intro d
  induction d with
  | zero =>
   intro i hi
   refine Ev.step (f := fun _ => some true) (fun k => ?_) (Ev.now _)
   simp only [laws_eqIntS.l0]
   rw [if_neg (by omega)]
  | succ d ih =>
   intro i hi
   refine Ev.step (f := fun k => laws_eqIntS.l0 k l l ((i + 1 : Nat) : Int)) (fun k => ?_) (ih (i + 1) (by omega))
   simp only [laws_eqIntS.l0]
   rw [if_pos (by omega), if_pos (by omega), if_pos (by omega), if_pos trivial, w64 (x := (i : Int) + 1) (by omega) (by omega)]
   rfl
 refine Ev.congr (f := fun k => laws_eqIntS.l0 k l l ((0 : Nat) : Int)) (fun k => ?_) (key l.length 0 (by omega))
 simp only [laws_eqIntS.f]
 rw [if_pos trivial]
 rfl
theorem szN (l : List Int) (hl : l.length ≤ 9223372036854775807) (R : Int) (h0 : 0 ≤ R) (h1 : R ≤ 1000000000) : laws_szIntS.f l R = some (left R l.length) := by
 unfold laws_szIntS.f left
 by_cases hc : (l.length : Int) ≤ R
 ·rw [w64 (x := R - (l.length : Int)) (by omega) (by omega), if_neg (by omega), if_pos hc]
 ·rw [w64 (x := R - (l.length : Int)) (by omega) (by omega), if_pos (by omega), if_neg hc]
def FitP (x : S87) : Prop := Fit x.f0 ∧ Fit x.f1 ∧ x.f2.length ≤ 9223372036854775807
def wtP (x : S87) : Nat := total x.f0 + (total x.f1 + x.f2.length)
theorem szPage (a b : List ByteArray) (c : List Int) (ha : Fit a) (hb : Fit b) (hc : c.length ≤ 9223372036854775807) (R : Int) (h0 : 0 ≤ R) (h1 : R ≤ 1000000000) : Ev (fun k => laws_szPage.f k a b c R) (left R (total a + (total b + c.length))) := by
 unfold laws_szPage.f
 refine ev_bind (szS a ha R h0 h1) ?_
 by_cases c1 : (total a : Int) ≤ R
 ·rw [if_pos c1]
  refine ev_neg (by omega) (ev_bind (szS b hb _ (by omega) (by omega)) ?_)
  by_cases c2 : (total b : Int) ≤ R - total a
  ·rw [if_pos c2]
   refine ev_neg (by omega) (ev_const (szN c hc _ (by omega) (by omega)) ?_)
   by_cases c3 : (c.length : Int) ≤ R - total a - total b
   ·rw [left_yes c3]
    refine ev_neg (by omega) (ev_eq (Ev.now _) ?_)
    rw [left_yes (by omega)]; omega
   ·rw [left_no c3]
    refine ev_pos (by omega) (ev_eq (Ev.now _) ?_)
    rw [left_no (by omega)]
  ·rw [if_neg c2]
   refine ev_pos (by omega) (ev_eq (Ev.now _) ?_)
   rw [left_no (by omega)]
 ·rw [if_neg c1]
  refine ev_pos (by omega) (ev_eq (Ev.now _) ?_)
  rw [left_no (by omega)]
theorem szPages (l : List S87) (hf : l.length ≤ 9223372036854775807 ∧ ∀ x ∈ l, FitP x) (R : Int) (h0 : 0 ≤ R) (h1 : R ≤ 1000000000) : Ev (fun k => laws_szPageS.f k l R) (left R (l.length + wsum wtP l)) :=
 sz_list2 wtP l rd_T87 (fun i h => rdPL_at l i h) laws_szPageS.l0 laws_szPageS.f (fun k x R => laws_szPage.f k x.f0 x.f1 x.f2 R) (fun k R i => rfl) (fun k R => rfl)
  (fun x hx R h0 h1 => szPage _ _ _ (hf.2 x hx).1 (hf.2 x hx).2.1 (hf.2 x hx).2.2 R h0 h1) hf.1 R h0 h1
def convP (x : S87) : S97 := ⟨x.f0, x.f1, x.f2⟩
def SmP (a b : List ByteArray) (c : List Int) : Prop := a.length ≤ 2000000 ∧ b.length ≤ 2000000 ∧ c.length ≤ 2000000
theorem toPage (a b : List ByteArray) (c : List Int) (h : SmP a b c) : Ev (fun k => laws_toPage.f k a b c) (a, b, c) :=
 ev_bind (toS a h.1) (ev_bind (toS b h.2.1) (ev_bind (toN c h.2.2) (Ev.now _)))
theorem eqPage (a b : List ByteArray) (c : List Int) (h : SmP a b c) : Ev (fun k => laws_eqPage.f k a b c a b c) true :=
 ev_bind (eqS_yes a h.1) (ev_pos rfl (ev_bind (eqS_yes b h.2.1) (ev_pos rfl (ev_bind (eqN c h.2.2) (ev_pos rfl (Ev.now _))))))
theorem small_pages (l : List S87) (h : l.length + wsum wtP l ≤ 1048576) : ∀ x ∈ l, SmP x.f0 x.f1 x.f2 := by
 intro x hx
 have h1 := wsum_mem wtP l x hx
 have h2 : wtP x = (x.f0.length + szL x.f0) + ((x.f1.length + szL x.f1) + x.f2.length) := rfl
 exact ⟨by omega, by omega, by omega⟩
theorem toPages (l : List S87) (hl : l.length ≤ 2000000) (hs : ∀ x ∈ l, SmP x.f0 x.f1 x.f2) : Ev (fun k => laws_toPageS.f k l) (l.map convP) := by
 refine Ev.congr (f := fun k => laws_toPageS.l0 k l (List.replicate l.length z97) 0) (fun k => ?_) (to_list convP z97 l laws_toPageS.l0 hl (fun k out => ?_) (fun i h out ho r hr => ?_))
 ·simp only [laws_toPageS.f]
  rw [if_pos (by omega), if_pos (by omega)]
  rfl
 ·simp only [laws_toPageS.l0]; rw [if_neg (by omega)]
 ·refine Ev.step (f := fun k => (laws_toPage.f k l[i].f0 l[i].f1 l[i].f2).bind fun b => laws_toPageS.l0 k l (out.set i (⟨b.1, b.2.1, b.2.2⟩ : S97)) ((i + 1 : Nat) : Int)) (fun k => ?_) (ev_bind (toPage _ _ _ (hs _ (List.getElem_mem h))) hr)
  simp only [laws_toPageS.l0]
  rw [if_pos (by omega), if_pos (by omega), rdPL_at l i h, w64 (x := (i : Int) + 1) (by omega) (by omega)]
  congr 1
  funext b
  rw [if_pos (by omega)]
  rfl
theorem eqPages (l : List S97) (hl : l.length ≤ 2000000) (hs : ∀ x ∈ l, SmP x.f0 x.f1 x.f2) : Ev (fun k => laws_eqPageS.f k l l) true := by
 refine eq_list l laws_eqPageS.l0 laws_eqPageS.f (fun k => ?_) (fun k => ?_) (fun i h hr => ?_)
 ·simp only [laws_eqPageS.l0]; rw [if_neg (by omega)]
 ·simp only [laws_eqPageS.f]; rw [if_pos trivial]
 ·refine Ev.step (f := fun k => (laws_eqPage.f k l[i].f0 l[i].f1 l[i].f2 l[i].f0 l[i].f1 l[i].f2).bind fun t => if t = true then laws_eqPageS.l0 k l l ((i + 1 : Nat) : Int) else some false) (fun k => ?_) (ev_bind (eqPage _ _ _ (hs _ (List.getElem_mem h))) (ev_pos rfl hr))
  simp only [laws_eqPageS.l0]
  rw [if_pos (by omega), if_pos (by omega), if_pos (by omega), rdPI_at l i h, w64 (x := (i : Int) + 1) (by omega) (by omega)]
  rfl
end Go.Proofs.Ytnplghcbdaiogaa.Pure
end
section
namespace Go.Proofs.Ytnplghcbdaiogaa.RM
open Go.RowKit Go.Proofs.YtnplghcbdaiogaaW.PrintWords Go.Proofs.YtnplghcbdaiogaaW.PrintLast Go.Proofs.YtnplghcbdaiogaaW.PrintMore Go.Proofs.Ytnplghcbdaiogaa.PA Go.Proofs.Ytnplghcbdaiogaa.PB Go.Proofs.Ytnplghcbdaiogaa.PW Go.Proofs.Ytnplghcbdaiogaa.Pure Go.Proofs.Ytnplghcbdaiogaa.RL
attribute [local go_sem] max2_int min2_int max_two min_two max_three min_three max_four min_four
set_option linter.unusedVariables false
set_option linter.unusedSimpArgs false
set_option maxHeartbeats 4000000
set_option maxRecDepth 100000
theorem drawn_below {w w' : World} (h : Drawn0 w w') : Below w.heap.size w w' := by
 obtain ⟨m, rfl⟩ := h
 exact pw_below_drewN (Below.refl _ _) m
theorem kp_facts {n : Nat} {w : World} {x : Pc} {A0 A1 A2 A4 A5 : Option Addr} {c0 c1 c2 c4 c5 : Nat} (h : (kp (n + 1)).K w x [.slice A0 x.K.length c0, .slice A1 x.V.length c1, .slice A2 x.C.length c2, .int .i64 x.g, .slice A4 x.O.length c4, .slice A5 x.L.length c5]) :
  (x.K.length ≤ c0 ∧ Kd.string.C w A0 x.K.length x.K) ∧ (x.V.length ≤ c1 ∧ Kd.string.C w A1 x.V.length x.V) ∧ (x.C.length ≤ c2 ∧ Kd.string.C w A2 x.C.length x.C) ∧ (x.O.length ≤ c4 ∧ (Kd.int .i64).C w A4 x.O.length x.O) ∧ (x.L.length ≤ c5 ∧ (kp n).C w A5 x.L.length x.L) := by
 obtain ⟨A0', c0', A1', c1', A2', c2', A4', c4', A5', c5', e, h0, h1, h2, h4, h5⟩ := h
 simp only [List.cons.injEq, Value.slice.injEq, true_and, and_true] at e
 obtain ⟨⟨rfl, rfl⟩, ⟨rfl, rfl⟩, ⟨rfl, rfl⟩, ⟨rfl, rfl⟩, ⟨rfl, rfl⟩⟩ := e
 exact ⟨h0, h1, h2, h4, h5⟩
def SmP : Nat → Pc → Prop
 | 0, _ => False
 | n + 1, x => x.K.length ≤ 100 ∧ x.V.length ≤ 100 ∧ x.C.length ≤ 100 ∧ x.O.length ≤ 100 ∧ x.L.length ≤ 100 ∧ ∀ y ∈ x.L, SmP n y
theorem rdP_mem {xs : List Pc} {i : Nat} (h : i < xs.length) : rdP xs (i : Int) = xs[i] := by
 unfold rdP; rw [Int.toNat_natCast, List.getD_eq_getElem?_getD, List.getElem?_eq_getElem h]; rfl
def EqS (n : Nat) : Prop := ∀ (xs : List Pc) (A : Option Addr) (c : Nat) (B : Option Addr) (d : Nat) (w : World), (kp n).C w A xs.length xs → xs.length ≤ c → (kp n).C w B xs.length xs → xs.length ≤ d → (xs.length ≤ 100 ∧ ∀ y ∈ xs, SmP n y) → Calls Try.prog 46 #[.slice A xs.length c, .slice B xs.length d] w fun e w' => e = .returned (.bool true) ∧ Below w.heap.size w w'
theorem eqPc {n : Nat} (ih : EqS n) (x : Pc) (w : World) {A0 A1 A2 A4 A5 B0 B1 B2 B4 B5 : Option Addr} {c0 c1 c2 c4 c5 d0 d1 d2 d4 d5 : Nat} (hA : (kp (n + 1)).K w x [.slice A0 x.K.length c0, .slice A1 x.V.length c1, .slice A2 x.C.length c2, .int .i64 x.g, .slice A4 x.O.length c4, .slice A5 x.L.length c5]) (hB : (kp (n + 1)).K w x [.slice B0 x.K.length d0, .slice B1 x.V.length d1, .slice B2 x.C.length d2, .int .i64 x.g, .slice B4 x.O.length d4, .slice B5 x.L.length d5]) (hs : SmP (n + 1) x) :
  Calls Try.prog 19 #[.agg #[.slice A0 x.K.length c0, .slice A1 x.V.length c1, .slice A2 x.C.length c2, .int .i64 x.g, .slice A4 x.O.length c4, .slice A5 x.L.length c5], .agg #[.slice B0 x.K.length d0, .slice B1 x.V.length d1, .slice B2 x.C.length d2, .int .i64 x.g, .slice B4 x.O.length d4, .slice B5 x.L.length d5]] w fun e w' => e = .returned (.bool true) ∧ Below w.heap.size w w' := by
 have hu47 := Try.underlying47
 have hu43 := Try.underlying43
 obtain ⟨a0, a1, a2, a4, a5⟩ := kp_facts hA
 obtain ⟨b0, b1, b2, b4, b5⟩ := kp_facts hB
 obtain ⟨s0, s1, s2, s4, s5⟩ := hs
 obtain ⟨k1, hk1⟩ := Ev.rounds (eqShown x.K x.V x.C x.g (by omega) (by omega) (by omega))
 obtain ⟨k2, hk2⟩ := Ev.rounds (eqN x.O (by omega))
 have E1 := zA hk1
 have E2 := zA hk2
 have HS := zA s5
 have HA0 := zA a0
 have HA1 := zA a1
 have HA2 := zA a2
 have HA4 := zA a4
 have HA5 := zA a5
 have HB0 := zA b0
 have HB1 := zA b1
 have HB2 := zA b2
 have HB4 := zA b4
 have HB5 := zA b5
 have HB := zA (Below.refl w.heap.size w)
 clear hA hB a0 a1 a2 a4 a5 b0 b1 b2 b4 b5 s0 s1 s2 s4 s5 hk1 hk2
 go_enter Try.func19, Try.ntmps19
 go_wp2_with (first | ((with_reducible refine gate_dst (N := 2) rfl ?_); refine box_event ?hg (N := 2) ?hd (cs := #[.slice A0 x.K.length c0, .slice A1 x.V.length c1, .slice A2 x.C.length c2, .int .i64 x.g, .slice A4 x.O.length c4, .slice A5 x.L.length c5]) (t := 47) ?hr ?_; (case hd => rfl); (case hg => rfl); (case hr => first | (go_simp; done) | (go_simp; rfl)); intro g2 hg w2 hbox hb; have n0_ := zA (zAD HB.out hb); clear HB ; have HB := n0_; clear n0_; have BKg2 := zA hbox; clear hb hbox hg) | ((with_reducible refine gate_dst (N := 3) rfl ?_); refine box_event ?hg (N := 3) ?hd (cs := #[.slice B0 x.K.length d0, .slice B1 x.V.length d1, .slice B2 x.C.length d2, .int .i64 x.g, .slice B4 x.O.length d4, .slice B5 x.L.length d5]) (t := 47) ?hr ?_; (case hd => rfl); (case hg => rfl); (case hr => first | (go_simp; done) | (go_simp; rfl)); intro g3 hg w3 hbox hb; have n0_ := zA (zAD HB.out hb); have mBKg2_ := zA (blk_below BKg2.out hb); clear HB BKg2; have HB := n0_; clear n0_; have BKg2 := mBKg2_; clear mBKg2_; have BKg3 := zA hbox; clear hb hbox hg; obtain ⟨hx0, hx1, hx2, hx3, hx4, hx5⟩ := cell6 BKg2.out; obtain ⟨hy0, hy1, hy2, hy3, hy4, hy5⟩ := cell6 BKg3.out) | ((with_reducible refine gate_dst (N := 9) rfl ?_); refine goesL_ (some 9) rfl rfl Try.func37 (by kernel_rfl) rfl #[.agg #[.slice A0 x.K.length c0, .slice A1 x.V.length c1, .slice A2 x.C.length c2, .int .i64 x.g], .agg #[.slice B0 x.K.length d0, .slice B1 x.V.length d1, .slice B2 x.C.length d2, .int .i64 x.g]] rfl (by (try simp only [zAA, zAB, zAC]); first | done | rfl) ?_; refine (laws_eqShown.calls k1 A0 c0 x.K A1 c1 x.V A2 c2 x.C x.g B0 d0 x.K B1 d1 x.V B2 d2 x.C x.g true _ (Kd.C_below HA0.out.2 HB.out) HA0.out.1 (Kd.C_below HA1.out.2 HB.out) HA1.out.1 (Kd.C_below HA2.out.2 HB.out) HA2.out.1 (Kd.C_below HB0.out.2 HB.out) HB0.out.1 (Kd.C_below HB1.out.2 HB.out) HB1.out.1 (Kd.C_below HB2.out.2 HB.out) HB2.out.1 E1.out ⟨rfl⟩).mono ?_; rintro e w9 ⟨rfl, hb⟩; refine ⟨_, rfl, ?_⟩; have n0_ := zA (zAD HB.out hb); have n1_ := zA (blk_below BKg2.out hb); have n2_ := zA (blk_below BKg3.out hb); clear HB BKg2 BKg3 hb hx0 hy0 hx1 hy1 hx2 hy2 hx3 hy3 hx4 hy4 hx5 hy5; have HB := n0_; have BKg2 := n1_; have BKg3 := n2_; clear n0_ n1_ n2_; obtain ⟨hx0, hx1, hx2, hx3, hx4, hx5⟩ := cell6 BKg2.out; obtain ⟨hy0, hy1, hy2, hy3, hy4, hy5⟩ := cell6 BKg3.out) | ((with_reducible refine gate_dst (N := 15) rfl ?_); refine goesL_ (some 15) rfl rfl Try.func45 (by kernel_rfl) rfl #[.slice A4 x.O.length c4, .slice B4 x.O.length d4] rfl (by (try simp only [zAA, zAB, zAC]); first | done | rfl) ?_; refine (Calls.mono (laws_eqIntS.calls k2 A4 c4 x.O B4 d4 x.O true _ (Kd.C_below HA4.out.2 HB.out) HA4.out.1 (Kd.C_below HB4.out.2 HB.out) HB4.out.1 E2.out ⟨rfl⟩) (fun e w' h => (⟨h.1, drawn_below h.2⟩ : _ ∧ Below _ _ w'))).mono ?_; rintro e w15 ⟨rfl, hb⟩; refine ⟨_, rfl, ?_⟩; have n0_ := zA (zAD HB.out hb); have n1_ := zA (blk_below BKg2.out hb); have n2_ := zA (blk_below BKg3.out hb); clear HB BKg2 BKg3 hb hx0 hy0 hx1 hy1 hx2 hy2 hx3 hy3 hx4 hy4 hx5 hy5; have HB := n0_; have BKg2 := n1_; have BKg3 := n2_; clear n0_ n1_ n2_; obtain ⟨hx0, hx1, hx2, hx3, hx4, hx5⟩ := cell6 BKg2.out; obtain ⟨hy0, hy1, hy2, hy3, hy4, hy5⟩ := cell6 BKg3.out) | ((with_reducible refine gate_dst (N := 21) rfl ?_); refine goesL_ (some 21) rfl rfl Try.func46 (by kernel_rfl) rfl #[.slice A5 x.L.length c5, .slice B5 x.L.length d5] rfl (by (try simp only [zAA, zAB, zAC]); first | done | rfl) ?_; refine (ih x.L A5 c5 B5 d5 _ (Kd.C_below HA5.out.2 HB.out) HA5.out.1 (Kd.C_below HB5.out.2 HB.out) HB5.out.1 HS.out).mono ?_; rintro e w21 ⟨rfl, hb⟩; refine ⟨_, rfl, ?_⟩; have n0_ := zA (zAD HB.out hb); have n1_ := zA (blk_below BKg2.out hb); have n2_ := zA (blk_below BKg3.out hb); clear HB BKg2 BKg3 hb hx0 hy0 hx1 hy1 hx2 hy2 hx3 hy3 hx4 hy4 hx5 hy5; have HB := n0_; have BKg2 := n1_; have BKg3 := n2_; clear n0_ n1_ n2_; obtain ⟨hx0, hx1, hx2, hx3, hx4, hx5⟩ := cell6 BKg2.out; obtain ⟨hy0, hy1, hy2, hy3, hy4, hy5⟩ := cell6 BKg3.out))
 go_ret
 exact ⟨by first | rfl | (simp <;> rfl), HB.out⟩
def eqS.T6 : Bool × List (List Nat × List Nat) := (true, [([], []), ([], []), ([0, 1], [0, 1]), ([2], [2]), ([], []), ([], []), ([4, 5], [4, 5]), ([6], [6]), ([3, 7], [3, 7]), ([8], [8])])
def eqS.B6 : List Nat := [0, 0, 3, 7, 0, 0, 48, 112, 255, 511]
theorem eqS.tab6 : rtab .any (opsOf Try.f46 6) = eqS.T6 := by kernel_rfl
theorem eqS.bits6 : waitsOk eqS.T6.2 eqS.B6 = true := by kernel_rfl
theorem eqPcS : ∀ n, EqS n := by
 intro n
 induction n with
 | zero =>
  intro xs A c B d w hA hc hB hd hs
  have hl : xs.length = 0 := by
   cases xs with
   | nil => rfl
   | cons y l => exact (hs.2 y List.mem_cons_self).elim
  have q0 : decide ((0 : Int) < (xs.length : Int)) = false := decide_eq_false (by omega)
  have HB := zA (Below.refl w.heap.size w)
  clear hA hc hB hd hs
  go_enter Try.func46, Try.ntmps46
  go_wp2
  go_loopg [5] 1 (fun kq v5 w' => v5 = .int .i64 0 ∧ Aside0 (Below w.heap.size w w'))
  case atStart => exact ⟨rfl, HB⟩
  case round =>
   obtain ⟨rfl, HB⟩ := hrel
   go_wp2
   go_ret
   exact ⟨by first | rfl | (simp <;> rfl), HB.out⟩
 | succ n ih =>
  intro xs A c B d w hA hc hB hd hs
  have HB := zA (Below.refl w.heap.size w)
  have HCA := zA hA
  have HCB := zA hB
  have HSM := zA hs
  have hu47 := Try.underlying47
  clear hA hc hB hd hs
  go_enter Try.func46, Try.ntmps46
  go_wp2
  go_loopg [5] (xs.length + 1) (fun kq v5 w' => ∃ (z : Int) (i : Nat), v5 = .int .i64 z ∧ Aside0 (z = (i : Int)) ∧ Aside0 (kq + i = xs.length + 1) ∧ Aside0 (i ≤ xs.length) ∧ Aside0 (Below w.heap.size w w'))
  case atStart => exact ⟨0, 0, rfl, ⟨rfl⟩, ⟨by omega⟩, ⟨by omega⟩, HB⟩
  case round =>
   clear HB
   obtain ⟨z, i, rfl, HZ, HK, HI, HB⟩ := hrel
   by_cases hi : i < xs.length
   ·obtain ⟨g1, rfl⟩ : ∃ g1, gk = g1 + 1 := ⟨gk - 1, by have := HK.out; omega⟩
    have hz := HZ.out
    have h100 := HSM.out.1
    have p1 : 0 ≤ z := by omega
    have p2 : z < (xs.length : Int) := by omega
    obtain ⟨x, hx⟩ : ∃ q, q = rdP xs z := ⟨_, rfl⟩
    have HSX := zA (show SmP (n + 1) x from by rw [hx, hz, rdP_mem hi]; exact HSM.out.2 _ (List.getElem_mem hi))
    obtain ⟨ad, A0, c0, A1, c1, A2, c2, A4, c4, A5, c5, ea, hx0, hx1, hx2, hx3, hx4, hx5, hKA⟩ := at_P (Kd.C_below HCA.out HB.out) z p1 p2
    obtain ⟨bd, B0, d0, B1, d1, B2, d2, B4, d4, B5, d5, eb, hy0, hy1, hy2, hy3, hy4, hy5, hKB⟩ := at_P (Kd.C_below HCB.out HB.out) z p1 p2
    rw [← hx] at hx0 hx1 hx2 hx3 hx4 hx5 hKA hy0 hy1 hy2 hy3 hy4 hy5 hKB
    subst ea
    subst eb
    have HKA := zA hKA
    have HKB := zA hKB
    have q1 : decide (z < (xs.length : Int)) = true := decide_eq_true p2
    have q2 : (z < (xs.length : Int)) = True := eq_true p2
    have q3 : (0 ≤ z) = True := eq_true p1
    have q4 : decide (0 ≤ z) = true := decide_eq_true p1
    have HZ1 := zA (show wrap64 (z + 1) = ((i + 1 : Nat) : Int) from by unfold wrap64; omega)
    have HIX := zA hi
    clear hz h100 p1 p2 hx hKA hKB hi
    try go_wp2
    have n0_ := zA (zG HB.out)
    clear HB
    have HB := n0_
    clear n0_
    refine start_ (n := 10) (S := fun w' => w'.cell? (ad.add (z.toNat * 6)) = some (.slice A0 x.K.length c0) ∧ w'.cell? ⟨(ad.add (z.toNat * 6)).block, (ad.add (z.toNat * 6)).off + 1, none⟩ = some (.slice A1 x.V.length c1) ∧ w'.cell? ⟨(ad.add (z.toNat * 6)).block, (ad.add (z.toNat * 6)).off + 2, none⟩ = some (.slice A2 x.C.length c2) ∧ w'.cell? ⟨(ad.add (z.toNat * 6)).block, (ad.add (z.toNat * 6)).off + 3, none⟩ = some (.int .i64 x.g) ∧ w'.cell? ⟨(ad.add (z.toNat * 6)).block, (ad.add (z.toNat * 6)).off + 4, none⟩ = some (.slice A4 x.O.length c4) ∧ w'.cell? ⟨(ad.add (z.toNat * 6)).block, (ad.add (z.toNat * 6)).off + 5, none⟩ = some (.slice A5 x.L.length c5) ∧ w'.cell? (bd.add (z.toNat * 6)) = some (.slice B0 x.K.length d0) ∧ w'.cell? ⟨(bd.add (z.toNat * 6)).block, (bd.add (z.toNat * 6)).off + 1, none⟩ = some (.slice B1 x.V.length d1) ∧ w'.cell? ⟨(bd.add (z.toNat * 6)).block, (bd.add (z.toNat * 6)).off + 2, none⟩ = some (.slice B2 x.C.length d2) ∧ w'.cell? ⟨(bd.add (z.toNat * 6)).block, (bd.add (z.toNat * 6)).off + 3, none⟩ = some (.int .i64 x.g) ∧ w'.cell? ⟨(bd.add (z.toNat * 6)).block, (bd.add (z.toNat * 6)).off + 4, none⟩ = some (.slice B4 x.O.length d4) ∧ w'.cell? ⟨(bd.add (z.toNat * 6)).block, (bd.add (z.toNat * 6)).off + 5, none⟩ = some (.slice B5 x.L.length d5)) (ds := []) (bA 10 0) (by kernel_rfl) rfl rfl ⟨hx0, hx1, hx2, hx3, hx4, hx5, hy0, hy1, hy2, hy3, hy4, hy5⟩ (fun hHeld => ?_)
    refine with_tabW eqS.tab6 eqS.bits6 (fun HT_ HW_ => ?_)
    have HKA' := zA (show (kp (n + 1)).K wr.drew x _ from (kp (n + 1)).K_below (below_drew (Below.refl _ _)) HKA.out)
    have HKB' := zA (show (kp (n + 1)).K wr.drew x _ from (kp (n + 1)).K_below (below_drew (Below.refl _ _)) HKB.out)
    clear HKA HKB hx0 hx1 hx2 hx3 hx4 hx5 hy0 hy1 hy2 hy3 hy4 hy5
    generalize wr.drew = w7 at HB HKA' HKB' hHeld ⊢
    refine wzP 0 17 (bA 10 1) HT_ ?_
    refine wzP 1 18 (bA 10 3) HT_ ?_
    refine wzP 2 19 (bA 10 7) HT_ ?_
    refine wzT 3 20 (bA 10 15) HT_ HW_ hHeld ?_
    refine wzP 4 21 (bA 10 31) HT_ ?_
    refine wzP 5 22 (bA 10 63) HT_ ?_
    refine wzP 6 23 (bA 10 127) HT_ ?_
    refine wzT 7 24 (bA 10 255) HT_ HW_ hHeld ?_
    refine one_ (i := 8) (N := some 25) (bA 10 511) rfl rfl (one_of HT_.out (by kernel_rfl)) (by decide) (fun K hK => ?_); refine goes_ Try.func19 (by kernel_rfl) rfl #[.agg #[.slice A0 x.K.length c0, .slice A1 x.V.length c1, .slice A2 x.C.length c2, .int .i64 x.g, .slice A4 x.O.length c4, .slice A5 x.L.length c5], .agg #[.slice B0 x.K.length d0, .slice B1 x.V.length d1, .slice B2 x.C.length d2, .int .i64 x.g, .slice B4 x.O.length d4, .slice B5 x.L.length d5]] (by rfl) rfl rfl (by (try simp only [zAA, zAB, zAC]); first | done | rfl | (simp only [zZ, zY]; rfl)) ?_
    refine (eqPc ih x _ HKA'.out HKB'.out HSX.out).mono ?_
    rintro e w8 ⟨rfl, hb⟩
    refine ⟨_, rfl, ?_⟩
    have n0_ := zA (zAD HB.out hb)
    clear HB
    have HB := n0_
    clear n0_
    obtain ⟨h0, h1, h2, h3, h4, h5, h6, h7, h8, h9, h10, h11⟩ := hHeld
    refine hK.out _ _ ⟨pw_cell_below hb h0, pw_cell_below hb h1, pw_cell_below hb h2, pw_cell_below hb h3, pw_cell_below hb h4, pw_cell_below hb h5, pw_cell_below hb h6, pw_cell_below hb h7, pw_cell_below hb h8, pw_cell_below hb h9, pw_cell_below hb h10, pw_cell_below hb h11⟩ (fun hHeld => ?_); clear hK K h0 h1 h2 h3 h4 h5 h6 h7 h8 h9 h10 h11 hb; refine wzN 25 ?_
    refine wzP 9 26 (bA 10 1023) HT_ ?_
    refine done_ (by kernel_rfl) ?_
    go_wp2
    go_roundg g1
    case measure => omega
    case rel => exact ⟨wrap64 (z + 1), i + 1, rfl, HZ1, ⟨by have := HK.out; omega⟩, ⟨by have := HIX.out; omega⟩, HB⟩
   ·have hz := HZ.out
    have q1 : decide (z < (xs.length : Int)) = false := decide_eq_false (by omega)
    clear hz hi
    go_wp2
    go_ret
    exact ⟨by first | rfl | (simp <;> rfl), HB.out⟩
end Go.Proofs.Ytnplghcbdaiogaa.RM
end
section
namespace Go.Proofs.Ytnplghcbdaiogaa.RN
open Go.RowKit Go.Proofs.YtnplghcbdaiogaaW.PrintWords Go.Proofs.YtnplghcbdaiogaaW.PrintLast Go.Proofs.YtnplghcbdaiogaaW.PrintMore Go.Proofs.Ytnplghcbdaiogaa.PA Go.Proofs.Ytnplghcbdaiogaa.PB Go.Proofs.Ytnplghcbdaiogaa.PL Go.Proofs.Ytnplghcbdaiogaa.PW Go.Proofs.Ytnplghcbdaiogaa.RF Go.Proofs.Ytnplghcbdaiogaa.RL Go.Proofs.Ytnplghcbdaiogaa.RM
attribute [local go_sem] max2_int min2_int max_two min_two max_three min_three max_four min_four
set_option linter.unusedVariables false
set_option linter.unusedSimpArgs false
set_option maxHeartbeats 4000000
set_option maxRecDepth 100000
def ofs (f : Pc → Nat) : List Pc → Nat → Nat
 | _, 0 => 0
 | [], _ + 1 => 0
 | x :: l, i + 1 => f x + ofs f l i
theorem ofs_zero (f : Pc → Nat) (l : List Pc) : ofs f l 0 = 0 := by cases l <;> rfl
theorem ofs_next (f : Pc → Nat) : ∀ (l : List Pc) (i : Nat) (h : i < l.length), ofs f l (i + 1) = ofs f l i + f l[i] := by
 intro l
 induction l with
 | nil => intro i h; simp at h
 | cons x l ih =>
  intro i h
  cases i with
  | zero => rw [ofs_zero, ofs, ofs_zero]; simp
  | succ i => rw [ofs, ih i (by simpa using h), ofs]; simp; omega
theorem ofs_le (f : Pc → Nat) (l : List Pc) : ∀ i, i ≤ l.length → ofs f l i ≤ ofs f l l.length := by
 intro i hi
 obtain ⟨d, hd⟩ : ∃ d, i + d = l.length := ⟨l.length - i, by omega⟩
 induction d generalizing i with
 | zero => rw [← hd]; exact Nat.le_refl _
 | succ d ih =>
  have h1 := ih (i + 1) (by omega) (by omega)
  have h2 := ofs_next f l i (by omega)
  omega
def mkLof (f : Nat → Pc → Pc) (s : Pc → Nat) : Nat → List Pc → List Pc
 | _, [] => []
 | a, x :: l => f a x :: mkLof f s (a + s x) l
theorem mkLof_length (f : Nat → Pc → Pc) (s : Pc → Nat) : ∀ (l : List Pc) (a : Nat), (mkLof f s a l).length = l.length := by
 intro l
 induction l with
 | nil => intro a; rfl
 | cons x l ih => intro a; rw [mkLof, List.length_cons, ih, List.length_cons]
theorem mkLof_at (f : Nat → Pc → Pc) (s : Pc → Nat) : ∀ (l : List Pc) (a i : Nat) (h : i < l.length), (mkLof f s a l)[i]? = some (f (a + ofs s l i) l[i]) := by
 intro l
 induction l with
 | nil => intro a i h; simp at h
 | cons x l ih =>
  intro a i h
  cases i with
  | zero => rw [mkLof, ofs_zero]; rfl
  | succ i => rw [mkLof, List.getElem?_cons_succ, ih (a + s x) i (by simpa using h), ofs]; simp only [List.getElem_cons_succ]; rw [Nat.add_assoc]
def mkN (a n : Nat) : List Int := (List.range n).map fun i => ((a + i : Nat) : Int)
theorem mkN_length (a n : Nat) : (mkN a n).length = n := by simp [mkN]
def szE : Nat → Pc → Nat
 | 0, _ => 0
 | n + 1, x => x.K.length + x.V.length + x.C.length + 1 + x.O.length + ofs (szE n) x.L x.L.length
noncomputable def mkE : Nat → Nat → Pc → Pc
 | 0, _, x => x
 | n + 1, a, x => ⟨marks a x.K.length, marks (a + x.K.length) x.V.length, marks (a + x.K.length + x.V.length) x.C.length, ((a + x.K.length + x.V.length + x.C.length : Nat) : Int), mkN (a + x.K.length + x.V.length + x.C.length + 1) x.O.length, mkLof (mkE n) (szE n) (a + x.K.length + x.V.length + x.C.length + 1 + x.O.length) x.L⟩
noncomputable def mkT (n a : Nat) (x : Pc) : Pc := ⟨marks a x.K.length, marks (a + x.K.length) x.V.length, marks (a + x.K.length + x.V.length) x.C.length, x.g, mkN (a + x.K.length + x.V.length + x.C.length) x.O.length, mkLof (mkE n) (szE n) (a + x.K.length + x.V.length + x.C.length + x.O.length) x.L⟩
def szT (n : Nat) (x : Pc) : Nat := x.K.length + x.V.length + x.C.length + x.O.length + ofs (szE n) x.L x.L.length
theorem add1 (a : Nat) (h : a ≤ 1000000000000) : wrap64 ((a : Int) + 1) = ((a + 1 : Nat) : Int) := by unfold wrap64; omega
theorem markN (l : List Int) (a : Nat) (hl : l.length ≤ 1000000000) (ha : a ≤ 1000000000) : Ev (fun k => laws_markIntS.f k l (a : Int)) (((a + l.length : Nat) : Int), mkN a l.length) := by
 have key : ∀ (d i : Nat) (x : List Int), i + d = l.length → x.length = l.length → (∀ j, j < i → x[j]? = some ((a + j : Nat) : Int)) → Ev (fun k => laws_markIntS.l0 k x ((a + i : Nat) : Int) (i : Int)) (((a + l.length : Nat) : Int), mkN a l.length) := by
  intro d
  induction d with
  | zero =>
   intro i x hi hx hj
   have e : x = mkN a l.length := by
    apply List.ext_getElem?
    intro j
    by_cases c : j < l.length
    ·rw [hj j (by omega), mkN, List.getElem?_map, List.getElem?_range c]; rfl
    ·rw [List.getElem?_eq_none (by omega), List.getElem?_eq_none (by rw [mkN_length]; omega)]
   refine Ev.step (f := fun _ => some (((a + l.length : Nat) : Int), mkN a l.length)) (fun k => ?_) (Ev.now _)
   simp only [laws_markIntS.l0]
   rw [if_neg (by omega), show a + i = a + l.length by omega, e]
  | succ d ih =>
   intro i x hi hx hj
   refine Ev.step (f := fun k => laws_markIntS.l0 k (x.set i ((a + i : Nat) : Int)) ((a + (i + 1) : Nat) : Int) ((i + 1 : Nat) : Int)) (fun k => ?_) (ih (i + 1) (x.set i ((a + i : Nat) : Int)) (by omega) (by rw [List.length_set]; exact hx) (fun j hj2 => ?_))
   ·simp only [laws_markIntS.l0]
    rw [if_pos (by omega), if_pos (by omega), Int.toNat_natCast, add1 _ (by omega), add1 _ (by omega)]
    rfl
   ·by_cases e : j = i
    ·subst e; rw [List.getElem?_set_self (by omega)]
    ·rw [List.getElem?_set_ne (fun q => e q.symm)]; exact hj j (by omega)
 exact key l.length 0 l (by omega) rfl (fun j h => by omega)
theorem heldN (n a : Nat) (hl : n ≤ 1000000000) (ha : a ≤ 1000000000) : Ev (fun k => laws_heldIntS.f k (mkN a n) (a : Int)) ((a + n : Nat) : Int) := by
 have key : ∀ (d i : Nat), i + d = n → Ev (fun k => laws_heldIntS.l0 k (mkN a n) ((a + i : Nat) : Int) (i : Int)) ((a + n : Nat) : Int) := by
  intro d
  induction d with
  | zero =>
   intro i hi
   refine Ev.step (f := fun _ => some ((a + n : Nat) : Int)) (fun k => ?_) (Ev.now _)
   simp only [laws_heldIntS.l0]
   rw [if_neg (by rw [mkN_length]; omega), show a + i = a + n by omega]
  | succ d ih =>
   intro i hi
   refine Ev.step (f := fun k => laws_heldIntS.l0 k (mkN a n) ((a + (i + 1) : Nat) : Int) ((i + 1 : Nat) : Int)) (fun k => ?_) (ih (i + 1) (by omega))
   have hr : rd (mkN a n) (i : Int) = ((a + i : Nat) : Int) := by
    unfold rd; rw [Int.toNat_natCast, List.getD_eq_getElem?_getD, mkN, List.getElem?_map, List.getElem?_range (by omega)]; rfl
   simp only [laws_heldIntS.l0]
   rw [if_pos (by rw [mkN_length]; omega), if_pos (by omega), hr, if_pos rfl, add1 _ (by omega), add1 _ (by omega)]
   rfl
 exact key n 0 (by omega)
def HeldS (n : Nat) : Prop := ∀ (xs : List Pc) (a : Nat) (A : Option Addr) (c : Nat) (w : World), (xs.length ≤ 100 ∧ ∀ y ∈ xs, SmP n y) → a + ofs (szE n) xs xs.length ≤ 100000000 → (kp n).C w A (mkLof (mkE n) (szE n) a xs).length (mkLof (mkE n) (szE n) a xs) → (mkLof (mkE n) (szE n) a xs).length ≤ c →
 Calls Try.prog 52 #[.slice A (mkLof (mkE n) (szE n) a xs).length c, .int .i64 (a : Int)] w fun e w' => e = .returned (.int .i64 ((a + ofs (szE n) xs xs.length : Nat) : Int)) ∧ Below w.heap.size w w'
theorem heldPS : ∀ n, HeldS n := by
 intro n
 induction n with
 | zero =>
  intro xs a A c w hs ha hA hc
  have hl : xs = [] := by
   cases xs with
   | nil => rfl
   | cons y l => exact (hs.2 y List.mem_cons_self).elim
  subst hl
  have HB := zA (Below.refl w.heap.size w)
  obtain ⟨m0, hm⟩ : ∃ q, q = ((a + ofs (szE 0) [] ([] : List Pc).length : Nat) : Int) := ⟨_, rfl⟩
  have hm2 : m0 = (a : Int) := by rw [hm]; rfl
  rw [← hm, ← hm2]
  have e0 : mkLof (mkE 0) (szE 0) a [] = [] := rfl
  rw [e0]
  clear hs ha hA hc hm hm2 e0
  go_enter Try.func52, Try.ntmps52
  go_wp2
  go_loopg [1, 5] 1 (fun kq v1 v5 w' => v1 = .int .i64 m0 ∧ v5 = .int .i64 0 ∧ Aside0 (Below w.heap.size w w'))
  case atStart => exact ⟨rfl, rfl, HB⟩
  case round =>
   obtain ⟨rfl, rfl, HB⟩ := hrel
   go_wp2
   go_ret
   exact ⟨by first | rfl | (simp <;> rfl), HB.out⟩
 | succ n ih =>
  intro xs a A c w hs ha hA hc
  have HB := zA (Below.refl w.heap.size w)
  have HSM := zA hs
  have HAB := zA ha
  obtain ⟨ys, hys⟩ : ∃ q, q = mkLof (mkE (n + 1)) (szE (n + 1)) a xs := ⟨_, rfl⟩
  have hyl : ys.length = xs.length := by rw [hys, mkLof_length]
  rw [← hys] at hA hc ⊢
  obtain ⟨mE, hmE⟩ : ∃ q, q = ((a + ofs (szE (n + 1)) xs xs.length : Nat) : Int) := ⟨_, rfl⟩
  rw [← hmE]
  have HME := zA hmE
  have HCA := zA hA
  have HYS := zA hys
  have HYL := zA hyl
  obtain ⟨mS, hmS⟩ : ∃ q, q = (a : Int) := ⟨_, rfl⟩
  rw [← hmS]
  have HMS := zA hmS
  clear hs ha hA hc hys hyl hmE hmS
  go_enter Try.func52, Try.ntmps52
  go_wp2
  go_loopg [1, 5] (ys.length + 1) (fun kq v1 v5 w' => ∃ (m0 z : Int) (i : Nat), v1 = .int .i64 m0 ∧ v5 = .int .i64 z ∧ Aside0 (m0 = ((a + ofs (szE (n + 1)) xs i : Nat) : Int)) ∧ Aside0 (z = (i : Int)) ∧ Aside0 (kq + i = ys.length + 1) ∧ Aside0 (i ≤ ys.length) ∧ Aside0 (Below w.heap.size w w'))
  case atStart => exact ⟨mS, 0, 0, rfl, rfl, ⟨by rw [HMS.out, ofs_zero]; rfl⟩, ⟨rfl⟩, ⟨by omega⟩, ⟨by omega⟩, HB⟩
  case round =>
   clear HB
   obtain ⟨m0, z, i, rfl, rfl, HM0, HZ, HK, HI, HB⟩ := hrel
   by_cases hi : i < ys.length
   ·obtain ⟨g1, rfl⟩ : ∃ g1, gk = g1 + 1 := ⟨gk - 1, by have := HK.out; omega⟩
    have hix : i < xs.length := by have := HYL.out; omega
    have hz := HZ.out
    have h100 := HSM.out.1
    have hnx := ofs_next (szE (n + 1)) xs i hix
    have hof := ofs_le (szE (n + 1)) xs (i + 1) (by omega)
    have hab := HAB.out
    obtain ⟨s0, s1, s2, s4, s5, s6⟩ := HSM.out.2 xs[i] (List.getElem_mem hix)
    obtain ⟨x, hx⟩ : ∃ q, q = xs[i] := ⟨_, rfl⟩
    rw [← hx] at hnx s0 s1 s2 s4 s5 s6
    obtain ⟨b, hb⟩ : ∃ q, q = a + ofs (szE (n + 1)) xs i := ⟨_, rfl⟩
    have hsz : szE (n + 1) x = x.K.length + x.V.length + x.C.length + 1 + x.O.length + ofs (szE n) x.L x.L.length := rfl
    obtain ⟨y, hy⟩ : ∃ q, q = rdP ys z := ⟨_, rfl⟩
    have hye : y = mkE (n + 1) b x := by
     rw [hy, hz, rdP_mem hi, hb, hx]
     have h1 := mkLof_at (mkE (n + 1)) (szE (n + 1)) xs a i hix
     rw [← HYS.out, List.getElem?_eq_getElem hi] at h1
     exact Option.some.inj h1
    have p1 : 0 ≤ z := by omega
    have p2 : z < (ys.length : Int) := by omega
    obtain ⟨ad, A0, c0, A1, c1, A2, c2, A4, c4, A5, c5, ea, hx0, hx1, hx2, hx3, hx4, hx5, hKA⟩ := at_P (Kd.C_below HCA.out HB.out) z p1 p2
    rw [← hy] at hx0 hx1 hx2 hx3 hx4 hx5 hKA
    subst ea
    have HKA := zA hKA
    obtain ⟨k0, hk0⟩ := Ev.rounds (heldS x.K.length b (by omega) (by omega))
    obtain ⟨k1, hk1⟩ := Ev.rounds (heldS x.V.length (b + x.K.length) (by omega) (by omega))
    obtain ⟨k2, hk2⟩ := Ev.rounds (heldS x.C.length (b + x.K.length + x.V.length) (by omega) (by omega))
    obtain ⟨k4, hk4⟩ := Ev.rounds (heldN x.O.length (b + x.K.length + x.V.length + x.C.length + 1) (by omega) (by omega))
    have hk5 := ih x.L (b + x.K.length + x.V.length + x.C.length + 1 + x.O.length)
    rw [show marks b x.K.length = y.K by rw [hye]; rfl] at hk0
    rw [show marks (b + x.K.length) x.V.length = y.V by rw [hye]; rfl] at hk1
    rw [show marks (b + x.K.length + x.V.length) x.C.length = y.C by rw [hye]; rfl] at hk2
    rw [show mkN (b + x.K.length + x.V.length + x.C.length + 1) x.O.length = y.O by rw [hye]; rfl] at hk4
    rw [show mkLof (mkE n) (szE n) (b + x.K.length + x.V.length + x.C.length + 1 + x.O.length) x.L = y.L by rw [hye]; rfl] at hk5
    have hg : y.g = ((b + x.K.length + x.V.length + x.C.length : Nat) : Int) := by rw [hye]; rfl
    have hm0 : m0 = (b : Int) := by rw [HM0.out, hb]
    have hbd : b + x.K.length + x.V.length + x.C.length ≤ 1000000000000 := by omega
    have hend : ((b + x.K.length + x.V.length + x.C.length + 1 + x.O.length + ofs (szE n) x.L x.L.length : Nat) : Int) = ((a + ofs (szE (n + 1)) xs (i + 1) : Nat) : Int) := by omega
    obtain ⟨m1, e1⟩ : ∃ q, q = ((b + x.K.length : Nat) : Int) := ⟨_, rfl⟩
    obtain ⟨m2, e2⟩ : ∃ q, q = ((b + x.K.length + x.V.length : Nat) : Int) := ⟨_, rfl⟩
    obtain ⟨m3, e3⟩ : ∃ q, q = ((b + x.K.length + x.V.length + x.C.length : Nat) : Int) := ⟨_, rfl⟩
    obtain ⟨m5, e5⟩ : ∃ q, q = ((b + x.K.length + x.V.length + x.C.length + 1 + x.O.length : Nat) : Int) := ⟨_, rfl⟩
    obtain ⟨m6, e6⟩ : ∃ q, q = ((b + x.K.length + x.V.length + x.C.length + 1 + x.O.length + ofs (szE n) x.L x.L.length : Nat) : Int) := ⟨_, rfl⟩
    have d1 : decide (m1 < 0) = false := decide_eq_false (by omega)
    have d2 : decide (m2 < 0) = false := decide_eq_false (by omega)
    have d3 : decide (m3 < 0) = false := decide_eq_false (by omega)
    have d5 : decide (m5 < 0) = false := decide_eq_false (by omega)
    have d6 : decide (m6 < 0) = false := decide_eq_false (by omega)
    have HZ1 := zA (show wrap64 (z + 1) = ((i + 1 : Nat) : Int) from by unfold wrap64; omega)
    have hk5' := fun A c w => hk5 A c w ⟨s5, s6⟩ (by omega)
    have hw := add1 (b + x.K.length + x.V.length + x.C.length) hbd
    rw [← hm0, ← e1] at hk0
    rw [← e1, ← e2] at hk1
    rw [← e2, ← e3] at hk2
    rw [← e5, ← e6] at hk5'
    rw [← e3] at hg hw
    rw [← hw, ← e5] at hk4
    rw [hg] at hx3
    have E0 := zA hk0
    have E1 := zA hk1
    have E2 := zA hk2
    have E4 := zA hk4
    have E5 := zA hk5'
    have HM6 := zA (e6.trans hend)
    have q1 : decide (z < (ys.length : Int)) = true := decide_eq_true p2
    have q2 : (z < (ys.length : Int)) = True := eq_true p2
    have q3 : (0 ≤ z) = True := eq_true p1
    have q4 : decide (0 ≤ z) = true := decide_eq_true p1
    have q5 : (m3 != m3) = false := bne_self_eq_false m3
    have HIX := zA hi
    have HG := zA hg
    clear hk0 hk1 hk2 hk4 hk5 hk5' hg hm0 hw hbd hend e1 e2 e3 e5 e6 hz h100 hnx hof hab hx hy hye hsz hb s0 s1 s2 s4 s5 s6 p1 p2 hi hix hKA
    rw [← HG.out] at hx3
    rw [HG.out] at hx3
    go_wp2_with (first | ((with_reducible refine gate_dst (N := 19) rfl ?_); refine goesL_ (some 19) rfl rfl Try.func40 (by kernel_rfl) rfl #[.slice A0 y.K.length c0, .int .i64 m0] rfl (by (try simp only [zAA, zAB, zAC]); first | done | rfl) ?_; refine (laws_heldStringS.calls k0 A0 c0 y.K m0 m1 _ (kp_facts HKA.out).1.2 (kp_facts HKA.out).1.1 E0.out).mono ?_; rintro e w19 ⟨rfl, hb⟩; refine ⟨_, rfl, ?_⟩; have n0_ := zA (zAD HB.out hb); replace hx0 := pw_cell_below hb hx0; replace hx1 := pw_cell_below hb hx1; replace hx2 := pw_cell_below hb hx2; replace hx3 := pw_cell_below hb hx3; replace hx4 := pw_cell_below hb hx4; replace hx5 := pw_cell_below hb hx5; have n1_ := zA ((kp (n + 1)).K_below hb HKA.out); clear HB HKA hb; have HB := n0_; have HKA := n1_; clear n0_ n1_) | ((with_reducible refine gate_dst (N := 29) rfl ?_); refine goesL_ (some 29) rfl rfl Try.func40 (by kernel_rfl) rfl #[.slice A1 y.V.length c1, .int .i64 m1] rfl (by (try simp only [zAA, zAB, zAC]); first | done | rfl) ?_; refine (laws_heldStringS.calls k1 A1 c1 y.V m1 m2 _ (kp_facts HKA.out).2.1.2 (kp_facts HKA.out).2.1.1 E1.out).mono ?_; rintro e w29 ⟨rfl, hb⟩; refine ⟨_, rfl, ?_⟩; have n0_ := zA (zAD HB.out hb); replace hx0 := pw_cell_below hb hx0; replace hx1 := pw_cell_below hb hx1; replace hx2 := pw_cell_below hb hx2; replace hx3 := pw_cell_below hb hx3; replace hx4 := pw_cell_below hb hx4; replace hx5 := pw_cell_below hb hx5; have n1_ := zA ((kp (n + 1)).K_below hb HKA.out); clear HB HKA hb; have HB := n0_; have HKA := n1_; clear n0_ n1_) | ((with_reducible refine gate_dst (N := 39) rfl ?_); refine goesL_ (some 39) rfl rfl Try.func40 (by kernel_rfl) rfl #[.slice A2 y.C.length c2, .int .i64 m2] rfl (by (try simp only [zAA, zAB, zAC]); first | done | rfl) ?_; refine (laws_heldStringS.calls k2 A2 c2 y.C m2 m3 _ (kp_facts HKA.out).2.2.1.2 (kp_facts HKA.out).2.2.1.1 E2.out).mono ?_; rintro e w39 ⟨rfl, hb⟩; refine ⟨_, rfl, ?_⟩; have n0_ := zA (zAD HB.out hb); replace hx0 := pw_cell_below hb hx0; replace hx1 := pw_cell_below hb hx1; replace hx2 := pw_cell_below hb hx2; replace hx3 := pw_cell_below hb hx3; replace hx4 := pw_cell_below hb hx4; replace hx5 := pw_cell_below hb hx5; have n1_ := zA ((kp (n + 1)).K_below hb HKA.out); clear HB HKA hb; have HB := n0_; have HKA := n1_; clear n0_ n1_) | ((with_reducible refine gate_dst (N := 58) rfl ?_); refine goesL_ (some 58) rfl rfl Try.func51 (by kernel_rfl) rfl #[.slice A4 y.O.length c4, .int .i64 (wrap64 (m3 + 1))] rfl (by (try simp only [zAA, zAB, zAC]); first | done | rfl) ?_; refine (Calls.mono (laws_heldIntS.calls k4 A4 c4 y.O (wrap64 (m3 + 1)) m5 _ (kp_facts HKA.out).2.2.2.1.2 (kp_facts HKA.out).2.2.2.1.1 E4.out) (fun e w' h => (⟨h.1, drawn_below h.2⟩ : _ ∧ Below _ _ w'))).mono ?_; rintro e w58 ⟨rfl, hb⟩; refine ⟨_, rfl, ?_⟩; have n0_ := zA (zAD HB.out hb); replace hx0 := pw_cell_below hb hx0; replace hx1 := pw_cell_below hb hx1; replace hx2 := pw_cell_below hb hx2; replace hx3 := pw_cell_below hb hx3; replace hx4 := pw_cell_below hb hx4; replace hx5 := pw_cell_below hb hx5; have n1_ := zA ((kp (n + 1)).K_below hb HKA.out); clear HB HKA hb; have HB := n0_; have HKA := n1_; clear n0_ n1_) | ((with_reducible refine gate_dst (N := 67) rfl ?_); refine goesL_ (some 67) rfl rfl Try.func52 (by kernel_rfl) rfl #[.slice A5 y.L.length c5, .int .i64 m5] rfl (by (try simp only [zAA, zAB, zAC]); first | done | rfl) ?_; refine (E5.out A5 c5 _ (kp_facts HKA.out).2.2.2.2.2 (kp_facts HKA.out).2.2.2.2.1).mono ?_; rintro e w67 ⟨rfl, hb⟩; refine ⟨_, rfl, ?_⟩; have n0_ := zA (zAD HB.out hb); replace hx0 := pw_cell_below hb hx0; replace hx1 := pw_cell_below hb hx1; replace hx2 := pw_cell_below hb hx2; replace hx3 := pw_cell_below hb hx3; replace hx4 := pw_cell_below hb hx4; replace hx5 := pw_cell_below hb hx5; have n1_ := zA ((kp (n + 1)).K_below hb HKA.out); clear HB HKA hb; have HB := n0_; have HKA := n1_; clear n0_ n1_))
    clear d1 d2 d3 d5 d6 q1 q2 q3 q4 q5 hx0 hx1 hx2 hx3 hx4 hx5
    go_roundg g1
    case measure => omega
    case rel => exact ⟨m6, wrap64 (z + 1), i + 1, rfl, rfl, HM6, HZ1, ⟨by have := HK.out; omega⟩, ⟨by have := HIX.out; omega⟩, HB⟩
   ·have hz := HZ.out
    have q1 : decide (z < (ys.length : Int)) = false := decide_eq_false (by omega)
    have hme : m0 = mE := by rw [HM0.out, HME.out, show i = xs.length by have := HYL.out; have := HI.out; omega]
    clear hz hi
    go_wp2
    go_ret
    exact ⟨by rw [hme]; first | rfl | (simp <;> rfl), HB.out⟩
end Go.Proofs.Ytnplghcbdaiogaa.RN
end
section
namespace Go.Proofs.Ytnplghcbdaiogaa.RP
open Go.RowKit Go.Proofs.YtnplghcbdaiogaaW.PrintWords Go.Proofs.YtnplghcbdaiogaaW.PrintLast Go.Proofs.YtnplghcbdaiogaaW.PrintMore Go.Proofs.Ytnplghcbdaiogaa.PA Go.Proofs.Ytnplghcbdaiogaa.PB Go.Proofs.Ytnplghcbdaiogaa.PL Go.Proofs.Ytnplghcbdaiogaa.PW Go.Proofs.Ytnplghcbdaiogaa.RF Go.Proofs.Ytnplghcbdaiogaa.RL Go.Proofs.Ytnplghcbdaiogaa.RM Go.Proofs.Ytnplghcbdaiogaa.RN
open Go.Proofs.Ytnplghcbdaiogaa.RG (kept_set kept_more)
attribute [local go_sem] max2_int min2_int max_two min_two max_three min_three max_four min_four
set_option linter.unusedVariables false
set_option linter.unusedSimpArgs false
set_option maxHeartbeats 4000000
set_option maxRecDepth 100000
theorem lendP {m : Nat} {W : World} {base g n cap : Nat} {ok : Nat → Prop} {xs : List Pc} (h : Kd.S (kp (m + 1)) 47 W base ok (.slice (some ⟨g, 0, none⟩) n cap) xs) (i : Int) (h0 : 0 ≤ i) (h1 : i < n) (x : Pc) (hx : rdP xs i = x) :
  ∃ A0 c0 A1 c1 A2 c2 A4 c4 A5 c5, ∃ (q0 q1 q2 q4 q5 : Nat → Prop), W.cell? ⟨g, i.toNat * 6, none⟩ = some (.slice A0 x.K.length c0) ∧ W.cell? ⟨g, i.toNat * 6 + 1, none⟩ = some (.slice A1 x.V.length c1) ∧ W.cell? ⟨g, i.toNat * 6 + 2, none⟩ = some (.slice A2 x.C.length c2) ∧ W.cell? ⟨g, i.toNat * 6 + 3, none⟩ = some (.int .i64 x.g) ∧ W.cell? ⟨g, i.toNat * 6 + 4, none⟩ = some (.slice A4 x.O.length c4) ∧ W.cell? ⟨g, i.toNat * 6 + 5, none⟩ = some (.slice A5 x.L.length c5) ∧ W.frozen? ⟨g, i.toNat * 6 + 3, none⟩ = false ∧ Kd.string.R 9 W base q0 (.slice A0 x.K.length c0) x.K ∧ Kd.string.R 9 W base q1 (.slice A1 x.V.length c1) x.V ∧ Kd.string.R 9 W base q2 (.slice A2 x.C.length c2) x.C ∧ (Kd.int .i64).R 3 W base q4 (.slice A4 x.O.length c4) x.O ∧ Kd.S (kp m) 47 W base q5 (.slice A5 x.L.length c5) x.L ∧ (∀ k, q0 k ∨ q1 k ∨ q2 k ∨ q4 k ∨ q5 k → ok k) ∧
   (∀ (W' : World) (t : List ByteArray), Kept W W' q0 → Kd.string.R 9 W' base (fun k => q0 k ∨ W.heap.size ≤ k) (.slice A0 x.K.length c0) t → Kd.S (kp (m + 1)) 47 W' base ok (.slice (some ⟨g, 0, none⟩) n cap) (xs.set i.toNat ⟨t, x.V, x.C, x.g, x.O, x.L⟩)) ∧
   (∀ (W' : World) (t : List ByteArray), Kept W W' q1 → Kd.string.R 9 W' base (fun k => q1 k ∨ W.heap.size ≤ k) (.slice A1 x.V.length c1) t → Kd.S (kp (m + 1)) 47 W' base ok (.slice (some ⟨g, 0, none⟩) n cap) (xs.set i.toNat ⟨x.K, t, x.C, x.g, x.O, x.L⟩)) ∧
   (∀ (W' : World) (t : List ByteArray), Kept W W' q2 → Kd.string.R 9 W' base (fun k => q2 k ∨ W.heap.size ≤ k) (.slice A2 x.C.length c2) t → Kd.S (kp (m + 1)) 47 W' base ok (.slice (some ⟨g, 0, none⟩) n cap) (xs.set i.toNat ⟨x.K, x.V, t, x.g, x.O, x.L⟩)) ∧
   (∀ (W' : World) (t : List Int), Kept W W' q4 → (Kd.int .i64).R 3 W' base (fun k => q4 k ∨ W.heap.size ≤ k) (.slice A4 x.O.length c4) t → Kd.S (kp (m + 1)) 47 W' base ok (.slice (some ⟨g, 0, none⟩) n cap) (xs.set i.toNat ⟨x.K, x.V, x.C, x.g, t, x.L⟩)) ∧
   (∀ (W' : World) (t : List Pc), Kept W W' q5 → Kd.S (kp m) 47 W' base q5 (.slice A5 x.L.length c5) t → Kd.S (kp (m + 1)) 47 W' base ok (.slice (some ⟨g, 0, none⟩) n cap) (xs.set i.toNat ⟨x.K, x.V, x.C, x.g, x.O, t⟩)) ∧
   (∀ q : Int, Kd.S (kp (m + 1)) 47 (W.setCell ⟨g, i.toNat * 6 + 3, none⟩ (.int .i64 q)) base ok (.slice (some ⟨g, 0, none⟩) n cap) (xs.set i.toNat ⟨x.K, x.V, x.C, q, x.O, x.L⟩)) := by
 subst hx
 obtain ⟨oki, c, hcl, hM, hcc, hfr, hoki, hH⟩ := Kd.S_elem h zPc i h0 h1
 obtain ⟨v0, v1, v2, v4, v5, p, rfl, r0, r1, r2, r4, r5⟩ := hM
 have hs : (kp (m + 1)).sz = 6 := rfl
 rw [hs] at hcc hfr
 obtain ⟨A0, c0, rfl⟩ := Kd.R_slice r0
 obtain ⟨A1, c1, rfl⟩ := Kd.R_slice r1
 obtain ⟨A2, c2, rfl⟩ := Kd.R_slice r2
 obtain ⟨A4, c4, rfl⟩ := Kd.R_slice r4
 obtain ⟨A5, c5, rfl⟩ := Kd.S_slice r5
 refine ⟨A0, c0, A1, c1, A2, c2, A4, c4, A5, c5, _, _, _, _, _, hcc 0 _ rfl, hcc 1 _ rfl, hcc 2 _ rfl, hcc 3 _ rfl, hcc 4 _ rfl, hcc 5 _ rfl, hfr 3, r0, r1, r2, r4, r5, fun k hk => ?_, ?_, ?_, ?_, ?_, ?_, ?_⟩
 ·rcases hk with hk | hk | hk | hk | hk <;> exact (hoki k hk.1).1
 ·intro W' t hk hr
  have hr' := Kd.R_mono (Kd.R_tight rfl hr) (fun k hk => r0.1 k hk.symm)
  exact Kd.H_back (H_cell hH hk (fun k hk => hk.1)) (okp := oki) (⟨_, _, _, _, _, p, rfl, hr', Kd.R_kept r1 hk (fun k e1 e2 => by have := e1.2; have := e2.2; omega), Kd.R_kept r2 hk (fun k e1 e2 => by have := e1.2; have := e2.2; omega), Kd.R_kept r4 hk (fun k e1 e2 => by have := e1.2; have := e2.2; omega), Kd.S_kept r5 hk (fun k e1 e2 => by have := e1.2; have := e2.2; omega)⟩ : (kp (m + 1)).M W' base oki ⟨t, (rdP xs i).V, (rdP xs i).C, (rdP xs i).g, (rdP xs i).O, (rdP xs i).L⟩ _) (fun _ h => h)
 ·intro W' t hk hr
  have hr' := Kd.R_mono (Kd.R_tight rfl hr) (fun k hk => r1.1 k hk.symm)
  exact Kd.H_back (H_cell hH hk (fun k hk => hk.1)) (okp := oki) (⟨_, _, _, _, _, p, rfl, Kd.R_kept r0 hk (fun k e1 e2 => by have := e1.2; have := e2.2; omega), hr', Kd.R_kept r2 hk (fun k e1 e2 => by have := e1.2; have := e2.2; omega), Kd.R_kept r4 hk (fun k e1 e2 => by have := e1.2; have := e2.2; omega), Kd.S_kept r5 hk (fun k e1 e2 => by have := e1.2; have := e2.2; omega)⟩ : (kp (m + 1)).M W' base oki ⟨(rdP xs i).K, t, (rdP xs i).C, (rdP xs i).g, (rdP xs i).O, (rdP xs i).L⟩ _) (fun _ h => h)
 ·intro W' t hk hr
  have hr' := Kd.R_mono (Kd.R_tight rfl hr) (fun k hk => r2.1 k hk.symm)
  exact Kd.H_back (H_cell hH hk (fun k hk => hk.1)) (okp := oki) (⟨_, _, _, _, _, p, rfl, Kd.R_kept r0 hk (fun k e1 e2 => by have := e1.2; have := e2.2; omega), Kd.R_kept r1 hk (fun k e1 e2 => by have := e1.2; have := e2.2; omega), hr', Kd.R_kept r4 hk (fun k e1 e2 => by have := e1.2; have := e2.2; omega), Kd.S_kept r5 hk (fun k e1 e2 => by have := e1.2; have := e2.2; omega)⟩ : (kp (m + 1)).M W' base oki ⟨(rdP xs i).K, (rdP xs i).V, t, (rdP xs i).g, (rdP xs i).O, (rdP xs i).L⟩ _) (fun _ h => h)
 ·intro W' t hk hr
  have hr' := Kd.R_mono (Kd.R_tight rfl hr) (fun k hk => r4.1 k hk.symm)
  exact Kd.H_back (H_cell hH hk (fun k hk => hk.1)) (okp := oki) (⟨_, _, _, _, _, p, rfl, Kd.R_kept r0 hk (fun k e1 e2 => by have := e1.2; have := e2.2; omega), Kd.R_kept r1 hk (fun k e1 e2 => by have := e1.2; have := e2.2; omega), Kd.R_kept r2 hk (fun k e1 e2 => by have := e1.2; have := e2.2; omega), hr', Kd.S_kept r5 hk (fun k e1 e2 => by have := e1.2; have := e2.2; omega)⟩ : (kp (m + 1)).M W' base oki ⟨(rdP xs i).K, (rdP xs i).V, (rdP xs i).C, (rdP xs i).g, t, (rdP xs i).L⟩ _) (fun _ h => h)
 ·intro W' t hk hr
  exact Kd.H_back (H_cell hH hk (fun k hk => hk.1)) (okp := oki) (⟨_, _, _, _, _, p, rfl, Kd.R_kept r0 hk (fun k e1 e2 => by have := e1.2; have := e2.2; omega), Kd.R_kept r1 hk (fun k e1 e2 => by have := e1.2; have := e2.2; omega), Kd.R_kept r2 hk (fun k e1 e2 => by have := e1.2; have := e2.2; omega), Kd.R_kept r4 hk (fun k e1 e2 => by have := e1.2; have := e2.2; omega), hr⟩ : (kp (m + 1)).M W' base oki ⟨(rdP xs i).K, (rdP xs i).V, (rdP xs i).C, (rdP xs i).g, (rdP xs i).O, t⟩ _) (fun _ h => h)
 ·intro q
  have hfar : ∀ k, oki k → k ≠ g := fun k hk => (hoki k hk).2
  obtain ⟨h3, _⟩ := Kd.H_seg hH h0 h1 (seg := [.int .i64 q]) (j := 3) (show 3 + 1 ≤ 6 by decide) (fun q hq => by rw [List.mem_singleton.1 hq]; rfl)
  refine Kd.H_back h3 (okp := oki) (⟨_, _, _, _, _, p, rfl, Kd.R_far (p := ⟨g, i.toNat * 6 + 3, none⟩) r0 (fun k hk => hfar k hk.1) (.int .i64 q), Kd.R_far (p := ⟨g, i.toNat * 6 + 3, none⟩) r1 (fun k hk => hfar k hk.1) (.int .i64 q), Kd.R_far (p := ⟨g, i.toNat * 6 + 3, none⟩) r2 (fun k hk => hfar k hk.1) (.int .i64 q), Kd.R_far (p := ⟨g, i.toNat * 6 + 3, none⟩) r4 (fun k hk => hfar k hk.1) (.int .i64 q), Kd.S_far (p := ⟨g, i.toNat * 6 + 3, none⟩) r5 (fun k hk => hfar k hk.1) (.int .i64 q)⟩ : (kp (m + 1)).M _ base oki ⟨(rdP xs i).K, (rdP xs i).V, (rdP xs i).C, q, (rdP xs i).O, (rdP xs i).L⟩ _) (fun _ h => h)
theorem rdP_set (xs : List Pc) (i : Int) (y : Pc) (h : i.toNat < xs.length) : rdP (xs.set i.toNat y) i = y := by
 unfold rdP; rw [List.getD_eq_getElem?_getD, List.getElem?_set_self h]; rfl
def MarkS (n : Nat) : Prop := ∀ (xs : List Pc) (a : Nat) (P : Nat → Prop) (u : Value) (w0 w : World), (xs.length ≤ 100 ∧ ∀ y ∈ xs, SmP n y) → a + ofs (szE n) xs xs.length ≤ 100000000 → Below w0.heap.size w0 w → Kd.S (kp n) 47 w w0.heap.size P u xs →
 Calls Try.prog 49 #[u, .int .i64 (a : Int)] w fun e w' => e = .returned (.int .i64 ((a + ofs (szE n) xs xs.length : Nat) : Int)) ∧ Kd.S (kp n) 47 w' w0.heap.size P u (mkLof (mkE n) (szE n) a xs) ∧ Below w0.heap.size w0 w' ∧ Kept w w' P
theorem markPS : ∀ n, MarkS n := by
 intro n
 induction n with
 | zero =>
  intro xs a P u w0 w hs ha hB hS
  have hl : xs = [] := by
   cases xs with
   | nil => rfl
   | cons y l => exact (hs.2 y List.mem_cons_self).elim
  subst hl
  have HB := zA hB
  have HS := zA hS
  obtain ⟨m0, hm⟩ : ∃ q, q = ((a + ofs (szE 0) [] ([] : List Pc).length : Nat) : Int) := ⟨_, rfl⟩
  have hm2 : m0 = (a : Int) := by rw [hm]; rfl
  rw [← hm, ← hm2]
  obtain ⟨U, cu, eo⟩ := Kd.S_slice hS
  subst eo
  clear hs ha hB hS hm hm2
  go_enter Try.func49, Try.ntmps49
  go_wp2
  go_loopg [1, 5] 1 (fun kq v1 v5 w' => v1 = .int .i64 m0 ∧ v5 = .int .i64 0 ∧ w' = w)
  case atStart => exact ⟨rfl, rfl, rfl⟩
  case round =>
   obtain ⟨rfl, rfl, rfl⟩ := hrel
   go_wp2
   go_ret
   exact ⟨by first | rfl | (simp <;> rfl), HS.out, HB.out, Kept.refl _ _⟩
 | succ n ih =>
  intro xs a P u w0 w hs ha hB hS
  have HB := zA hB
  have HS := zA hS
  have HSM := zA hs
  have HAB := zA ha
  have HKP := zA (Kept.refl w P)
  have HOP := zA (show ∀ k_, u.ownBlock = some k_ → P k_ from fun k_ e => (Kd.S_R hS).1 k_ e)
  obtain ⟨U, cu, eo⟩ := Kd.S_slice hS
  subst eo
  obtain ⟨mE, hmE⟩ : ∃ q, q = ((a + ofs (szE (n + 1)) xs xs.length : Nat) : Int) := ⟨_, rfl⟩
  rw [← hmE]
  have HME := zA hmE
  obtain ⟨R, hR⟩ : ∃ q, q = mkLof (mkE (n + 1)) (szE (n + 1)) a xs := ⟨_, rfl⟩
  rw [← hR]
  have HRR := zA hR
  obtain ⟨mS, hmS⟩ : ∃ q, q = (a : Int) := ⟨_, rfl⟩
  rw [← hmS]
  have HMS := zA hmS
  have hu47 := Try.underlying47
  have hu43 := Try.underlying43
  clear hs ha hB hS hmE hR hmS
  go_enter Try.func49, Try.ntmps49
  go_wp2
  go_loopg [1, 5] (xs.length + 1) (fun kq v1 v5 w' => ∃ (ys : List Pc) (m0 z : Int) (i : Nat), v1 = .int .i64 m0 ∧ v5 = .int .i64 z ∧ Aside0 (m0 = ((a + ofs (szE (n + 1)) xs i : Nat) : Int)) ∧ Aside0 (z = (i : Int)) ∧ Aside0 (kq + i = xs.length + 1) ∧ Aside0 (i ≤ xs.length) ∧ Aside0 (ys.length = xs.length ∧ (∀ j, j < i → ys[j]? = R[j]?) ∧ ∀ j, i ≤ j → ys[j]? = xs[j]?) ∧ Aside0 (Kd.S (kp (n + 1)) 47 w' w0.heap.size P (.slice U xs.length cu) ys) ∧ Aside0 (Below w0.heap.size w0 w') ∧ Aside0 (Kept w w' P))
  case atStart => exact ⟨xs, mS, 0, 0, rfl, rfl, ⟨by rw [HMS.out, ofs_zero]; rfl⟩, ⟨rfl⟩, ⟨by omega⟩, ⟨by omega⟩, ⟨rfl, fun j h => by omega, fun _ _ => rfl⟩, HS, HB, HKP⟩
  case round =>
   clear HS HB HKP
   obtain ⟨ys, m0, z, i, rfl, rfl, HM0, HZ, HK, HI, HYS, HS, HB, HKP⟩ := hrel
   by_cases hi : i < xs.length
   ·obtain ⟨g1, rfl⟩ : ∃ g1, gk = g1 + 1 := ⟨gk - 1, by have := HK.out; omega⟩
    have hz := HZ.out
    have h100 := HSM.out.1
    have hnx := ofs_next (szE (n + 1)) xs i hi
    have hof := ofs_le (szE (n + 1)) xs (i + 1) (by omega)
    have hab := HAB.out
    have hyl := HYS.out.1
    obtain ⟨s0, s1, s2, s4, s5, s6⟩ := HSM.out.2 xs[i] (List.getElem_mem hi)
    have HAT := zA (mkLof_at (mkE (n + 1)) (szE (n + 1)) xs a i hi)
    obtain ⟨x, hx⟩ : ∃ q, q = xs[i] := ⟨_, rfl⟩
    have hxr : rdP ys z = x := by
     rw [hz, rdP_mem (by omega), hx]
     have h1 := HYS.out.2.2 i (Nat.le_refl _)
     rw [List.getElem?_eq_getElem (by omega), List.getElem?_eq_getElem hi] at h1
     exact Option.some.inj h1
    rw [← hx] at hnx s0 s1 s2 s4 s5 s6 HAT
    obtain ⟨b, hb⟩ : ∃ q, q = a + ofs (szE (n + 1)) xs i := ⟨_, rfl⟩
    rw [← hb] at HAT
    have hsz : szE (n + 1) x = x.K.length + x.V.length + x.C.length + 1 + x.O.length + ofs (szE n) x.L x.L.length := rfl
    obtain ⟨k0, hk0⟩ := Ev.rounds (markS x.K b (by omega) (by omega))
    obtain ⟨k1, hk1⟩ := Ev.rounds (markS x.V (b + x.K.length) (by omega) (by omega))
    obtain ⟨k2, hk2⟩ := Ev.rounds (markS x.C (b + x.K.length + x.V.length) (by omega) (by omega))
    obtain ⟨k4, hk4⟩ := Ev.rounds (markN x.O (b + x.K.length + x.V.length + x.C.length + 1) (by omega) (by omega))
    have hk5 := fun P u w0 w => ih x.L (b + x.K.length + x.V.length + x.C.length + 1 + x.O.length) P u w0 w ⟨s5, s6⟩ (by omega)
    have hm0 : m0 = (b : Int) := by rw [HM0.out, hb]
    have hbd : b + x.K.length + x.V.length + x.C.length ≤ 1000000000000 := by omega
    have hend : ((b + x.K.length + x.V.length + x.C.length + 1 + x.O.length + ofs (szE n) x.L x.L.length : Nat) : Int) = ((a + ofs (szE (n + 1)) xs (i + 1) : Nat) : Int) := by omega
    obtain ⟨t0, f0⟩ : ∃ q, q = marks b x.K.length := ⟨_, rfl⟩
    obtain ⟨t1, f1⟩ : ∃ q, q = marks (b + x.K.length) x.V.length := ⟨_, rfl⟩
    obtain ⟨t2, f2⟩ : ∃ q, q = marks (b + x.K.length + x.V.length) x.C.length := ⟨_, rfl⟩
    obtain ⟨t4, f4⟩ : ∃ q, q = mkN (b + x.K.length + x.V.length + x.C.length + 1) x.O.length := ⟨_, rfl⟩
    obtain ⟨t5, f5⟩ : ∃ q, q = mkLof (mkE n) (szE n) (b + x.K.length + x.V.length + x.C.length + 1 + x.O.length) x.L := ⟨_, rfl⟩
    obtain ⟨m1, e1⟩ : ∃ q, q = ((b + x.K.length : Nat) : Int) := ⟨_, rfl⟩
    obtain ⟨m2, e2⟩ : ∃ q, q = ((b + x.K.length + x.V.length : Nat) : Int) := ⟨_, rfl⟩
    obtain ⟨m3, e3⟩ : ∃ q, q = ((b + x.K.length + x.V.length + x.C.length : Nat) : Int) := ⟨_, rfl⟩
    obtain ⟨m5, e5⟩ : ∃ q, q = ((b + x.K.length + x.V.length + x.C.length + 1 + x.O.length : Nat) : Int) := ⟨_, rfl⟩
    obtain ⟨m6, e6⟩ : ∃ q, q = ((b + x.K.length + x.V.length + x.C.length + 1 + x.O.length + ofs (szE n) x.L x.L.length : Nat) : Int) := ⟨_, rfl⟩
    have hmk : mkE (n + 1) b x = ⟨t0, t1, t2, m3, t4, t5⟩ := by rw [f0, f1, f2, f4, f5, e3]; rfl
    rw [hmk] at HAT
    have HZ1 := zA (show wrap64 (z + 1) = ((i + 1 : Nat) : Int) from by unfold wrap64; omega)
    have HZ0 := zA (show 0 ≤ z from by omega)
    have HZN := zA (show z < (xs.length : Int) from by omega)
    have HIX := zA (show z.toNat < ys.length from by omega)
    have HII := zA (show z.toNat = i ∧ i < xs.length from ⟨by omega, hi⟩)
    have q1 : decide (z < (xs.length : Int)) = true := decide_eq_true HZN.out
    have q2 : (z < (xs.length : Int)) = True := eq_true HZN.out
    have q3 : (0 ≤ z) = True := eq_true HZ0.out
    have q4 : decide (0 ≤ z) = true := decide_eq_true HZ0.out
    have hw := add1 (b + x.K.length + x.V.length + x.C.length) hbd
    rw [← e3] at hw
    rw [← hm0, ← e1, ← f0] at hk0
    rw [← e1, ← e2, ← f1] at hk1
    rw [← e2, ← e3, ← f2] at hk2
    rw [← hw, ← e5, ← f4] at hk4
    rw [← e5, ← e6, ← f5] at hk5
    have E0 := zA hk0
    have E1 := zA hk1
    have E2 := zA hk2
    have E4 := zA hk4
    have E5 := zA hk5
    have HM6 := zA (e6.trans hend)
    obtain ⟨ad, c9, eA⟩ := Kd.R_slice1 (Kd.S_R HS.out) (by omega)
    injection eA with eA eL eC
    clear eL eC
    subst eA
    obtain ⟨g, eg⟩ := Kd.R_head (Kd.S_R HS.out)
    subst eg
    have HPG := zA (show P g from HOP.out g (by simp [Value.ownBlock]))
    have HGB := zA (show w0.heap.size ≤ g from Kd.R_base (Kd.S_R HS.out) g (by simp [Value.ownBlock]))
    have HXR := zA hxr
    clear hk0 hk1 hk2 hk4 hk5 hm0 hbd hend e1 e2 e3 e5 e6 f0 f1 f2 f4 f5 hz h100 hnx hof hab hyl hx hsz hb s0 s1 s2 s4 s5 s6 hi hw hmk hxr
    obtain ⟨A0, c0, A1, c1, A2, c2, A4, c4, A5, c5, q0_, q1_, q2_, q4_, q5_, hc0, hc1, hc2, hc3, hc4, hc5, hf3, hr0, hr1, hr2, hr4, hr5, hq, hb0, hb1, hb2, hb4, hb5, hb3⟩ := lendP HS.out z HZ0.out HZN.out x HXR.out; have HR := zA hr0; have HO := zA (fun k_ h_ => hq k_ ((Or.inl) h_)); have HBK := zA hb0; clear hr0 hr1 hr2 hr4 hr5 hq hb0 hb1 hb2 hb4 hb5 hb3 hc1 hc2 hc3 hc4 hc5 hf3
    go_wp2_with (first | ((with_reducible refine gate_dst (N := 19) rfl ?_); refine goesL_ (some 19) rfl rfl Try.func39 (by kernel_rfl) rfl #[.slice A0 x.K.length c0, .int .i64 m0] rfl (by (try simp only [zAA, zAB, zAC]); first | done | rfl) ?_; refine (laws_markStringS.calls k0 q0_ (.slice A0 x.K.length c0) x.K m0 m1 t0 w0 _ HB.out HR.out E0.out).mono ?_; rintro e w19 ⟨rfl, hr, hb, hk⟩; refine ⟨_, rfl, ?_⟩; have n0_ := zA (by have := HBK.out _ _ hk hr; exact this : Kd.S (kp (n + 1)) 47 w19 w0.heap.size P (.slice (some ⟨g, 0, none⟩) xs.length cu) (ys.set z.toNat ⟨t0, x.V, x.C, x.g, x.O, x.L⟩)); have n1_ := zA hb; have n2_ := zA (kept_more HKP.out hk (fun i_ hi_ => Or.inl (HO.out i_ hi_))); clear HS HB HKP HR HO HBK hc0 hr hb hk; obtain ⟨yn, hy⟩ : ∃ q, q = ys.set z.toNat (⟨t0, x.V, x.C, x.g, x.O, x.L⟩ : Pc) := ⟨_, rfl⟩; rw [← hy] at n0_; have HS := n0_; have HB := n1_; have HKP := n2_; clear n0_ n1_ n2_; have HXS := zA hy; clear hy; obtain ⟨A0, c0, A1, c1, A2, c2, A4, c4, A5, c5, q0_, q1_, q2_, q4_, q5_, hc0, hc1, hc2, hc3, hc4, hc5, hf3, hr0, hr1, hr2, hr4, hr5, hq, hb0, hb1, hb2, hb4, hb5, hb3⟩ := lendP HS.out z HZ0.out HZN.out ⟨t0, x.V, x.C, x.g, x.O, x.L⟩ (by rw [HXS.out]; exact rdP_set _ _ _ HIX.out); have HR := zA hr1; have HO := zA (fun k_ h_ => hq k_ ((fun h_ => Or.inr (Or.inl h_)) h_)); have HBK := zA hb1; clear hr0 hr1 hr2 hr4 hr5 hq hb0 hb1 hb2 hb4 hb5 hb3 hc0 hc2 hc3 hc4 hc5 hf3) | ((with_reducible refine gate_dst (N := 27) rfl ?_); refine goesL_ (some 27) rfl rfl Try.func39 (by kernel_rfl) rfl #[.slice A1 x.V.length c1, .int .i64 m1] rfl (by (try simp only [zAA, zAB, zAC]); first | done | rfl) ?_; refine (laws_markStringS.calls k1 q1_ (.slice A1 x.V.length c1) x.V m1 m2 t1 w0 _ HB.out HR.out E1.out).mono ?_; rintro e w27 ⟨rfl, hr, hb, hk⟩; refine ⟨_, rfl, ?_⟩; have n0_ := zA (by have := HBK.out _ _ hk hr; rw [HXS.out, List.set_set] at this; exact this : Kd.S (kp (n + 1)) 47 w27 w0.heap.size P (.slice (some ⟨g, 0, none⟩) xs.length cu) (ys.set z.toNat ⟨t0, t1, x.C, x.g, x.O, x.L⟩)); have n1_ := zA hb; have n2_ := zA (kept_more HKP.out hk (fun i_ hi_ => Or.inl (HO.out i_ hi_))); clear HS HB HKP HR HO HBK hc1 hr hb hk; obtain ⟨yn, hy⟩ : ∃ q, q = ys.set z.toNat (⟨t0, t1, x.C, x.g, x.O, x.L⟩ : Pc) := ⟨_, rfl⟩; rw [← hy] at n0_; have HS := n0_; have HB := n1_; have HKP := n2_; clear n0_ n1_ n2_ HXS; have HXS := zA hy; clear hy; obtain ⟨A0, c0, A1, c1, A2, c2, A4, c4, A5, c5, q0_, q1_, q2_, q4_, q5_, hc0, hc1, hc2, hc3, hc4, hc5, hf3, hr0, hr1, hr2, hr4, hr5, hq, hb0, hb1, hb2, hb4, hb5, hb3⟩ := lendP HS.out z HZ0.out HZN.out ⟨t0, t1, x.C, x.g, x.O, x.L⟩ (by rw [HXS.out]; exact rdP_set _ _ _ HIX.out); have HR := zA hr2; have HO := zA (fun k_ h_ => hq k_ ((fun h_ => Or.inr (Or.inr (Or.inl h_))) h_)); have HBK := zA hb2; clear hr0 hr1 hr2 hr4 hr5 hq hb0 hb1 hb2 hb4 hb5 hb3 hc0 hc1 hc3 hc4 hc5 hf3) | ((with_reducible refine gate_dst (N := 35) rfl ?_); refine goesL_ (some 35) rfl rfl Try.func39 (by kernel_rfl) rfl #[.slice A2 x.C.length c2, .int .i64 m2] rfl (by (try simp only [zAA, zAB, zAC]); first | done | rfl) ?_; refine (laws_markStringS.calls k2 q2_ (.slice A2 x.C.length c2) x.C m2 m3 t2 w0 _ HB.out HR.out E2.out).mono ?_; rintro e w35 ⟨rfl, hr, hb, hk⟩; refine ⟨_, rfl, ?_⟩; have n0_ := zA (by have := HBK.out _ _ hk hr; rw [HXS.out, List.set_set] at this; exact this : Kd.S (kp (n + 1)) 47 w35 w0.heap.size P (.slice (some ⟨g, 0, none⟩) xs.length cu) (ys.set z.toNat ⟨t0, t1, t2, x.g, x.O, x.L⟩)); have n1_ := zA hb; have n2_ := zA (kept_more HKP.out hk (fun i_ hi_ => Or.inl (HO.out i_ hi_))); clear HS HB HKP HR HO HBK hc2 hr hb hk; obtain ⟨yn, hy⟩ : ∃ q, q = ys.set z.toNat (⟨t0, t1, t2, x.g, x.O, x.L⟩ : Pc) := ⟨_, rfl⟩; rw [← hy] at n0_; have HS := n0_; have HB := n1_; have HKP := n2_; clear n0_ n1_ n2_ HXS; have HXS := zA hy; clear hy; obtain ⟨A0, c0, A1, c1, A2, c2, A4, c4, A5, c5, q0_, q1_, q2_, q4_, q5_, hc0, hc1, hc2, hc3, hc4, hc5, hf3, hr0, hr1, hr2, hr4, hr5, hq, hb0, hb1, hb2, hb4, hb5, hb3⟩ := lendP HS.out z HZ0.out HZN.out ⟨t0, t1, t2, x.g, x.O, x.L⟩ (by rw [HXS.out]; exact rdP_set _ _ _ HIX.out); have hS3 := hb3 m3; rw [HXS.out, List.set_set] at hS3; clear hr0 hr1 hr2 hr4 hr5 hq hb0 hb1 hb2 hb4 hb5 hb3 hc0 hc1 hc2 hc4 hc5; have n0_ := zA hS3; have n1_ := zA (below_set HB.out HGB.out (j := z.toNat * 6 + 3) (v := .int .i64 m3)); have n2_ := zA (kept_set HKP.out HPG.out (z.toNat * 6 + 3) (.int .i64 m3)); clear HS HB HKP HXS hS3; obtain ⟨yn, hy⟩ : ∃ q, q = ys.set z.toNat (⟨t0, t1, t2, m3, x.O, x.L⟩ : Pc) := ⟨_, rfl⟩; rw [← hy] at n0_; have HS := n0_; have HB := n1_; have HKP := n2_; clear n0_ n1_ n2_; have HXS := zA hy; clear hy; have hs3 := hc3; have hg3 := hf3; clear hc3 hf3; obtain ⟨A0, c0, A1, c1, A2, c2, A4, c4, A5, c5, q0_, q1_, q2_, q4_, q5_, hc0, hc1, hc2, hc3, hc4, hc5, hf3, hr0, hr1, hr2, hr4, hr5, hq, hb0, hb1, hb2, hb4, hb5, hb3⟩ := lendP HS.out z HZ0.out HZN.out ⟨t0, t1, t2, m3, x.O, x.L⟩ (by rw [HXS.out]; exact rdP_set _ _ _ HIX.out); have HR := zA hr4; have HO := zA (fun k_ h_ => hq k_ ((fun h_ => Or.inr (Or.inr (Or.inr (Or.inl h_)))) h_)); have HBK := zA hb4; clear hr0 hr1 hr2 hr4 hr5 hq hb0 hb1 hb2 hb4 hb5 hb3 hc0 hc1 hc2 hc3 hc5 hf3) | ((with_reducible refine gate_dst (N := 50) rfl ?_); refine goesL_ (some 50) rfl rfl Try.func48 (by kernel_rfl) rfl #[.slice A4 x.O.length c4, .int .i64 (wrap64 (m3 + 1))] rfl (by (try simp only [zAA, zAB, zAC]); first | done | rfl) ?_; refine (laws_markIntS.calls k4 q4_ (.slice A4 x.O.length c4) x.O (wrap64 (m3 + 1)) m5 t4 w0 _ HB.out HR.out E4.out).mono ?_; rintro e w50 ⟨rfl, hr, hb, hk⟩; refine ⟨_, rfl, ?_⟩; have n0_ := zA (by have := HBK.out _ _ hk hr; rw [HXS.out, List.set_set] at this; exact this : Kd.S (kp (n + 1)) 47 w50 w0.heap.size P (.slice (some ⟨g, 0, none⟩) xs.length cu) (ys.set z.toNat ⟨t0, t1, t2, m3, t4, x.L⟩)); have n1_ := zA hb; have n2_ := zA (kept_more HKP.out hk (fun i_ hi_ => Or.inl (HO.out i_ hi_))); clear HS HB HKP HR HO HBK hc4 hs3 hg3 hr hb hk; obtain ⟨yn, hy⟩ : ∃ q, q = ys.set z.toNat (⟨t0, t1, t2, m3, t4, x.L⟩ : Pc) := ⟨_, rfl⟩; rw [← hy] at n0_; have HS := n0_; have HB := n1_; have HKP := n2_; clear n0_ n1_ n2_ HXS; have HXS := zA hy; clear hy; obtain ⟨A0, c0, A1, c1, A2, c2, A4, c4, A5, c5, q0_, q1_, q2_, q4_, q5_, hc0, hc1, hc2, hc3, hc4, hc5, hf3, hr0, hr1, hr2, hr4, hr5, hq, hb0, hb1, hb2, hb4, hb5, hb3⟩ := lendP HS.out z HZ0.out HZN.out ⟨t0, t1, t2, m3, t4, x.L⟩ (by rw [HXS.out]; exact rdP_set _ _ _ HIX.out); have HR := zA hr5; have HO := zA (fun k_ h_ => hq k_ ((fun h_ => Or.inr (Or.inr (Or.inr (Or.inr h_)))) h_)); have HBK := zA hb5; clear hr0 hr1 hr2 hr4 hr5 hq hb0 hb1 hb2 hb4 hb5 hb3 hc0 hc1 hc2 hc3 hc4 hf3) | ((with_reducible refine gate_dst (N := 57) rfl ?_); refine goesL_ (some 57) rfl rfl Try.func49 (by kernel_rfl) rfl #[.slice A5 x.L.length c5, .int .i64 m5] rfl (by (try simp only [zAA, zAB, zAC]); first | done | rfl) ?_; refine (E5.out q5_ (.slice A5 x.L.length c5) w0 _ HB.out HR.out).mono ?_; rintro e w57 ⟨rfl, hr, hb, hk⟩; refine ⟨_, rfl, ?_⟩; have n0_ := zA (by have := HBK.out _ _ hk hr; rw [HXS.out, List.set_set] at this; exact this : Kd.S (kp (n + 1)) 47 w57 w0.heap.size P (.slice (some ⟨g, 0, none⟩) xs.length cu) (ys.set z.toNat ⟨t0, t1, t2, m3, t4, t5⟩)); have n1_ := zA hb; have n2_ := zA (kept_more HKP.out hk (fun i_ hi_ => Or.inl (HO.out i_ hi_))); clear HS HB HKP HR HO HBK hc5 hr hb hk; obtain ⟨yn, hy⟩ : ∃ q, q = ys.set z.toNat (⟨t0, t1, t2, m3, t4, t5⟩ : Pc) := ⟨_, rfl⟩; rw [← hy] at n0_; have HS := n0_; have HB := n1_; have HKP := n2_; clear n0_ n1_ n2_ HXS; have HXS := zA hy; clear hy))
    clear q1 q2 q3 q4
    go_roundg g1
    case measure => omega
    case rel => exact ⟨yn, m6, wrap64 (z + 1), i + 1, rfl, rfl, HM6, HZ1, ⟨by have := HK.out; omega⟩, ⟨by have := HII.out; omega⟩, ⟨by rw [HXS.out, List.length_set]; exact HYS.out.1, fun j hj => by
     rw [HXS.out, HII.out.1]
     by_cases e : j = i
     ·subst e; rw [List.getElem?_set_self (by have := HYS.out.1; have := HII.out; omega), HRR.out, HAT.out]
     ·rw [List.getElem?_set_ne (fun q => e q.symm)]; exact HYS.out.2.1 j (by omega), fun j hj => by
     rw [HXS.out, HII.out.1, List.getElem?_set_ne (by omega)]; exact HYS.out.2.2 j (by omega)⟩, HS, HB, HKP⟩
   ·have hz := HZ.out
    have q1 : decide (z < (xs.length : Int)) = false := decide_eq_false (by omega)
    have hme : m0 = mE := by rw [HM0.out, HME.out, show i = xs.length by have := HI.out; omega]
    have hyr : ys = R := by
     apply List.ext_getElem?
     intro j
     by_cases c : j < i
     ·exact HYS.out.2.1 j c
     ·rw [List.getElem?_eq_none (by have := HYS.out.1; have := HI.out; omega), List.getElem?_eq_none (by rw [HRR.out, mkLof_length]; have := HI.out; omega)]
    rw [hyr] at HS
    clear hz hi hyr
    go_wp2
    go_ret
    exact ⟨by rw [hme]; first | rfl | (simp <;> rfl), HS.out, HB.out, HKP.out⟩
end Go.Proofs.Ytnplghcbdaiogaa.RP
end
section
namespace Go.Proofs.Ytnplghcbdaiogaa.RQ
open Go.RowKit Go.Proofs.YtnplghcbdaiogaaW.PrintWords Go.Proofs.YtnplghcbdaiogaaW.PrintLast Go.Proofs.YtnplghcbdaiogaaW.PrintMore Go.Proofs.Ytnplghcbdaiogaa.PA Go.Proofs.Ytnplghcbdaiogaa.PB Go.Proofs.Ytnplghcbdaiogaa.PL Go.Proofs.Ytnplghcbdaiogaa.PW Go.Proofs.Ytnplghcbdaiogaa.RF Go.Proofs.Ytnplghcbdaiogaa.RL Go.Proofs.Ytnplghcbdaiogaa.RM Go.Proofs.Ytnplghcbdaiogaa.RN
open Go.Proofs.Ytnplghcbdaiogaa.RG (kept_set kept_more)
attribute [local go_sem] max2_int min2_int max_two min_two max_three min_three max_four min_four
set_option linter.unusedVariables false
set_option linter.unusedSimpArgs false
set_option maxHeartbeats 4000000
set_option maxRecDepth 100000
theorem heldT {n : Nat} (x : Pc) (a : Nat) (w : World) (y : Pc) (hy : y = mkT n a x) {A0 A1 A2 A4 A5 : Option Addr} {c0 c1 c2 c4 c5 : Nat} (hA : (kp (n + 1)).K w y [.slice A0 y.K.length c0, .slice A1 y.V.length c1, .slice A2 y.C.length c2, .int .i64 y.g, .slice A4 y.O.length c4, .slice A5 y.L.length c5]) (hs : SmP (n + 1) x) (ha : a + szT n x ≤ 100000000) :
  Calls Try.prog 21 #[.agg #[.slice A0 y.K.length c0, .slice A1 y.V.length c1, .slice A2 y.C.length c2, .int .i64 y.g, .slice A4 y.O.length c4, .slice A5 y.L.length c5], .int .i64 (a : Int)] w fun e w' => e = .returned (.int .i64 ((a + szT n x : Nat) : Int)) ∧ Below w.heap.size w w' := by
 have hu47 := Try.underlying47
 have hu43 := Try.underlying43
 obtain ⟨s0, s1, s2, s4, s5, s6⟩ := hs
 have hsz : szT n x = x.K.length + x.V.length + x.C.length + x.O.length + ofs (szE n) x.L x.L.length := rfl
 obtain ⟨k0, hk0⟩ := Ev.rounds (ev_bind (heldS x.K.length a (by omega) (by omega)) (ev_neg (by omega) (ev_bind (heldS x.V.length (a + x.K.length) (by omega) (by omega)) (ev_neg (by omega) (ev_bind (heldS x.C.length (a + x.K.length + x.V.length) (by omega) (by omega)) (ev_neg (by omega) (Ev.now _)))))) : Ev (fun k => laws_heldShown.f k (marks a x.K.length) (marks (a + x.K.length) x.V.length) (marks (a + x.K.length + x.V.length) x.C.length) x.g (a : Int)) ((a + x.K.length + x.V.length + x.C.length : Nat) : Int))
 obtain ⟨k4, hk4⟩ := Ev.rounds (heldN x.O.length (a + x.K.length + x.V.length + x.C.length) (by omega) (by omega))
 have hk5 := fun A c w => heldPS n x.L (a + x.K.length + x.V.length + x.C.length + x.O.length) A c w ⟨s5, s6⟩ (by omega)
 have hk0 : laws_heldShown.f k0 (marks a x.K.length) (marks (a + x.K.length) x.V.length) (marks (a + x.K.length + x.V.length) x.C.length) x.g (a : Int) = some ((a + x.K.length + x.V.length + x.C.length : Nat) : Int) := hk0
 rw [show marks a x.K.length = y.K by rw [hy]; rfl, show marks (a + x.K.length) x.V.length = y.V by rw [hy]; rfl, show marks (a + x.K.length + x.V.length) x.C.length = y.C by rw [hy]; rfl, show x.g = y.g by rw [hy]; rfl] at hk0
 rw [show mkN (a + x.K.length + x.V.length + x.C.length) x.O.length = y.O by rw [hy]; rfl] at hk4
 rw [show mkLof (mkE n) (szE n) (a + x.K.length + x.V.length + x.C.length + x.O.length) x.L = y.L by rw [hy]; rfl] at hk5
 obtain ⟨m0, e0⟩ : ∃ q, q = (a : Int) := ⟨_, rfl⟩
 obtain ⟨m3, e3⟩ : ∃ q, q = ((a + x.K.length + x.V.length + x.C.length : Nat) : Int) := ⟨_, rfl⟩
 obtain ⟨m5, e5⟩ : ∃ q, q = ((a + x.K.length + x.V.length + x.C.length + x.O.length : Nat) : Int) := ⟨_, rfl⟩
 obtain ⟨m6, e6⟩ : ∃ q, q = ((a + szT n x : Nat) : Int) := ⟨_, rfl⟩
 have e7 : ((a + x.K.length + x.V.length + x.C.length + x.O.length + ofs (szE n) x.L x.L.length : Nat) : Int) = m6 := by rw [e6, hsz]; omega
 have d3 : decide (m3 < 0) = false := decide_eq_false (by omega)
 have d5 : decide (m5 < 0) = false := decide_eq_false (by omega)
 have d6 : decide (m6 < 0) = false := decide_eq_false (by omega)
 rw [← e0, ← e3] at hk0
 rw [← e3, ← e5] at hk4
 rw [← e5, e7] at hk5
 rw [← e0, ← e6]
 have E0 := zA hk0
 have E4 := zA hk4
 have E5 := zA hk5
 have HB := zA (Below.refl w.heap.size w)
 have HKA := zA hA
 clear hk0 hk4 hk5 e0 e3 e5 e6 e7 hsz s0 s1 s2 s4 s5 s6 ha hA hy
 go_enter Try.func21, Try.ntmps21
 go_wp2_with (first | ((with_reducible refine gate_dst (N := 2) rfl ?_); refine box_event ?hg (N := 2) ?hd (cs := #[.slice A0 y.K.length c0, .slice A1 y.V.length c1, .slice A2 y.C.length c2, .int .i64 y.g, .slice A4 y.O.length c4, .slice A5 y.L.length c5]) (t := 47) ?hr ?_; (case hd => rfl); (case hg => rfl); (case hr => first | (go_simp; done) | (go_simp; rfl)); intro g2 hg w2 hbox hb; have n0_ := zA (zAD HB.out hb); have n1_ := zA ((kp (n + 1)).K_below hb HKA.out); clear HB HKA; have HB := n0_; have HKA := n1_; clear n0_ n1_; have BK := zA hbox; clear hb hbox hg; obtain ⟨hx0, hx1, hx2, hx3, hx4, hx5⟩ := cell6 BK.out) | ((with_reducible refine gate_dst (N := 8) rfl ?_); refine goesL_ (some 8) rfl rfl Try.func50 (by kernel_rfl) rfl #[.agg #[.slice A0 y.K.length c0, .slice A1 y.V.length c1, .slice A2 y.C.length c2, .int .i64 y.g], .int .i64 m0] rfl (by (try simp only [zAA, zAB, zAC]); first | done | rfl) ?_; refine (laws_heldShown.calls k0 A0 c0 y.K A1 c1 y.V A2 c2 y.C y.g m0 m3 _ (kp_facts HKA.out).1.2 (kp_facts HKA.out).1.1 (kp_facts HKA.out).2.1.2 (kp_facts HKA.out).2.1.1 (kp_facts HKA.out).2.2.1.2 (kp_facts HKA.out).2.2.1.1 E0.out).mono ?_; rintro e w8 ⟨rfl, hb⟩; refine ⟨_, rfl, ?_⟩; have n0_ := zA (zAD HB.out hb); have n1_ := zA ((kp (n + 1)).K_below hb HKA.out); have n2_ := zA (blk_below BK.out hb); clear HB HKA BK hb hx0 hx1 hx2 hx3 hx4 hx5; have HB := n0_; have HKA := n1_; have BK := n2_; clear n0_ n1_ n2_; obtain ⟨hx0, hx1, hx2, hx3, hx4, hx5⟩ := cell6 BK.out) | ((with_reducible refine gate_dst (N := 14) rfl ?_); refine goesL_ (some 14) rfl rfl Try.func51 (by kernel_rfl) rfl #[.slice A4 y.O.length c4, .int .i64 m3] rfl (by (try simp only [zAA, zAB, zAC]); first | done | rfl) ?_; refine (Calls.mono (laws_heldIntS.calls k4 A4 c4 y.O m3 m5 _ (kp_facts HKA.out).2.2.2.1.2 (kp_facts HKA.out).2.2.2.1.1 E4.out) (fun e w' h => (⟨h.1, drawn_below h.2⟩ : _ ∧ Below _ _ w'))).mono ?_; rintro e w14 ⟨rfl, hb⟩; refine ⟨_, rfl, ?_⟩; have n0_ := zA (zAD HB.out hb); have n1_ := zA ((kp (n + 1)).K_below hb HKA.out); have n2_ := zA (blk_below BK.out hb); clear HB HKA BK hb hx0 hx1 hx2 hx3 hx4 hx5; have HB := n0_; have HKA := n1_; have BK := n2_; clear n0_ n1_ n2_; obtain ⟨hx0, hx1, hx2, hx3, hx4, hx5⟩ := cell6 BK.out) | ((with_reducible refine gate_dst (N := 20) rfl ?_); refine goesL_ (some 20) rfl rfl Try.func52 (by kernel_rfl) rfl #[.slice A5 y.L.length c5, .int .i64 m5] rfl (by (try simp only [zAA, zAB, zAC]); first | done | rfl) ?_; refine (E5.out A5 c5 _ (kp_facts HKA.out).2.2.2.2.2 (kp_facts HKA.out).2.2.2.2.1).mono ?_; rintro e w20 ⟨rfl, hb⟩; refine ⟨_, rfl, ?_⟩; have n0_ := zA (zAD HB.out hb); have n1_ := zA ((kp (n + 1)).K_below hb HKA.out); have n2_ := zA (blk_below BK.out hb); clear HB HKA BK hb hx0 hx1 hx2 hx3 hx4 hx5; have HB := n0_; have HKA := n1_; have BK := n2_; clear n0_ n1_ n2_; obtain ⟨hx0, hx1, hx2, hx3, hx4, hx5⟩ := cell6 BK.out))
 go_ret
 exact ⟨by first | rfl | (simp <;> rfl), HB.out⟩
theorem markT {n : Nat} (x : Pc) (a : Nat) (P : Nat → Prop) (w0 w : World) {A0 A1 A2 A4 A5 : Option Addr} {c0 c1 c2 c4 c5 : Nat} (hB : Below w0.heap.size w0 w) (hM : (kp (n + 1)).M w w0.heap.size P x [.slice A0 x.K.length c0, .slice A1 x.V.length c1, .slice A2 x.C.length c2, .int .i64 x.g, .slice A4 x.O.length c4, .slice A5 x.L.length c5]) (hs : SmP (n + 1) x) (ha : a + szT n x ≤ 100000000) :
  Calls Try.prog 20 #[.agg #[.slice A0 x.K.length c0, .slice A1 x.V.length c1, .slice A2 x.C.length c2, .int .i64 x.g, .slice A4 x.O.length c4, .slice A5 x.L.length c5], .int .i64 (a : Int)] w fun e w' => e = .returned (.int .i64 ((a + szT n x : Nat) : Int)) ∧ (kp (n + 1)).M w' w0.heap.size P (mkT n a x) [.slice A0 x.K.length c0, .slice A1 x.V.length c1, .slice A2 x.C.length c2, .int .i64 x.g, .slice A4 x.O.length c4, .slice A5 x.L.length c5] ∧ Below w0.heap.size w0 w' ∧ Kept w w' P := by
 have hu47 := Try.underlying47
 have hu43 := Try.underlying43
 obtain ⟨s0, s1, s2, s4, s5, s6⟩ := hs
 have hsz : szT n x = x.K.length + x.V.length + x.C.length + x.O.length + ofs (szE n) x.L x.L.length := rfl
 obtain ⟨k0, hk0⟩ := Ev.rounds (ev_bind (markS x.K a (by omega) (by omega)) (ev_bind (markS x.V (a + x.K.length) (by omega) (by omega)) (ev_bind (markS x.C (a + x.K.length + x.V.length) (by omega) (by omega)) (Ev.now _))) : Ev (fun k => laws_markShown.f k x.K x.V x.C x.g (a : Int)) (((a + x.K.length + x.V.length + x.C.length : Nat) : Int), marks a x.K.length, marks (a + x.K.length) x.V.length, marks (a + x.K.length + x.V.length) x.C.length))
 have hk0 : laws_markShown.f k0 x.K x.V x.C x.g (a : Int) = some (((a + x.K.length + x.V.length + x.C.length : Nat) : Int), marks a x.K.length, marks (a + x.K.length) x.V.length, marks (a + x.K.length + x.V.length) x.C.length) := hk0
 obtain ⟨k4, hk4⟩ := Ev.rounds (markN x.O (a + x.K.length + x.V.length + x.C.length) (by omega) (by omega))
 have hk5 := fun P u w0 w => RP.markPS n x.L (a + x.K.length + x.V.length + x.C.length + x.O.length) P u w0 w ⟨s5, s6⟩ (by omega)
 obtain ⟨t0, f0⟩ : ∃ q, q = marks a x.K.length := ⟨_, rfl⟩
 obtain ⟨t1, f1⟩ : ∃ q, q = marks (a + x.K.length) x.V.length := ⟨_, rfl⟩
 obtain ⟨t2, f2⟩ : ∃ q, q = marks (a + x.K.length + x.V.length) x.C.length := ⟨_, rfl⟩
 obtain ⟨t4, f4⟩ : ∃ q, q = mkN (a + x.K.length + x.V.length + x.C.length) x.O.length := ⟨_, rfl⟩
 obtain ⟨t5, f5⟩ : ∃ q, q = mkLof (mkE n) (szE n) (a + x.K.length + x.V.length + x.C.length + x.O.length) x.L := ⟨_, rfl⟩
 have hmk : mkT n a x = ⟨t0, t1, t2, x.g, t4, t5⟩ := by rw [f0, f1, f2, f4, f5]; rfl
 rw [hmk]
 obtain ⟨m0, e0⟩ : ∃ q, q = (a : Int) := ⟨_, rfl⟩
 obtain ⟨m3, e3⟩ : ∃ q, q = ((a + x.K.length + x.V.length + x.C.length : Nat) : Int) := ⟨_, rfl⟩
 obtain ⟨m5, e5⟩ : ∃ q, q = ((a + x.K.length + x.V.length + x.C.length + x.O.length : Nat) : Int) := ⟨_, rfl⟩
 obtain ⟨m6, e6⟩ : ∃ q, q = ((a + szT n x : Nat) : Int) := ⟨_, rfl⟩
 have e7 : ((a + x.K.length + x.V.length + x.C.length + x.O.length + ofs (szE n) x.L x.L.length : Nat) : Int) = m6 := by rw [e6, hsz]; omega
 rw [← e0, ← e3, ← f0, ← f1, ← f2] at hk0
 rw [← e3, ← e5, ← f4] at hk4
 rw [← e5, e7, ← f5] at hk5
 rw [← e0, ← e6]
 have E0 := zA hk0
 have E4 := zA hk4
 have E5 := zA hk5
 have HB := zA hB
 have HKP := zA (Kept.refl w P)
 have hM2 := (kp (n + 1)).M_bound hM
 obtain ⟨PB, hPB⟩ : ∃ q : Nat → Prop, q = fun k => P k ∧ w0.heap.size ≤ k ∧ k < w.heap.size ∧ ∃ q, q ∈ (kp (n + 1)).E ∧ ∃ cells, w.heap[k]? = some (.cells cells q (0, 0)) := ⟨_, rfl⟩
 rw [← hPB] at hM2
 obtain ⟨PB, rfl⟩ : ∃ q : Nat → Prop, q = PB := ⟨_, rfl⟩
 obtain ⟨v0, v1, v2, v4, v5, p, ev, r0, r1, r2, r4, r5⟩ := hM2
 simp only [List.cons.injEq, and_true, true_and] at ev
 obtain ⟨rfl, rfl, rfl, rfl, rfl⟩ := ev
 have hP1 : ∀ k, PB k → P k ∧ w0.heap.size ≤ k ∧ k < w.heap.size ∧ True := fun k h => by rw [hPB] at h; exact ⟨h.1, h.2.1, h.2.2.1, trivial⟩
 have HPB := zA hP1
 have R0 := zA r0
 have R1 := zA r1
 have R2 := zA r2
 have R4 := zA r4
 have R5 := zA r5
 clear hk0 hk4 hk5 e0 e3 e5 e6 e7 f0 f1 f2 f4 f5 hmk hsz s0 s1 s2 s4 s5 s6 ha hM hB r0 r1 r2 r4 r5 hPB hP1
 go_enter Try.func20, Try.ntmps20
 go_wp2_with (first | ((with_reducible refine gate_dst (N := 2) rfl ?_); refine box_event ?hg (N := 2) ?hd (cs := #[.slice A0 x.K.length c0, .slice A1 x.V.length c1, .slice A2 x.C.length c2, .int .i64 x.g, .slice A4 x.O.length c4, .slice A5 x.L.length c5]) (t := 47) ?hr ?_; (case hd => rfl); (case hg => rfl); (case hr => first | (go_simp; done) | (go_simp; rfl)); intro g2 hg w2 hbox hb; have n0_ := zA (zAD HB.out hb); have n1_ := zA (Kept.of_below hb P); have n5_ := zA (Kd.S_below R5.out hb); have m0_ := zA (Kd.R_below R0.out hb); have m1_ := zA (Kd.R_below R1.out hb); have m2_ := zA (Kd.R_below R2.out hb); have m4_ := zA (Kd.R_below R4.out hb); clear HB HKP R0 R1 R2 R4 R5; have HB := n0_; have HKP := n1_; have R5 := n5_; have R0 := m0_; clear m0_; have R1 := m1_; clear m1_; have R2 := m2_; clear m2_; have R4 := m4_; clear m4_; clear n0_ n1_ n5_; have BK := zA hbox; have HG2 := zA (by rw [hg] : g2 = w.heap.size); clear hb hbox hg; obtain ⟨hx0, hx1, hx2, hx3, hx4, hx5⟩ := cell6 BK.out) | ((with_reducible refine gate_dst (N := 8) rfl ?_); refine goesL_ (some 8) rfl rfl Try.func47 (by kernel_rfl) rfl #[.agg #[.slice A0 x.K.length c0, .slice A1 x.V.length c1, .slice A2 x.C.length c2, .int .i64 x.g], .int .i64 m0] rfl (by (try simp only [zAA, zAB, zAC]); first | done | rfl) ?_; refine (laws_markShown.calls k0 (fun k_ => PB k_ ∧ p k_ = 0) (.slice A0 x.K.length c0) x.K (fun k_ => PB k_ ∧ p k_ = 1) (.slice A1 x.V.length c1) x.V (fun k_ => PB k_ ∧ p k_ = 2) (.slice A2 x.C.length c2) x.C x.g m0 m3 t0 t1 t2 w0 _ HB.out R0.out (fun k_ h1 h2 => by have := h1.2; have := h2.2; omega) (fun k_ h1 h2 => by have := h1.2; have := h2.2; omega) R1.out (fun k_ h1 h2 => by have := h1.2; have := h2.2; omega) (fun k_ h1 h2 => by have := h1.2; have := h2.2; omega) R2.out (fun k_ h1 h2 => by have := h1.2; have := h2.2; omega) (fun k_ h1 h2 => by have := h1.2; have := h2.2; omega) E0.out).mono ?_; rintro e w8 ⟨rfl, r0, r1, r2, hb, hk⟩; refine ⟨_, rfl, ?_⟩; have m4_ := zA (Kd.R_kept R4.out hk (fun k_ h1 h2 => by have h3 := h1.2; rcases h2 with h2 | h2 | h2 <;> (have h4 := h2.2; omega))); have m5_ := zA (Kd.S_kept R5.out hk (fun k_ h1 h2 => by have h3 := h1.2; rcases h2 with h2 | h2 | h2 <;> (have h4 := h2.2; omega))); have m0_ := zA (Kd.R_mono (Kd.R_tight rfl r0) (fun k_ h_ => R0.out.1 k_ h_.symm)); have m1_ := zA (Kd.R_mono (Kd.R_tight rfl r1) (fun k_ h_ => R1.out.1 k_ h_.symm)); have m2_ := zA (Kd.R_mono (Kd.R_tight rfl r2) (fun k_ h_ => R2.out.1 k_ h_.symm)); have n1_ := zA (kept_more HKP.out hk (fun i_ hi_ => Or.inl (by rcases hi_ with h_ | h_ | h_ <;> exact (HPB.out _ h_.1).1))); have n2_ := zA (blk_kept BK.out hk (fun h_ => by have h4 := HG2.out; rcases h_ with h_ | h_ | h_ <;> (have h5 := (HPB.out _ h_.1).2.2.1; omega))); clear HB HKP BK R0 R1 R2 R4 R5 r0 r1 r2 hk hx0 hx1 hx2 hx3 hx4 hx5; have HB := zA hb; have HKP := n1_; have BK := n2_; clear n1_ n2_ hb; have R0 := m0_; clear m0_; have R1 := m1_; clear m1_; have R2 := m2_; clear m2_; have R4 := m4_; clear m4_; have R5 := m5_; clear m5_; obtain ⟨hx0, hx1, hx2, hx3, hx4, hx5⟩ := cell6 BK.out) | ((with_reducible refine gate_dst (N := 12) rfl ?_); refine goesL_ (some 12) rfl rfl Try.func48 (by kernel_rfl) rfl #[.slice A4 x.O.length c4, .int .i64 m3] rfl (by (try simp only [zAA, zAB, zAC]); first | done | rfl) ?_; refine (laws_markIntS.calls k4 (fun k_ => PB k_ ∧ p k_ = 4) (.slice A4 x.O.length c4) x.O m3 m5 t4 w0 _ HB.out R4.out E4.out).mono ?_; rintro e w12 ⟨rfl, r4, hb, hk⟩; refine ⟨_, rfl, ?_⟩; have m0_ := zA (Kd.R_kept R0.out hk (fun k_ h1 h2 => by have h3 := h1.2; have h4 := h2.2; omega)); have m1_ := zA (Kd.R_kept R1.out hk (fun k_ h1 h2 => by have h3 := h1.2; have h4 := h2.2; omega)); have m2_ := zA (Kd.R_kept R2.out hk (fun k_ h1 h2 => by have h3 := h1.2; have h4 := h2.2; omega)); have m5_ := zA (Kd.S_kept R5.out hk (fun k_ h1 h2 => by have h3 := h1.2; have h4 := h2.2; omega)); have m4_ := zA (Kd.R_mono (Kd.R_tight rfl r4) (fun k_ h_ => R4.out.1 k_ h_.symm)); have n1_ := zA (kept_more HKP.out hk (fun i_ hi_ => Or.inl (HPB.out _ hi_.1).1)); have n2_ := zA (blk_kept BK.out hk (fun h_ => by have h4 := HG2.out; have h5 := (HPB.out _ h_.1).2.2.1; omega)); clear HB HKP BK R0 R1 R2 R4 R5 r4 hk hx0 hx1 hx2 hx3 hx4 hx5; have HB := zA hb; have HKP := n1_; have BK := n2_; clear n1_ n2_ hb; have R0 := m0_; clear m0_; have R1 := m1_; clear m1_; have R2 := m2_; clear m2_; have R4 := m4_; clear m4_; have R5 := m5_; clear m5_; obtain ⟨hx0, hx1, hx2, hx3, hx4, hx5⟩ := cell6 BK.out) | ((with_reducible refine gate_dst (N := 16) rfl ?_); refine goesL_ (some 16) rfl rfl Try.func49 (by kernel_rfl) rfl #[.slice A5 x.L.length c5, .int .i64 m5] rfl (by (try simp only [zAA, zAB, zAC]); first | done | rfl) ?_; refine (E5.out (fun k_ => PB k_ ∧ p k_ = 5) (.slice A5 x.L.length c5) w0 _ HB.out R5.out).mono ?_; rintro e w16 ⟨rfl, r5, hb, hk⟩; refine ⟨_, rfl, ?_⟩; have m0_ := zA (Kd.R_kept R0.out hk (fun k_ h1 h2 => by have h3 := h1.2; have h4 := h2.2; omega)); have m1_ := zA (Kd.R_kept R1.out hk (fun k_ h1 h2 => by have h3 := h1.2; have h4 := h2.2; omega)); have m2_ := zA (Kd.R_kept R2.out hk (fun k_ h1 h2 => by have h3 := h1.2; have h4 := h2.2; omega)); have m4_ := zA (Kd.R_kept R4.out hk (fun k_ h1 h2 => by have h3 := h1.2; have h4 := h2.2; omega)); have m5_ := zA r5; have n1_ := zA (kept_more HKP.out hk (fun i_ hi_ => Or.inl (HPB.out _ hi_.1).1)); clear HB HKP BK R0 R1 R2 R4 R5 r5 hk hx0 hx1 hx2 hx3 hx4 hx5; have HB := zA hb; have HKP := n1_; clear n1_ hb; have R0 := m0_; clear m0_; have R1 := m1_; clear m1_; have R2 := m2_; clear m2_; have R4 := m4_; clear m4_; have R5 := m5_; clear m5_))
 go_ret
 exact ⟨by first | rfl | (simp <;> rfl), ⟨_, _, _, _, _, p, rfl, Kd.R_mono R0.out (fun k h => ⟨(HPB.out k h.1).1, h.2⟩), Kd.R_mono R1.out (fun k h => ⟨(HPB.out k h.1).1, h.2⟩), Kd.R_mono R2.out (fun k h => ⟨(HPB.out k h.1).1, h.2⟩), Kd.R_mono R4.out (fun k h => ⟨(HPB.out k h.1).1, h.2⟩), Kd.S_mono R5.out (fun k h => ⟨(HPB.out k h.1).1, h.2⟩)⟩, HB.out, HKP.out⟩
end Go.Proofs.Ytnplghcbdaiogaa.RQ
end
section
namespace Go.Proofs.Ytnplghcbdaiogaa.PO
open Go.RowKit Go.Proofs.YtnplghcbdaiogaaW.PrintWords Go.Proofs.YtnplghcbdaiogaaW.PrintLast Go.Proofs.YtnplghcbdaiogaaW.PrintMore Go.Proofs.Ytnplghcbdaiogaa.PB Go.Proofs.Ytnplghcbdaiogaa.PL Go.Proofs.Ytnplghcbdaiogaa.PG Go.Proofs.Ytnplghcbdaiogaa.PW Go.Proofs.Ytnplghcbdaiogaa.PA
set_option linter.unusedVariables false
theorem bl_trans : ∀ (x y z : List UInt8), Op.bytesLess x y = true → Op.bytesLess y z = true → Op.bytesLess x z = true := by
 intro x
 induction x with
 | nil =>
  intro y z h1 h2
  cases z with
  | nil => cases y <;> simp [Op.bytesLess] at h2
  | cons c z => rfl
 | cons a x ih =>
  intro y z h1 h2
  cases y with
  | nil => simp [Op.bytesLess] at h1
  | cons b y =>
   cases z with
   | nil => simp [Op.bytesLess] at h2
   | cons c z =>
    simp only [Op.bytesLess, Bool.or_eq_true, Bool.and_eq_true, decide_eq_true_eq, beq_iff_eq] at h1 h2 ⊢
    rcases h1 with h1 | ⟨rfl, h1⟩
    ·rcases h2 with h2 | ⟨rfl, h2⟩
     ·exact Or.inl (UInt8.lt_trans h1 h2)
     ·exact Or.inl h1
    ·rcases h2 with h2 | ⟨rfl, h2⟩
     ·exact Or.inl h2
     ·exact Or.inr ⟨rfl, ih y z h1 h2⟩
abbrev lessB (a b : ByteArray) : Bool := Op.bytesLess a.toList b.toList
theorem rises_less {K : List ByteArray} (h : ∀ i, i < K.length → risesAt K i) : ∀ (d j : Nat), j + d + 1 < K.length → lessB (tx K j) (tx K (j + d + 1)) = true := by
 intro d
 induction d with
 | zero => intro j hj; exact h (j + 1) hj (by omega)
 | succ d ih =>
  intro j hj
  have h1 := ih j (by omega)
  have h2 := h (j + d + 1 + 1) hj (by omega)
  exact bl_trans _ _ _ h1 h2
theorem rises_lt {K : List ByteArray} (h : ∀ i, i < K.length → risesAt K i) (j m : Nat) (hj : j < m) (hm : m < K.length) : lessB (tx K j) (tx K m) = true := by
 have := rises_less h (m - j - 1) j (by omega)
 rw [show j + (m - j - 1) + 1 = m by omega] at this
 exact this
end Go.Proofs.Ytnplghcbdaiogaa.PO
end
section
namespace Go.Proofs.Ytnplghcbdaiogaa.RH
open Go.RowKit Go.Proofs.YtnplghcbdaiogaaW.PrintWords Go.Proofs.YtnplghcbdaiogaaW.PrintLast Go.Proofs.YtnplghcbdaiogaaW.PrintMore Go.Proofs.Ytnplghcbdaiogaa.PB Go.Proofs.Ytnplghcbdaiogaa.PL Go.Proofs.Ytnplghcbdaiogaa.PG Go.Proofs.Ytnplghcbdaiogaa.PW Go.Proofs.Ytnplghcbdaiogaa.PO Go.Proofs.Ytnplghcbdaiogaa.QW Go.Proofs.Ytnplghcbdaiogaa.PA Go.Proofs.Ytnplghcbdaiogaa.QP Go.Proofs.Ytnplghcbdaiogaa.QO Go.Proofs.Ytnplghcbdaiogaa.QQ Go.Proofs.Ytnplghcbdaiogaa.QZ
set_option linter.unusedVariables false
def Rs (t : T) : Prop := (keysT t).Pairwise (fun a b => lessB a b = true)
theorem rises_pw {K : List ByteArray} (h : ∀ i, i < K.length → risesAt K i) : K.Pairwise (fun a b => lessB a b = true) := by
 refine List.pairwise_iff_getElem.2 (fun i j hi hj hij => ?_)
 have := rises_lt h i j hij hj
 have e1 : tx K i = K[i] := by
  show rdOf ByteArray.empty K (i : Int) = _
  unfold rdOf; rw [Int.toNat_natCast, List.getD_eq_getElem?_getD, List.getElem?_eq_getElem hi]; rfl
 have e2 : tx K j = K[j] := by
  show rdOf ByteArray.empty K (j : Int) = _
  unfold rdOf; rw [Int.toNat_natCast, List.getD_eq_getElem?_getD, List.getElem?_eq_getElem hj]; rfl
 rw [e1, e2] at this; exact this
theorem sub_kid (u : T) : ∀ (l : List T) (K : List ByteArray), u ∈ l → (keysT u).Sublist (wvK l K) := by
 intro l
 induction l with
 | nil => intro K h; cases h
 | cons t l ih =>
  intro K h
  cases K with
  | nil =>
   rw [wvK]
   rcases List.mem_cons.1 h with rfl | h
   ·exact List.sublist_append_left _ _
   ·exact (ih [] h).trans (List.sublist_append_right _ _)
  | cons k K =>
   rw [wvK]
   rcases List.mem_cons.1 h with rfl | h
   ·exact List.sublist_append_left _ _
   ·exact ((ih K h).trans (List.sublist_cons_self k _)).trans (List.sublist_append_right _ _)
theorem Rs_kid {t u : T} (h : Rs t) (hu : u ∈ t.f2) : Rs u := by
 unfold Rs at h; rw [keysT_eq] at h
 exact h.sublist (sub_kid u _ _ hu)
def Fine (t : T) : Prop := okT t ∧ smT t ∧ Rs t
theorem Fine_kid {t u : T} (h : Fine t) (hu : u ∈ t.f2) : Fine u := ⟨((okT_eq t).1 h.1).2.2.2 u hu, smT_kid h.2.1 hu, Rs_kid h.2.2 hu⟩
theorem fine_of {ps : List S97} {t : T} {n : Nat} (h : treeG ps n = some t) : Fine t ∧ hT t ≤ n := by
 unfold treeG at h
 cases hR : readF ps n 0 with
 | none => rw [hR] at h; cases h
 | some tn =>
  obtain ⟨t', nx⟩ := tn
  rw [hR] at h
  dsimp only at h
  by_cases c : nx = ps.length ∧ goodB t' = true
  ·rw [if_pos c] at h
   obtain rfl := Option.some.inj h
   have hg := c.2
   unfold goodB at hg
   rw [Bool.and_eq_true] at hg
   have h2 := readF_ok ps _ _ _ _ hR
   exact ⟨⟨h2.1, pairs_sm _ hg.1, rises_pw (fun i hi => (((pairs_iff _ _).1 hg.1).2.1 i hi).2)⟩, h2.2⟩
  ·rw [if_neg c] at h; cases h
end Go.Proofs.Ytnplghcbdaiogaa.RH
end
section
namespace Go.Proofs.Ytnplghcbdaiogaa.RR
open Go.RowKit Go.Proofs.YtnplghcbdaiogaaW.PrintWords Go.Proofs.YtnplghcbdaiogaaW.PrintLast Go.Proofs.YtnplghcbdaiogaaW.PrintMore Go.Proofs.Ytnplghcbdaiogaa.PB Go.Proofs.Ytnplghcbdaiogaa.PL Go.Proofs.Ytnplghcbdaiogaa.PG Go.Proofs.Ytnplghcbdaiogaa.PW Go.Proofs.Ytnplghcbdaiogaa.PO Go.Proofs.Ytnplghcbdaiogaa.QW Go.Proofs.Ytnplghcbdaiogaa.PA Go.Proofs.Ytnplghcbdaiogaa.QP Go.Proofs.Ytnplghcbdaiogaa.QO Go.Proofs.Ytnplghcbdaiogaa.QQ Go.Proofs.Ytnplghcbdaiogaa.QZ Go.Proofs.Ytnplghcbdaiogaa.RH Go.Proofs.Ytnplghcbdaiogaa.RL Go.Proofs.Ytnplghcbdaiogaa.RM Go.Proofs.Ytnplghcbdaiogaa.RN
set_option linter.unusedVariables false
def needB (s e : ByteArray) (K : List ByteArray) (i : Nat) : Bool := (decide (i = 0) || lessB (tx K (i - 1)) e) && (decide (i = K.length) || lessB s (tx K i))
def idxT (s e : ByteArray) (K : List ByteArray) (m : Nat) : List Nat := (List.range m).filter (needB s e K)
def intsOf (l : List Nat) : List Int := l.map Int.ofNat
def kidAt (t : T) (i : Nat) : T := t.f2.getD i ⟨[], [], []⟩
def pcN (s e : ByteArray) : Nat → T → Pc
 | 0, _ => zPc
 | n + 1, t => ⟨t.f0, t.f1, t.f2.map digT, 0, intsOf (idxT s e t.f0 t.f2.length), (idxT s e t.f0 t.f2.length).map fun i => pcN s e n (kidAt t i)⟩
theorem idx_next (s e : ByteArray) (K : List ByteArray) (m : Nat) : idxT s e K (m + 1) = if needB s e K m = true then idxT s e K m ++ [m] else idxT s e K m := by
 unfold idxT
 rw [List.range_succ, List.filter_append]
 by_cases c : needB s e K m = true
 ·rw [if_pos c, List.filter_cons_of_pos c]; rfl
 ·rw [if_neg c, List.filter_cons_of_neg c, List.filter_nil, List.append_nil]
theorem idx_len (s e : ByteArray) (K : List ByteArray) (m : Nat) : (idxT s e K m).length ≤ m := by
 unfold idxT
 exact Nat.le_trans (List.length_filter_le _ _) (by rw [List.length_range]; exact Nat.le_refl _)
theorem idx_lt {s e : ByteArray} {K : List ByteArray} {m i : Nat} (h : i ∈ idxT s e K m) : i < m := by
 unfold idxT at h
 exact List.mem_range.1 (List.mem_filter.1 h).1
theorem needS (s e : ByteArray) (K V C : List ByteArray) (g : Int) (i : Nat) (hi : i ≤ K.length) (hK : K.length ≤ 4) : spec_l7Needs.f K V C g (i : Int) s e = some (needB s e K i) := by
 unfold spec_l7Needs.f needB
 by_cases c0 : i = 0
 ·subst c0
  rw [if_pos (by rfl), decide_eq_true (rfl : 0 = 0), Bool.true_or, Bool.true_and]
  by_cases c1 : 0 = K.length
  ·rw [if_pos (by omega), decide_eq_true c1, Bool.true_or]
  ·rw [if_neg (by omega), if_pos (by omega), if_pos (by omega), decide_eq_false c1, Bool.false_or]
 ·rw [if_neg (by omega), decide_eq_false c0, Bool.false_or, w64 (x := (i : Int) - 1) (by omega) (by omega)]
  rw [show (i : Int) - 1 = ((i - 1 : Nat) : Int) by omega, if_pos (by omega), if_pos (by omega)]
  by_cases c2 : lessB (tx K (i - 1)) e = true
  ·rw [if_pos c2, c2, Bool.true_and]
   by_cases c1 : i = K.length
   ·rw [if_pos (by omega), decide_eq_true c1, Bool.true_or]
   ·rw [if_neg (by omega), if_pos (by omega), if_pos (by omega), decide_eq_false c1, Bool.false_or]
  ·rw [if_neg c2, Bool.eq_false_iff.2 c2, Bool.false_and]
theorem needI (s e : ByteArray) (K V C : List ByteArray) (g : Int) (i : Nat) (hi : i ≤ K.length) (hK : K.length ≤ 4) : impl_needsKid.f K V C g (i : Int) s e = some (needB s e K i) := needS s e K V C g i hi hK
theorem neededI (s e : ByteArray) (K V C : List ByteArray) (g : Int) (hK : K.length ≤ 4) (hC : C.length = 0 ∨ C.length = K.length + 1) : Ev (fun k => impl_needed.f k K V C g s e) (intsOf (idxT s e K C.length)) := by
 have key : ∀ (d i : Nat), i + d = C.length → Ev (fun k => impl_needed.l0 k s e (intsOf (idxT s e K i)) (C.length : Int) (i : Int) K V C g) (intsOf (idxT s e K C.length)) := by
  intro d
  induction d with
  | zero =>
   intro i hi
   have hi' : i = C.length := by omega
   subst hi'
   refine Ev.step (f := fun _ => some (intsOf (idxT s e K C.length))) (fun k => ?_) (Ev.now _)
   simp only [impl_needed.l0]
   rw [if_neg (by omega)]
  | succ d ih =>
   intro i hi
   have hn := needI s e K V C g i (by omega) hK
   have hx := ih (i + 1) (by omega)
   rw [idx_next] at hx
   have hl := idx_len s e K i
   by_cases c : needB s e K i = true
   ·rw [if_pos c] at hx
    refine Ev.step (f := fun k => impl_needed.l0 k s e (intsOf (idxT s e K i ++ [i])) (C.length : Int) ((i + 1 : Nat) : Int) K V C g) (fun k => ?_) hx
    simp only [impl_needed.l0]
    rw [if_pos (by omega), hn, Option.bind_some, if_pos c, if_pos (by unfold intsOf; rw [List.length_map]; omega), w64 (x := (i : Int) + 1) (by omega) (by omega)]
    unfold intsOf
    rw [List.map_append]
    rfl
   ·rw [if_neg c] at hx
    refine Ev.step (f := fun k => impl_needed.l0 k s e (intsOf (idxT s e K i)) (C.length : Int) ((i + 1 : Nat) : Int) K V C g) (fun k => ?_) hx
    simp only [impl_needed.l0]
    rw [if_pos (by omega), hn, Option.bind_some, if_neg c, w64 (x := (i : Int) + 1) (by omega) (by omega)]
    rfl
 exact key C.length 0 (by omega)
def rangeB (s e : ByteArray) : Bool := isK s && (isK e && lessB s e)
theorem rangeS (s e : ByteArray) : spec_l7Range.f s e = some (rangeB s e) := by
 unfold spec_l7Range.f rangeB
 rw [pairS s ⟨#[]⟩, pairS e ⟨#[]⟩]
 have h1 : (keyB s && valB (⟨#[]⟩ : ByteArray)) = isK s := by show (isK s && true) = _; rw [Bool.and_true]
 have h2 : (keyB e && valB (⟨#[]⟩ : ByteArray)) = isK e := by show (isK e && true) = _; rw [Bool.and_true]
 rw [h1, h2, Option.bind_some]
 cases isK s with
 | false => rfl
 | true => cases isK e with
  | false => rfl
  | true => rfl
theorem rangeI (s e : ByteArray) : impl_isRange.f s e = some (rangeB s e) := by
 unfold impl_isRange.f rangeB
 rw [keyI s, keyI e]
 show (Option.bind (some (isK s)) _) = _
 rw [Option.bind_some]
 cases isK s with
 | false => rfl
 | true =>
  show (Option.bind (some (isK e)) fun t => if t = true then some (Op.bytesLess s.toList e.toList) else some false) = _
  cases isK e with
  | false => rfl
  | true => rfl
def piecesF (ps : List S97) (s e : ByteArray) : Pc × Bool := match treeG ps 10 with
 | none => (zPc, false)
 | some t => if rangeB s e = true then (pcN s e 10 t, true) else (zPc, false)
theorem kid_mem {t : T} {i : Nat} (h : i < t.f2.length) : kidAt t i ∈ t.f2 ∧ kidAt t i = t.f2[i] := by
 have e : kidAt t i = t.f2[i] := by unfold kidAt; rw [List.getD_eq_getElem?_getD, List.getElem?_eq_getElem h]; rfl
 exact ⟨by rw [e]; exact List.getElem_mem h, e⟩
theorem pc_sm (s e : ByteArray) : ∀ (n : Nat) (t : T), Fine t → hT t ≤ n → SmP n (pcN s e n t) := by
 intro n
 induction n with
 | zero => intro t _ h; rw [hT_eq] at h; omega
 | succ n ih =>
  intro t hF hh
  obtain ⟨o1, o2, o3, o4⟩ := (okT_eq t).1 hF.1
  have hl := idx_len s e t.f0 t.f2.length
  refine ⟨by show t.f0.length ≤ 100; omega, by show t.f1.length ≤ 100; omega, by show (t.f2.map digT).length ≤ 100; rw [List.length_map]; omega, by show (intsOf (idxT s e t.f0 t.f2.length)).length ≤ 100; unfold intsOf; rw [List.length_map]; omega, by show (List.map _ _).length ≤ 100; rw [List.length_map]; omega, fun y hy => ?_⟩
  obtain ⟨i, hi, rfl⟩ := List.mem_map.1 hy
  obtain ⟨hm, _⟩ := kid_mem (idx_lt hi)
  have h2 := hL_mem t.f2 _ hm
  rw [hT_eq] at hh
  exact ih _ (Fine_kid hF hm) (by omega)
theorem ofs_bound (f : Pc → Nat) (b : Nat) : ∀ (l : List Pc) (i : Nat), (∀ y ∈ l, f y ≤ b) → i ≤ l.length → ofs f l i ≤ i * b := by
 intro l i h
 induction i with
 | zero => intro _; rw [ofs_zero]; omega
 | succ i ih =>
  intro hi
  rw [ofs_next f l i (by omega), Nat.succ_mul]
  have h1 := ih (by omega)
  have h2 := h _ (List.getElem_mem (show i < l.length by omega))
  omega
def pow5 : Nat → Nat
 | 0 => 0
 | n + 1 => 25 + 5 * pow5 n
theorem sz_pc (s e : ByteArray) : ∀ (n : Nat) (t : T), Fine t → hT t ≤ n → szE n (pcN s e n t) ≤ pow5 n := by
 intro n
 induction n with
 | zero => intro t _ _; exact Nat.le_refl _
 | succ n ih =>
  intro t hF hh
  obtain ⟨o1, o2, o3, o4⟩ := (okT_eq t).1 hF.1
  have hl := idx_len s e t.f0 t.f2.length
  have hb := ofs_bound (szE n) (pow5 n) (pcN s e (n + 1) t).L (pcN s e (n + 1) t).L.length (fun y hy => by
   obtain ⟨i, hi, rfl⟩ := List.mem_map.1 hy
   obtain ⟨hm, _⟩ := kid_mem (idx_lt hi)
   have h2 := hL_mem t.f2 _ hm
   rw [hT_eq] at hh
   exact ih _ (Fine_kid hF hm) (by omega)) (Nat.le_refl _)
  have e1 : (pcN s e (n + 1) t).K.length = t.f0.length := rfl
  have e2 : (pcN s e (n + 1) t).V.length = t.f1.length := rfl
  have e3 : (pcN s e (n + 1) t).C.length = t.f2.length := by show (t.f2.map digT).length = _; rw [List.length_map]
  have e4 : (pcN s e (n + 1) t).O.length = (idxT s e t.f0 t.f2.length).length := by show (intsOf (idxT s e t.f0 t.f2.length)).length = _; unfold intsOf; rw [List.length_map]
  have e5 : (pcN s e (n + 1) t).L.length = (idxT s e t.f0 t.f2.length).length := by show (List.map _ _).length = _; rw [List.length_map]
  have hm : (pcN s e (n + 1) t).L.length * pow5 n ≤ 5 * pow5 n := Nat.mul_le_mul_right _ (by omega)
  show (pcN s e (n + 1) t).K.length + (pcN s e (n + 1) t).V.length + (pcN s e (n + 1) t).C.length + 1 + (pcN s e (n + 1) t).O.length + ofs (szE n) (pcN s e (n + 1) t).L (pcN s e (n + 1) t).L.length ≤ 25 + 5 * pow5 n
  omega
theorem szT_le (n : Nat) (x : Pc) : szT n x ≤ szE (n + 1) x := by
 show x.K.length + x.V.length + x.C.length + x.O.length + ofs (szE n) x.L x.L.length ≤ x.K.length + x.V.length + x.C.length + 1 + x.O.length + ofs (szE n) x.L x.L.length
 omega
theorem pow10 : pow5 10 ≤ 70000000 := by decide
theorem pieces_sm (ps : List S97) (s e : ByteArray) : SmP 10 (piecesF ps s e).1 ∧ szT 9 (piecesF ps s e).1 ≤ 70000000 := by
 have hz : SmP 10 zPc ∧ szT 9 zPc ≤ 70000000 := ⟨⟨by decide, by decide, by decide, by decide, by decide, fun y hy => by cases hy⟩, by show 0 + ofs (szE 9) [] 0 ≤ _; rw [ofs_zero]; omega⟩
 unfold piecesF
 cases h : treeG ps 10 with
 | none => exact hz
 | some t =>
  obtain ⟨hF, hh⟩ := fine_of h
  dsimp only
  by_cases c : rangeB s e = true
  ·rw [if_pos c]
   exact ⟨pc_sm s e 10 t hF hh, Nat.le_trans (szT_le 9 _) (Nat.le_trans (sz_pc s e 10 t hF hh) pow10)⟩
  ·rw [if_neg c]; exact hz
end Go.Proofs.Ytnplghcbdaiogaa.RR
end
section
namespace Go.Proofs.Ytnplghcbdaiogaa.QY
open Go.RowKit Go.Proofs.YtnplghcbdaiogaaW.PrintWords Go.Proofs.YtnplghcbdaiogaaW.PrintLast Go.Proofs.YtnplghcbdaiogaaW.PrintMore Go.Proofs.Ytnplghcbdaiogaa.PA Go.Proofs.Ytnplghcbdaiogaa.QW
attribute [local go_sem] max2_int min2_int max_two min_two max_three min_three max_four min_four
set_option linter.unusedVariables false
set_option linter.unusedSimpArgs false
set_option maxHeartbeats 4000000
set_option maxRecDepth 100000
def Post74 (n : Nat) (w0 w : World) (gg : Nat) (A : Option Addr) (m c : Nat) (R : Option (T × Nat)) (e : Ending) (w' : World) : Prop := match R with
 | none => e = .returned (.tuple #[.pointer none, .bool false]) ∧ Below w0.heap.size w0 w'
 | some (t, nx) => ∃ x : S74, e = .returned (.tuple #[.pointer (some ⟨x.adr, 0, none⟩), .bool true]) ∧ er74 x = t ∧ k74p.M w' w0.heap.size (fun k => w.heap.size ≤ k) x [.pointer (some ⟨x.adr, 0, none⟩)] ∧ Below w0.heap.size w0 w' ∧ KeepBut w w' gg none ∧ w'.heap[gg]? = some (.cells #[.slice A m c, .int .i64 (nx : Int)] 101 (0, 0))
def nodeI.T3 : Bool × List (List Nat × List Nat) := (true, [([], []), ([0], [0]), ([1], [1]), ([2], [2]), ([], []), ([4], [4]), ([5], [5]), ([6], [6]), ([3, 7], [3, 7]), ([8], [8]), ([], []), ([10, 9, 0, 1, 2, 3, 4, 5, 6, 7, 8, 9, 10], [9, 10])])
def nodeI.B3 : List Nat := [0, 1, 3, 7, 0, 16, 48, 112, 255, 511, 0, 2047]
theorem nodeI.tab3 : rtab .any (opsOf Try.f61 3) = nodeI.T3 := by kernel_rfl
theorem nodeI.bits3 : waitsOk nodeI.T3.2 nodeI.B3 = true := by kernel_rfl
def nodeI.T7 : Bool × List (List Nat × List Nat) := (true, [([], []), ([0], [0]), ([1], [1]), ([], []), ([3], [3]), ([4, 2], [4]), ([2, 5], [2, 5]), ([6], [6]), ([7, 5, 0, 1, 2, 3, 4, 5, 6, 7], [7])])
def nodeI.B7 : List Nat := [0, 1, 3, 0, 8, 31, 63, 127, 255]
theorem nodeI.tab7 : rtab .any (opsOf Try.f61 7) = nodeI.T7 := by kernel_rfl
theorem nodeI.bits7 : waitsOk nodeI.T7.2 nodeI.B7 = true := by kernel_rfl
theorem nodeI (ps : List S97) (hG : Sml ps) (A : Option Addr) (c : Nat) (hc : ps.length ≤ c) (w0 : World) (hC : Kd.C k97 w0 A ps.length ps) (gg : Nat) (hgg : w0.heap.size ≤ gg) : ∀ (n at_ : Nat) (w : World), at_ ≤ ps.length → ps.length ≤ at_ + n → Below w0.heap.size w0 w → w.heap[gg]? = some (.cells #[.slice A ps.length c, .int .i64 (at_ : Int)] 101 (0, 0)) →
  Calls Try.prog 61 #[.pointer (some ⟨gg, 0, none⟩)] w fun e w' => Post74 n w0 w gg A ps.length c (readF ps n at_) e w' := by
 intro n
 induction n with
 | zero =>
  intro at_ w ha hn hb hk
  have BKG := zA hk
  have HB := zA hb
  have hx0 : w.cell? ⟨gg, 0, none⟩ = some (.slice A ps.length c) := (zP hk 0).trans rfl
  have hx1 : w.cell? ⟨gg, 1, none⟩ = some (.int .i64 (at_ : Int)) := (zP hk 1).trans rfl
  have R := zA (show readF ps 0 at_ = none from rfl)
  have b1 : ((at_ : Int) == (ps.length : Int)) = true := beq_iff_eq.mpr (by omega)
  have b2 : (at_ == ps.length) = true := beq_iff_eq.mpr (by omega)
  have hu101 := Try.underlying101
  clear hb hk hC hG
  go_enter Try.func61, Try.ntmps61
  go_wp2
  repeat (go_quiet (fail); try go_wp2)
  go_ret2
  exact (show Post74 0 w0 w gg A ps.length c (readF ps 0 at_) _ _ from (by rw [R.out]; exact ⟨by first | rfl | (simp <;> rfl), by repeat (first | exact HB.out | apply zH | apply zF | apply zG)⟩))
 | succ n ih =>
  intro at_ w ha hn hb hk
  have BKG := zA hk
  have HB := zA hb
  have hx0 : w.cell? ⟨gg, 0, none⟩ = some (.slice A ps.length c) := (zP hk 0).trans rfl
  have hx1 : w.cell? ⟨gg, 1, none⟩ = some (.int .i64 (at_ : Int)) := (zP hk 1).trans rfl
  have hu101 := Try.underlying101
  have hu97 := Try.underlying97
  have hu74 := Try.underlying74
  by_cases h : at_ < ps.length
  ·obtain ⟨z, hz⟩ : ∃ z : Int, z = (at_ : Int) := ⟨_, rfl⟩
   rw [← hz] at hk hx1 BKG
   have b1 : (z == (ps.length : Int)) = false := beq_eq_false_iff_ne.2 (by omega)
   have b2 : decide (z = (ps.length : Int)) = false := decide_eq_false (by omega)
   have b4 : decide (z < (ps.length : Int)) = true := decide_eq_true (by omega)
   have b5 : decide (0 ≤ z) = true := decide_eq_true (by omega)
   have b6 : (0 ≤ z) = True := eq_true (by omega)
   have b7 : (z < (ps.length : Int)) = True := eq_true (by omega)
   obtain ⟨ad, A0, c0, A1, c1, A2, c2, eA, hy0, hy1, hy2, l0, g0, l1, g1, l2, g2⟩ := at_T97 hC z (by omega) (by omega)
   subst eA
   have ep : ps[at_]? = some (rd_T97 ps z) := by
    unfold rd_T97
    rw [hz, Int.toNat_natCast, List.getD_eq_getElem?_getD, List.getElem?_eq_getElem h]; rfl
   obtain ⟨p, hp⟩ : ∃ p, p = rd_T97 ps z := ⟨_, rfl⟩
   rw [← hp] at ep hy0 hy1 hy2 l0 g0 l1 g1 l2 g2
   have HZ := zA hz
   have HH := zA h
   have HP := zA ep
   have HX0 := zA hy0
   have HX1 := zA hy1
   have HX2 := zA hy2
   have HL0 := zA l0
   have HR0 := zA g0
   have HL1 := zA l1
   have HR1 := zA g1
   have HL2 := zA l2
   have HR2 := zA g2
   have HG := zA hG
   have HN := zA hn
   have HA := zA ha
   clear hz h hp ep hy0 hy1 hy2 l0 g0 l1 g1 l2 g2 hb hk hn ha
   go_enter Try.func61, Try.ntmps61
   go_wp2
   repeat (go_quiet (fail); try go_wp2)
   have n0_ := zA (zN (zL BKG.out nq))
   have n1_ := zA (zG (zF HB.out nq))
   have HKB := zA (keep_drew (keep_drewN (KeepBut.refl w gg none) nq))
   have HGW := zA (blk_lt BKG.out)
   clear BKG HB hx0 hx1
   have BKG := n0_
   have HB := n1_
   clear n0_ n1_
   refine start_ (n := 12) (S := fun w' => w'.cell? ⟨gg, 0, none⟩ = some (.slice (some ad) ps.length c) ∧ w'.cell? ⟨gg, 1, none⟩ = some (.int .i64 z) ∧ w'.cell? (ad.add (z.toNat * 3)) = some (.slice A0 p.f0.length c0) ∧ w'.cell? ⟨(ad.add (z.toNat * 3)).block, (ad.add (z.toNat * 3)).off + 1, none⟩ = some (.slice A1 p.f1.length c1) ∧ w'.cell? ⟨(ad.add (z.toNat * 3)).block, (ad.add (z.toNat * 3)).off + 2, none⟩ = some (.slice A2 p.f2.length c2)) (ds := [11]) (bA 12 0) (by kernel_rfl) rfl rfl ⟨(zP BKG.out 0).trans rfl, (zP BKG.out 1).trans rfl, (HB.out.cell (zB w0 _ HX0.out)).trans HX0.out, (HB.out.cell (zB w0 _ HX1.out)).trans HX1.out, (HB.out.cell (zB w0 _ HX2.out)).trans HX2.out⟩ (fun hHeld => ?_)
   refine with_tabW nodeI.tab3 nodeI.bits3 (fun HT_ HW_ => ?_)
   generalize (w.drewN nq).drew = w3 at BKG HB HKB hHeld ⊢
   refine wzP 0 20 (bA 12 1) HT_ ?_
   refine wzP 1 21 (bA 12 3) HT_ ?_
   refine wzP 2 22 (bA 12 7) HT_ ?_
   refine wzP 4 24 (bA 12 23) HT_ ?_
   refine wzP 5 25 (bA 12 55) HT_ ?_
   refine wzP 6 26 (bA 12 119) HT_ ?_
   refine wzT 3 23 (bA 12 127) HT_ HW_ hHeld ?_
   refine wzT 7 27 (bA 12 255) HT_ HW_ hHeld ?_
   refine wzP 8 28 (bA 12 511) HT_ ?_
   refine wzT 9 29 (bA 12 1023) HT_ HW_ hHeld ?_
   refine one_ (i := 10) (N := some 4) (bA 12 2047) rfl rfl (one_of HT_.out (by kernel_rfl)) (by decide) (fun K hK => ?_)
   refine box_step ?hg (N := 4) ?hd (cs := #[.slice none 0 0, .slice none 0 0, .slice none 0 0]) (t := 97) ?hr ?_; (case hd => rfl); (case hg => rfl); (case hr => first | (go_simp; done) | (go_simp; rfl))
   intro gb4 hg w4 hbox hb
   have n0_ := zA (blk_below BKG.out hb)
   have n1_ := zA (zAD HB.out hb)
   have n2_ := zA (HKB.out.trans (KeepBut.of_below hb gg none) (.inl rfl))
   have NBG4 := zA (by rw [hg]; exact zK (blk_lt BKG.out) : gg ≠ gb4)
   have GW4 := zA (by rw [hg]; exact HKB.out.1 : w.heap.size ≤ gb4)
   clear BKG HB HKB hb hg
   have BKG := n0_
   have HB := n1_
   have HKB := n2_
   have BK4 := zA hbox
   clear n0_ n1_ n2_ hbox
   refine hK.out _ _ ⟨(zP BKG.out 0).trans rfl, (zP BKG.out 1).trans rfl, (HB.out.cell (zB w0 _ HX0.out)).trans HX0.out, (HB.out.cell (zB w0 _ HX1.out)).trans HX1.out, (HB.out.cell (zB w0 _ HX2.out)).trans HX2.out⟩ (fun hHeld => ?_); clear hK K; refine wzN 4 ?_
   refine last_ (i := 11) (N := none) (bA 12 4095) rfl rfl (one_of HT_.out (by kernel_rfl)) (by decide) (fun K hK => ?_)
   have hs0 : w4.cell? ⟨gb4, 0, none⟩ = some (.slice none 0 0) := (zP BK4.out 0).trans rfl
   have hs1 : w4.cell? ⟨gb4, 1, none⟩ = some (.slice none 0 0) := (zP BK4.out 1).trans rfl
   have hs2 : w4.cell? ⟨gb4, 2, none⟩ = some (.slice none 0 0) := (zP BK4.out 2).trans rfl
   have hf0 := zO BK4.out 0
   have hf1 := zO BK4.out 1
   have hf2 := zO BK4.out 2
   refine skip_ (w1 := ?_) (by rfl) rfl ?_ ?_; rotate_left
   ·go_simp
    rfl
   refine hK.out _ _ ?_
   clear hK K
   refine done_ (done_of HT_.out (by kernel_rfl)) ?_
   obtain ⟨w5, hw5⟩ : ∃ q, q = ((w4.setCell ⟨gb4, 0, none⟩ (.slice A0 p.f0.length c0)).setCell ⟨gb4, 1, none⟩ (.slice A1 p.f1.length c1)).setCell ⟨gb4, 2, none⟩ (.slice A2 p.f2.length c2) := ⟨_, rfl⟩
   have HG4 := zA (show w0.heap.size ≤ gb4 from by have := GW4.out; have := HGW.out; omega)
   have n0_ := zA (show w5.heap[gg]? = some (.cells #[.slice (some ad) ps.length c, .int .i64 z] 101 (0, 0)) from by rw [hw5]; exact blk_far (blk_far (blk_far BKG.out NBG4.out _) NBG4.out _) NBG4.out _)
   have n1_ := zA (show w5.heap[gb4]? = some (.cells #[.slice A0 p.f0.length c0, .slice A1 p.f1.length c1, .slice A2 p.f2.length c2] 97 (0, 0)) from by rw [hw5]; exact blk_put (blk_put (blk_put BK4.out 0 _ rfl) 1 _ rfl) 2 _ rfl)
   have n2_ := zA (show Below w0.heap.size w0 w5 from by rw [hw5]; exact zI (zI (zI HB.out HG4.out) HG4.out) HG4.out)
   have n3_ := zA (show KeepBut w w5 gg none from by rw [hw5]; exact keep_far (keep_far (keep_far HKB.out GW4.out _) GW4.out _) GW4.out _)
   rw [← hw5]
   clear BKG BK4 HB HKB hw5 hs0 hs1 hs2 hf0 hf1 hf2 hHeld HT_ HW_
   have BKG := n0_
   have BK4 := n1_
   have HB := n2_
   have HKB := n3_
   clear n0_ n1_ n2_ n3_
   have HLN := zA (show p.f0.length < 1099511627776 ∧ p.f1.length < 1099511627776 ∧ p.f2.length < 1099511627776 from HG.out.2 p (List.mem_of_getElem? HP.out))
   obtain ⟨z1, hz1⟩ : ∃ q, q = wrap64 (z + 1) := ⟨_, rfl⟩
   have hw1 : wrap64 (z + 1) = z1 := hz1.symm
   have HZ1 := zA (show z1 = ((at_ + 1 : Nat) : Int) from by rw [hz1]; have := HG.out.1; have := HZ.out; have := HH.out; unfold wrap64; omega)
   clear hz1
   have hx1 : w5.cell? ⟨gg, 1, none⟩ = some (.int .i64 z) := (zP BKG.out 1).trans rfl
   have hfg := zO BKG.out 1
   have hnb := NBG4.out
   have hnc := NBG4.out.symm
   have hz0 : w5.cell? ⟨gb4, 0, none⟩ = some (.slice A0 p.f0.length c0) := (zP BK4.out 0).trans rfl
   have hzz1 : w5.cell? ⟨gb4, 1, none⟩ = some (.slice A1 p.f1.length c1) := (zP BK4.out 1).trans rfl
   have hz2 : w5.cell? ⟨gb4, 2, none⟩ = some (.slice A2 p.f2.length c2) := (zP BK4.out 2).trans rfl
   have hw2 : wrap64 ((p.f0.length : Int) + 1) = ((p.f0.length + 1 : Nat) : Int) := by have := HLN.out; unfold wrap64; omega
   by_cases k1 : p.f0.length ≤ 4
   ·have e1 : decide ((4 : Int) < (p.f0.length : Int)) = false := decide_eq_false (by omega)
    have e1' : decide (4 < p.f0.length) = false := decide_eq_false (by omega)
    have K1 := zA k1
    clear k1
    by_cases k2 : p.f1.length = p.f0.length
    ·have e2 : (((p.f1.length : Int)) != (p.f0.length : Int)) = false := bne_eq_false_iff_eq.mpr (by omega)
     have e2' : (p.f1.length != p.f0.length) = false := bne_eq_false_iff_eq.mpr k2
     have e2'' : (p.f1.length == p.f0.length) = true := beq_iff_eq.mpr k2
     have K2 := zA k2
     clear k2
     by_cases k3 : p.f2.length = 0
     ·have e3 : decide ((0 : Int) < (p.f2.length : Int)) = false := decide_eq_false (by omega)
      have e3' : decide (0 < p.f2.length) = false := decide_eq_false (by omega)
      have K3 := zA k3
      clear k3
      have RR := zA (show readF ps (n + 1) at_ = (match readK (readF ps n) p.f2 (at_ + 1) with | none => none | some (l, e) => some (⟨p.f0, p.f1, l⟩, e)) from by rw [readF, HP.out]; exact if_pos ⟨K1.out, K2.out, .inl K3.out⟩)
      go_wp2
      have HW1 := zA hw1
      (try clear hw1); (try clear hw2); (try clear e1); (try clear e1'); (try clear e2); (try clear e2'); (try clear e2''); (try clear e3); (try clear e3'); (try clear e3''); (try clear e3d); (try clear e4); (try clear e4'); (try clear e4''); (try clear e4x); (try clear b1); (try clear b2); (try clear b4); (try clear b5); (try clear b6); (try clear b7)
      clear hx1 hfg hnb hnc hz0 hzz1 hz2
      have n0_ := zA (show (w5.setCell ⟨gg, 1, none⟩ (.int .i64 z1)).drew.heap[gg]? = some (.cells #[.slice (some ad) ps.length c, .int .i64 z1] 101 (0, 0)) from zN (blk_put BKG.out 1 _ rfl))
      have n1_ := zA (show (w5.setCell ⟨gg, 1, none⟩ (.int .i64 z1)).drew.heap[gb4]? = some (.cells #[.slice A0 p.f0.length c0, .slice A1 p.f1.length c1, .slice A2 p.f2.length c2] 97 (0, 0)) from zN (blk_far BK4.out NBG4.out.symm _))
      have n2_ := zA (zG (zI HB.out hgg (j := 1) (v := .int .i64 z1)))
      have n3_ := zA (keep_drew (KeepBut.set_ HKB.out 1 (.int .i64 z1)))
      clear BKG BK4 HB HKB
      have BKG := n0_
      have BK4 := n1_
      have HB := n2_
      have HKB := n3_
      clear n0_ n1_ n2_ n3_
      have HCL0 := zA (show slices_Clone_string_string.f p.f0 = some p.f0 from by unfold slices_Clone_string_string.f; rw [Option.bind_some, if_pos (by have := HLN.out; simp only [List.length_nil]; omega), List.nil_append])
      have HCL1 := zA (show slices_Clone_string_string.f p.f1 = some p.f1 from by unfold slices_Clone_string_string.f; rw [Option.bind_some, if_pos (by have := HLN.out; simp only [List.length_nil]; omega), List.nil_append])
      refine start_ (n := 9) (S := fun w' => w'.cell? ⟨gb4, 0, none⟩ = some (.slice A0 p.f0.length c0) ∧ w'.cell? ⟨gb4, 1, none⟩ = some (.slice A1 p.f1.length c1)) (ds := []) (bA 9 0) (by kernel_rfl) rfl rfl ⟨(zP BK4.out 0).trans rfl, (zP BK4.out 1).trans rfl⟩ (fun hHeld => ?_)
      refine with_tabW nodeI.tab7 nodeI.bits7 (fun HT_ HW_ => ?_)
      generalize (w5.setCell ⟨gg, 1, none⟩ (.int .i64 z1)).drew = w6 at BKG BK4 HB HKB hHeld ⊢
      refine wzP 0 66 (bA 9 1) HT_ ?_
      refine wzT 1 67 (bA 9 3) HT_ HW_ hHeld ?_
      refine wzP 3 69 (bA 9 11) HT_ ?_
      refine wzT 4 70 (bA 9 27) HT_ HW_ hHeld ?_
      refine one_ (i := 2) (N := some 68) (bA 9 31) rfl rfl (one_of HT_.out (by kernel_rfl)) (by decide) (fun K hK => ?_)
      refine goes_ Try.func65 (by kernel_rfl) rfl #[.slice A0 p.f0.length c0] (by rfl) rfl rfl (by (try simp only [zAA, zAB, zAC]); first | done | rfl | (simp only [zZ, zY]; rfl)) ?_
      with_reducible refine (slices_Clone_string_string.calls _ _ p.f0 p.f0 _ ?side1 ?side2 HCL0.out).mono ?_
      (case side1 => exact Kd.C_below HR0.out HB.out); (case side2 => exact HL0.out)
      rintro e w7 ⟨v68, rfl, ho, hb⟩
      refine ⟨_, rfl, ?_⟩
      have n0_ := zA (Kd.R_lower (Kd.R_mono (Kd.R_bound ho) (fun k hk => Nat.le_trans HKB.out.1 hk.2.1) : Kd.R Kd.string 9 w7 w6.heap.size (fun k => w.heap.size ≤ k) v68 p.f0) (zAE HB.out))
      have n1_ := zA (blk_below BKG.out hb)
      have n2_ := zA (blk_below BK4.out hb)
      have n3_ := zA (zAD HB.out hb)
      have n4_ := zA (HKB.out.trans (KeepBut.of_below hb gg none) (.inl rfl))
      clear BKG BK4 HB HKB ho hb
      have HO68 := n0_
      have BKG := n1_
      have BK4 := n2_
      have HB := n3_
      have HKB := n4_
      clear n0_ n1_ n2_ n3_ n4_
      refine hK.out _ _ ⟨(zP BK4.out 0).trans rfl, (zP BK4.out 1).trans rfl⟩ (fun hHeld => ?_); clear hK K; refine wzN 68 ?_
      refine one_ (i := 5) (N := some 71) (bA 9 63) rfl rfl (one_of HT_.out (by kernel_rfl)) (by decide) (fun K hK => ?_)
      refine goes_ Try.func65 (by kernel_rfl) rfl #[.slice A1 p.f1.length c1] (by rfl) rfl rfl (by (try simp only [zAA, zAB, zAC]); first | done | rfl | (simp only [zZ, zY]; rfl)) ?_
      with_reducible refine (slices_Clone_string_string.calls _ _ p.f1 p.f1 _ ?side1 ?side2 HCL1.out).mono ?_
      (case side1 => exact Kd.C_below HR1.out HB.out); (case side2 => exact HL1.out)
      rintro e w8 ⟨v71, rfl, ho, hb⟩
      refine ⟨_, rfl, ?_⟩
      have n0_ := zA (Kd.R_lower (Kd.R_mono (Kd.R_bound ho) (fun k hk => Nat.le_trans HKB.out.1 hk.2.1) : Kd.R Kd.string 9 w8 w7.heap.size (fun k => w.heap.size ≤ k) v71 p.f1) (zAE HB.out))
      have n1_ := zA (blk_below BKG.out hb)
      have n2_ := zA (blk_below BK4.out hb)
      have n3_ := zA (zAD HB.out hb)
      have n4_ := zA (HKB.out.trans (KeepBut.of_below hb gg none) (.inl rfl))
      have n5_ := zA (Kd.R_below HO68.out hb)
      clear BKG BK4 HB HKB ho hb HO68
      have HO71 := n0_
      have BKG := n1_
      have BK4 := n2_
      have HB := n3_
      have HKB := n4_
      have HO68 := n5_
      clear n0_ n1_ n2_ n3_ n4_ n5_
      obtain ⟨A68, c68, eo⟩ := Kd.R_slice HO68.out
      subst eo
      obtain ⟨A71, c71, eo⟩ := Kd.R_slice HO71.out
      subst eo
      refine hK.out _ _ ⟨(zP BK4.out 0).trans rfl, (zP BK4.out 1).trans rfl⟩ (fun hHeld => ?_); clear hK K; refine wzN 71 ?_
      refine wzP 6 72 (bA 9 127) HT_ ?_
      refine one_ (i := 7) (N := some 73) (bA 9 255) rfl rfl (one_of HT_.out (by kernel_rfl)) (by decide) (fun K hK => ?_)
      refine box_step ?hg (N := 73) ?hd (cs := #[.slice A68 p.f0.length c68, .slice A71 p.f1.length c71, .slice none 0 0]) (t := 74) ?hr ?_; (case hd => rfl); (case hg => rfl); (case hr => first | (go_simp; done) | (go_simp; rfl))
      intro gb5 hg w9 hbox hb
      have n1_ := zA (blk_below BKG.out hb)
      have n2_ := zA (blk_below BK4.out hb)
      have n3_ := zA (zAD HB.out hb)
      have n4_ := zA (HKB.out.trans (KeepBut.of_below hb gg none) (.inl rfl))
      have n5_ := zA (Kd.R_below HO68.out hb)
      have n6_ := zA (Kd.R_below HO71.out hb)
      have GW5 := zA (by rw [hg]; exact HKB.out.1 : w.heap.size ≤ gb5)
      have NBG5 := zA (by rw [hg]; exact zK (blk_lt BKG.out) : gg ≠ gb5)
      clear BKG BK4 HB HKB hb HO68 HO71 hg
      have BKG := n1_
      have BK4 := n2_
      have HB := n3_
      have HKB := n4_
      have HO68 := n5_
      have HO71 := n6_
      have BK5 := zA hbox
      clear n1_ n2_ n3_ n4_ n5_ n6_ hbox
      refine hK.out _ _ ⟨(zP BK4.out 0).trans rfl, (zP BK4.out 1).trans rfl⟩ (fun hHeld => ?_); clear hK K; refine wzN 73 ?_
      refine wzP 8 5 (bA 9 511) HT_ ?_
      refine done_ (done_of HT_.out (by kernel_rfl)) ?_
      clear hHeld HT_ HW_
      have hz2 : w9.cell? ⟨gb4, 2, none⟩ = some (.slice A2 p.f2.length c2) := (zP BK4.out 2).trans rfl
      go_wp2
      go_loopg [77] (p.f2.length + 1) (fun kq v77 w' => ∃ (i nx : Nat) (kids : List S74) (vC : Value), v77 = .int .i64 (i : Int) ∧ Aside0 (kq + i = p.f2.length + 1) ∧ Aside0 (i ≤ p.f2.length) ∧ Aside0 (readK (readF ps n) p.f2 (at_ + 1) = (match readK (readF ps n) (p.f2.drop i) nx with | none => none | some (l, e) => some (kids.map er74 ++ l, e))) ∧ Aside0 (kids.length = i) ∧ Aside0 (at_ < nx ∧ nx ≤ ps.length) ∧ Aside0 (Kd.R Kd.string 9 w' w0.heap.size (fun k => w.heap.size ≤ k) (.slice A68 p.f0.length c68) p.f0) ∧ Aside0 (Kd.R Kd.string 9 w' w0.heap.size (fun k => w.heap.size ≤ k) (.slice A71 p.f1.length c71) p.f1) ∧ Aside0 (Kd.R k74p 60 w' w0.heap.size (fun k => w.heap.size ≤ k ∧ k ≠ gb5) vC kids) ∧ Aside0 (w'.heap[gb5]? = some (.cells #[.slice A68 p.f0.length c68, .slice A71 p.f1.length c71, vC] 74 (0, 0))) ∧ Aside0 (w'.heap[gg]? = some (.cells #[.slice (some ad) ps.length c, .int .i64 (nx : Int)] 101 (0, 0))) ∧ Aside0 (Below w0.heap.size w0 w') ∧ Aside0 (KeepBut w w' gg none))
      case atStart => exact ⟨0, at_ + 1, [], .slice none 0 0, rfl, ⟨by omega⟩, ⟨by omega⟩, ⟨by rw [List.drop_zero]; cases readK (readF ps n) p.f2 (at_ + 1) with | none => rfl | some q => rfl⟩, ⟨rfl⟩, ⟨by have := HH.out; omega⟩, HO68, HO71, ⟨Kd.R_nil _ _ _ _ _⟩, BK5, ⟨by rw [← HZ1.out]; exact BKG.out⟩, HB, HKB⟩
      case round =>
       clear HO68 HO71 BK5 BKG BK4 HB HKB hz2
       obtain ⟨i, nx, kids, vC, rfl, HK, HI, HRD, HKL, HNX, HO68, HO71, HOC, BK5, BKG, HB, HKB⟩ := hrel
       have hcg : wr.cell? ⟨gg, 1, none⟩ = some (.int .i64 (nx : Int)) := (zP BKG.out 1).trans rfl
       by_cases hi : i < p.f2.length
       ·obtain ⟨g1, rfl⟩ : ∃ g1, gk = g1 + 1 := ⟨gk - 1, by have := HK.out; omega⟩
        have q1 : ((i : Int) < (p.f2.length : Int)) = True := eq_true (by omega)
        have q2 : (i < p.f2.length) = True := eq_true hi
        have q3 : decide ((i : Int) < (p.f2.length : Int)) = true := decide_eq_true (by omega)
        obtain ⟨adk, ek, hk0⟩ := Kd.at_int HR2.out (i : Int) (by omega) (by omega)
        subst ek
        rw [Int.toNat_natCast] at hk0
        have hk1 := (HB.out.cell (zB w0 _ hk0)).trans hk0
        obtain ⟨kk, hkk⟩ : ∃ q, q = rd p.f2 (i : Int) := ⟨_, rfl⟩
        rw [← hkk] at hk0 hk1
        have ED : p.f2.drop i = kk :: p.f2.drop (i + 1) := by
         rw [List.drop_eq_getElem_cons hi, hkk]
         congr 1
         unfold rd
         rw [Int.toNat_natCast, List.getD_eq_getElem?_getD, List.getElem?_eq_getElem hi]; rfl
        have HED := zA ED
        clear ED hkk hk0
        by_cases ck : kk = (nx : Int)
        ·have c1 : (kk != (nx : Int)) = false := bne_eq_false_iff_eq.mpr ck
         have c2 : (kk == (nx : Int)) = true := beq_iff_eq.mpr ck
         have CK := zA ck
         have hI := ih nx wr HNX.out.2 (by have := HNX.out; have := HN.out; omega) HB.out BKG.out
         have HRK := zA (show readK (readF ps n) (p.f2.drop i) nx = (match readF ps n nx with | none => none | some (t, e) => (match readK (readF ps n) (p.f2.drop (i + 1)) e with | none => none | some (l, e') => some (t :: l, e'))) from by rw [HED.out, readK, if_pos CK.out]; rfl)
         cases hR : readF ps n nx with
         | none =>
          rw [hR] at hI HRK
          have HRR := zA (show readF ps (n + 1) at_ = none from by rw [RR.out, HRD.out, HRK.out])
          clear ck hR
          go_wp2_with (first | ((with_reducible refine gate_callee (f := 61) rfl ?_); refine goesL_ (some 89) rfl rfl Try.func61 (by kernel_rfl) rfl #[.pointer (some ⟨gg, 0, none⟩)] rfl (by (try simp only [zAA, zAB, zAC]); first | done | rfl) ?_; refine hI.mono ?_; rintro e w10 ⟨rfl, hb⟩; refine ⟨_, rfl, ?_⟩; clear HB hcg; have HB := zA hb; clear hb))
          go_ret2
          exact (show Post74 (n + 1) w0 w gg (some ad) ps.length c (readF ps (n + 1) at_) _ _ from (by rw [HRR.out]; exact ⟨by first | rfl | (simp <;> rfl), HB.out⟩))
         | some te =>
          obtain ⟨t, e1⟩ := te
          rw [hR] at hI HRK
          have HLE := zA (readF_le ps n nx t e1 hR)
          clear ck hR
          go_wp2_with (first | ((with_reducible refine gate_callee (f := 61) rfl ?_); refine goesL_ (some 89) rfl rfl Try.func61 (by kernel_rfl) rfl #[.pointer (some ⟨gg, 0, none⟩)] rfl (by (try simp only [zAA, zAB, zAC]); first | done | rfl) ?_; refine hI.mono ?_; rintro e w10 ⟨x, rfl, hx1, hM, hb, hkb, hkg⟩; refine ⟨_, rfl, ?_⟩; have HVL := zA (Kd.R_lt HOC.out); have HGL := zA (blk_lt BK5.out); have HWS := zA hkb.1; have HWR := zA HKB.out.1; have HXE := zA hx1; have HM := zA hM; have n0_ := zA hb; have n1_ := zA hkg; have n2_ := zA (hkb.blk BK5.out (NBG5.out.symm) (by simp)); have n3_ := zA (Kd.R_keep HO68.out hkb (fun k hk => by have := HGW.out; omega)); have n4_ := zA (Kd.R_keep HO71.out hkb (fun k hk => by have := HGW.out; omega)); have n5_ := zA (Kd.R_keep HOC.out hkb (fun k hk => by have := HGW.out; have := hk.1; omega)); have n6_ := zA (HKB.out.trans hkb (.inl rfl)); clear HB BKG BK5 HO68 HO71 HOC HKB hb hkb hkg hx1 hM hcg; have HB := n0_; have BKG := n1_; have BK5 := n2_; have HO68 := n3_; have HO71 := n4_; have HOC := n5_; have HKB := n6_; clear n0_ n1_ n2_ n3_ n4_ n5_ n6_; have hc9 : w10.cell? ⟨gb5, 2, none⟩ = some vC := (zP BK5.out 2).trans rfl) | ((with_reducible refine gate_builtin (b := .append) (xs := #[.tmp 98, .tmp 100]) rfl ?_); at_builtin; refine Kd.R_append k74p (w0 := w0) w0.heap.size rfl (.tmp 98) (.tmp 100) 72 60 (.pointer none) 8 rfl Try.underlying72 info60 rfl (by decide) (by omega) vC kids x [.pointer (some ⟨x.adr, 0, none⟩)] (fun k => w.heap.size ≤ k ∧ k ≠ gb5) (fun k => wr.heap.size ≤ k) rfl rfl ?aP ?aK ?aF ?aO ?aB ?aS ?aL ?_; (case aP => exact HM.out); (case aK => exact (fun k hk => ⟨⟨by have := HWR.out; omega, by have := HGL.out; omega⟩, fun e => by have := HVL.out k e.symm; omega⟩)); (case aF => exact (fun k hk => ⟨by have := HWS.out; have := HWR.out; omega, by have := HGL.out; have := HWS.out; omega⟩)); (case aO => exact HOC.out); (case aB => exact HB.out); (case aS => exact (zAE HB.out)); (case aL => have := HLN.out; have := HKL.out; omega); intro v101 w11 ho hb hg hat; obtain ⟨ys, hys⟩ : ∃ ys, ys = kids ++ [x] := ⟨_, rfl⟩; rw [← hys] at ho; have HYS := zA hys; clear hys; have n0_ := zA ho; have n1_ := zA hb; have n2_ := zA (blk_grown BK5.out hg (Kd.R_ne HOC.out BK5.out (by decide))); have n3_ := zA (blk_grown BKG.out hg (Kd.R_ne HOC.out BKG.out (by decide))); have n4_ := zA (Kd.R_mono (Kd.R_grown (R_apart HO68.out HOC.out (by decide)) hg (fun _ hk => hk.2)) (fun _ hk => hk.1) : Kd.R Kd.string 9 w11 w0.heap.size (fun k => w.heap.size ≤ k) (.slice A68 p.f0.length c68) p.f0); have n5_ := zA (Kd.R_mono (Kd.R_grown (R_apart HO71.out HOC.out (by decide)) hg (fun _ hk => hk.2)) (fun _ hk => hk.1) : Kd.R Kd.string 9 w11 w0.heap.size (fun k => w.heap.size ≤ k) (.slice A71 p.f1.length c71) p.f1); have n6_ := zA (HKB.out.trans (KeepBut.of_grown hg gg) (by cases hvo : vC.ownBlock with | none => exact .inl rfl | some b => exact .inr ⟨b, rfl, (HOC.out.1 b hvo).1⟩)); clear HB BKG BK5 HO68 HO71 HOC HKB hc9 ho hb hg hat; have HOC := n0_; have HB := n1_; have BK5 := n2_; have BKG := n3_; have HO68 := n4_; have HO71 := n5_; have HKB := n6_; clear n0_ n1_ n2_ n3_ n4_ n5_ n6_; have hc11 : w11.cell? ⟨gb5, 2, none⟩ = some vC := (zP BK5.out 2).trans rfl; have hf11 := zO BK5.out 2; obtain ⟨A97, c97, eo⟩ := Kd.R_slice HOC.out; subst eo))
          go_roundg g1
          case measure => omega
          case rel => exact ⟨i + 1, e1, ys, _, by rw [w64N i (by have := HLN.out; omega)], ⟨by have := HK.out; omega⟩, ⟨by omega⟩, ⟨by
            rw [HRD.out, HRK.out]
            cases readK (readF ps n) (p.f2.drop (i + 1)) e1 with
            | none => rfl
            | some q =>
             show some (kids.map er74 ++ (t :: q.1), q.2) = some (ys.map er74 ++ q.1, q.2)
             rw [HYS.out, List.map_append, List.append_assoc, ← HXE.out]; rfl⟩, ⟨by rw [HYS.out, List.length_append, HKL.out]; rfl⟩, ⟨by have := HNX.out; have := HLE.out; omega⟩,
           ⟨Kd.R_set HO68.out BK5.out (by decide) 2 _⟩, ⟨Kd.R_set HO71.out BK5.out (by decide) 2 _⟩, ⟨Kd.R_far (p := ⟨gb5, 2, none⟩) HOC.out (fun _ hk => hk.2) _⟩, ⟨blk_put BK5.out 2 _ rfl⟩, ⟨blk_far BKG.out NBG5.out _⟩, ⟨zI HB.out (by have := GW5.out; have := HGW.out; omega)⟩, ⟨keep_far HKB.out GW5.out _⟩⟩
        ·have c1 : (kk != (nx : Int)) = true := bne_iff_ne.mpr ck
         have c2 : (kk == (nx : Int)) = false := beq_eq_false_iff_ne.mpr ck
         have CK := zA ck
         have HRR := zA (show readF ps (n + 1) at_ = none from by rw [RR.out, HRD.out, HED.out, readK, if_neg CK.out])
         clear ck
         go_wp2
         go_ret2
         exact (show Post74 (n + 1) w0 w gg (some ad) ps.length c (readF ps (n + 1) at_) _ _ from (by rw [HRR.out]; exact ⟨by first | rfl | (simp <;> rfl), HB.out⟩))
       ·have q3 : decide ((i : Int) < (p.f2.length : Int)) = false := decide_eq_false (by omega)
        have HRR := zA (show readF ps (n + 1) at_ = some (⟨p.f0, p.f1, kids.map er74⟩, nx) from by
         rw [RR.out, HRD.out, List.drop_eq_nil_of_le (by have := HI.out; omega), readK]
         show some (T.mk p.f0 p.f1 (kids.map er74 ++ []), nx) = _
         rw [List.append_nil])
        obtain ⟨A99, c99, eo⟩ := Kd.R_slice HOC.out
        subst eo
        go_wp2
        go_ret2
        exact (show Post74 (n + 1) w0 w gg (some ad) ps.length c (readF ps (n + 1) at_) _ _ from (by
         rw [HRR.out]
         exact ⟨⟨gb5, p.f0, p.f1, kids⟩, by first | rfl | (simp <;> rfl), er74_eq _, k74p_mkM GW5.out (by have := GW5.out; have := HGW.out; show w0.heap.size ≤ gb5; omega) BK5.out (Kd.R_types HO68.out BK5.out (by decide)) (Kd.R_types HO71.out BK5.out (by decide)) HOC.out, HB.out, HKB.out, BKG.out⟩))
     ·have e3 : decide ((0 : Int) < (p.f2.length : Int)) = true := decide_eq_true (by omega)
      have e3' : decide (0 < p.f2.length) = true := decide_eq_true (by omega)
      have K3 := zA k3
      clear k3
      by_cases k4 : p.f2.length = p.f0.length + 1
      ·have e4 : (((p.f2.length : Int)) != ((p.f0.length + 1 : Nat) : Int)) = false := bne_eq_false_iff_eq.mpr (by omega)
       have e4' : (p.f2.length != p.f0.length + 1) = false := bne_eq_false_iff_eq.mpr k4
       have e4'' : (p.f2.length == p.f0.length + 1) = true := beq_iff_eq.mpr k4
       have e4x : (((p.f2.length : Int)) != (p.f0.length : Int) + 1) = false := bne_eq_false_iff_eq.mpr (by omega)
       have K4 := zA k4
       clear k4
       have RR := zA (show readF ps (n + 1) at_ = (match readK (readF ps n) p.f2 (at_ + 1) with | none => none | some (l, e) => some (⟨p.f0, p.f1, l⟩, e)) from by rw [readF, HP.out]; exact if_pos ⟨K1.out, K2.out, .inr K4.out⟩)
       go_wp2
       have HW1 := zA hw1
       (try clear hw1); (try clear hw2); (try clear e1); (try clear e1'); (try clear e2); (try clear e2'); (try clear e2''); (try clear e3); (try clear e3'); (try clear e3''); (try clear e3d); (try clear e4); (try clear e4'); (try clear e4''); (try clear e4x); (try clear b1); (try clear b2); (try clear b4); (try clear b5); (try clear b6); (try clear b7)
       clear hx1 hfg hnb hnc hz0 hzz1 hz2
       have n0_ := zA (show (w5.setCell ⟨gg, 1, none⟩ (.int .i64 z1)).drew.heap[gg]? = some (.cells #[.slice (some ad) ps.length c, .int .i64 z1] 101 (0, 0)) from zN (blk_put BKG.out 1 _ rfl))
       have n1_ := zA (show (w5.setCell ⟨gg, 1, none⟩ (.int .i64 z1)).drew.heap[gb4]? = some (.cells #[.slice A0 p.f0.length c0, .slice A1 p.f1.length c1, .slice A2 p.f2.length c2] 97 (0, 0)) from zN (blk_far BK4.out NBG4.out.symm _))
       have n2_ := zA (zG (zI HB.out hgg (j := 1) (v := .int .i64 z1)))
       have n3_ := zA (keep_drew (KeepBut.set_ HKB.out 1 (.int .i64 z1)))
       clear BKG BK4 HB HKB
       have BKG := n0_
       have BK4 := n1_
       have HB := n2_
       have HKB := n3_
       clear n0_ n1_ n2_ n3_
       have HCL0 := zA (show slices_Clone_string_string.f p.f0 = some p.f0 from by unfold slices_Clone_string_string.f; rw [Option.bind_some, if_pos (by have := HLN.out; simp only [List.length_nil]; omega), List.nil_append])
       have HCL1 := zA (show slices_Clone_string_string.f p.f1 = some p.f1 from by unfold slices_Clone_string_string.f; rw [Option.bind_some, if_pos (by have := HLN.out; simp only [List.length_nil]; omega), List.nil_append])
       refine start_ (n := 9) (S := fun w' => w'.cell? ⟨gb4, 0, none⟩ = some (.slice A0 p.f0.length c0) ∧ w'.cell? ⟨gb4, 1, none⟩ = some (.slice A1 p.f1.length c1)) (ds := []) (bA 9 0) (by kernel_rfl) rfl rfl ⟨(zP BK4.out 0).trans rfl, (zP BK4.out 1).trans rfl⟩ (fun hHeld => ?_)
       refine with_tabW nodeI.tab7 nodeI.bits7 (fun HT_ HW_ => ?_)
       generalize (w5.setCell ⟨gg, 1, none⟩ (.int .i64 z1)).drew = w6 at BKG BK4 HB HKB hHeld ⊢
       refine wzP 0 66 (bA 9 1) HT_ ?_
       refine wzT 1 67 (bA 9 3) HT_ HW_ hHeld ?_
       refine wzP 3 69 (bA 9 11) HT_ ?_
       refine wzT 4 70 (bA 9 27) HT_ HW_ hHeld ?_
       refine one_ (i := 2) (N := some 68) (bA 9 31) rfl rfl (one_of HT_.out (by kernel_rfl)) (by decide) (fun K hK => ?_)
       refine goes_ Try.func65 (by kernel_rfl) rfl #[.slice A0 p.f0.length c0] (by rfl) rfl rfl (by (try simp only [zAA, zAB, zAC]); first | done | rfl | (simp only [zZ, zY]; rfl)) ?_
       with_reducible refine (slices_Clone_string_string.calls _ _ p.f0 p.f0 _ ?side1 ?side2 HCL0.out).mono ?_
       (case side1 => exact Kd.C_below HR0.out HB.out); (case side2 => exact HL0.out)
       rintro e w7 ⟨v68, rfl, ho, hb⟩
       refine ⟨_, rfl, ?_⟩
       have n0_ := zA (Kd.R_lower (Kd.R_mono (Kd.R_bound ho) (fun k hk => Nat.le_trans HKB.out.1 hk.2.1) : Kd.R Kd.string 9 w7 w6.heap.size (fun k => w.heap.size ≤ k) v68 p.f0) (zAE HB.out))
       have n1_ := zA (blk_below BKG.out hb)
       have n2_ := zA (blk_below BK4.out hb)
       have n3_ := zA (zAD HB.out hb)
       have n4_ := zA (HKB.out.trans (KeepBut.of_below hb gg none) (.inl rfl))
       clear BKG BK4 HB HKB ho hb
       have HO68 := n0_
       have BKG := n1_
       have BK4 := n2_
       have HB := n3_
       have HKB := n4_
       clear n0_ n1_ n2_ n3_ n4_
       refine hK.out _ _ ⟨(zP BK4.out 0).trans rfl, (zP BK4.out 1).trans rfl⟩ (fun hHeld => ?_); clear hK K; refine wzN 68 ?_
       refine one_ (i := 5) (N := some 71) (bA 9 63) rfl rfl (one_of HT_.out (by kernel_rfl)) (by decide) (fun K hK => ?_)
       refine goes_ Try.func65 (by kernel_rfl) rfl #[.slice A1 p.f1.length c1] (by rfl) rfl rfl (by (try simp only [zAA, zAB, zAC]); first | done | rfl | (simp only [zZ, zY]; rfl)) ?_
       with_reducible refine (slices_Clone_string_string.calls _ _ p.f1 p.f1 _ ?side1 ?side2 HCL1.out).mono ?_
       (case side1 => exact Kd.C_below HR1.out HB.out); (case side2 => exact HL1.out)
       rintro e w8 ⟨v71, rfl, ho, hb⟩
       refine ⟨_, rfl, ?_⟩
       have n0_ := zA (Kd.R_lower (Kd.R_mono (Kd.R_bound ho) (fun k hk => Nat.le_trans HKB.out.1 hk.2.1) : Kd.R Kd.string 9 w8 w7.heap.size (fun k => w.heap.size ≤ k) v71 p.f1) (zAE HB.out))
       have n1_ := zA (blk_below BKG.out hb)
       have n2_ := zA (blk_below BK4.out hb)
       have n3_ := zA (zAD HB.out hb)
       have n4_ := zA (HKB.out.trans (KeepBut.of_below hb gg none) (.inl rfl))
       have n5_ := zA (Kd.R_below HO68.out hb)
       clear BKG BK4 HB HKB ho hb HO68
       have HO71 := n0_
       have BKG := n1_
       have BK4 := n2_
       have HB := n3_
       have HKB := n4_
       have HO68 := n5_
       clear n0_ n1_ n2_ n3_ n4_ n5_
       obtain ⟨A68, c68, eo⟩ := Kd.R_slice HO68.out
       subst eo
       obtain ⟨A71, c71, eo⟩ := Kd.R_slice HO71.out
       subst eo
       refine hK.out _ _ ⟨(zP BK4.out 0).trans rfl, (zP BK4.out 1).trans rfl⟩ (fun hHeld => ?_); clear hK K; refine wzN 71 ?_
       refine wzP 6 72 (bA 9 127) HT_ ?_
       refine one_ (i := 7) (N := some 73) (bA 9 255) rfl rfl (one_of HT_.out (by kernel_rfl)) (by decide) (fun K hK => ?_)
       refine box_step ?hg (N := 73) ?hd (cs := #[.slice A68 p.f0.length c68, .slice A71 p.f1.length c71, .slice none 0 0]) (t := 74) ?hr ?_; (case hd => rfl); (case hg => rfl); (case hr => first | (go_simp; done) | (go_simp; rfl))
       intro gb5 hg w9 hbox hb
       have n1_ := zA (blk_below BKG.out hb)
       have n2_ := zA (blk_below BK4.out hb)
       have n3_ := zA (zAD HB.out hb)
       have n4_ := zA (HKB.out.trans (KeepBut.of_below hb gg none) (.inl rfl))
       have n5_ := zA (Kd.R_below HO68.out hb)
       have n6_ := zA (Kd.R_below HO71.out hb)
       have GW5 := zA (by rw [hg]; exact HKB.out.1 : w.heap.size ≤ gb5)
       have NBG5 := zA (by rw [hg]; exact zK (blk_lt BKG.out) : gg ≠ gb5)
       clear BKG BK4 HB HKB hb HO68 HO71 hg
       have BKG := n1_
       have BK4 := n2_
       have HB := n3_
       have HKB := n4_
       have HO68 := n5_
       have HO71 := n6_
       have BK5 := zA hbox
       clear n1_ n2_ n3_ n4_ n5_ n6_ hbox
       refine hK.out _ _ ⟨(zP BK4.out 0).trans rfl, (zP BK4.out 1).trans rfl⟩ (fun hHeld => ?_); clear hK K; refine wzN 73 ?_
       refine wzP 8 5 (bA 9 511) HT_ ?_
       refine done_ (done_of HT_.out (by kernel_rfl)) ?_
       clear hHeld HT_ HW_
       have hz2 : w9.cell? ⟨gb4, 2, none⟩ = some (.slice A2 p.f2.length c2) := (zP BK4.out 2).trans rfl
       go_wp2
       go_loopg [77] (p.f2.length + 1) (fun kq v77 w' => ∃ (i nx : Nat) (kids : List S74) (vC : Value), v77 = .int .i64 (i : Int) ∧ Aside0 (kq + i = p.f2.length + 1) ∧ Aside0 (i ≤ p.f2.length) ∧ Aside0 (readK (readF ps n) p.f2 (at_ + 1) = (match readK (readF ps n) (p.f2.drop i) nx with | none => none | some (l, e) => some (kids.map er74 ++ l, e))) ∧ Aside0 (kids.length = i) ∧ Aside0 (at_ < nx ∧ nx ≤ ps.length) ∧ Aside0 (Kd.R Kd.string 9 w' w0.heap.size (fun k => w.heap.size ≤ k) (.slice A68 p.f0.length c68) p.f0) ∧ Aside0 (Kd.R Kd.string 9 w' w0.heap.size (fun k => w.heap.size ≤ k) (.slice A71 p.f1.length c71) p.f1) ∧ Aside0 (Kd.R k74p 60 w' w0.heap.size (fun k => w.heap.size ≤ k ∧ k ≠ gb5) vC kids) ∧ Aside0 (w'.heap[gb5]? = some (.cells #[.slice A68 p.f0.length c68, .slice A71 p.f1.length c71, vC] 74 (0, 0))) ∧ Aside0 (w'.heap[gg]? = some (.cells #[.slice (some ad) ps.length c, .int .i64 (nx : Int)] 101 (0, 0))) ∧ Aside0 (Below w0.heap.size w0 w') ∧ Aside0 (KeepBut w w' gg none))
       case atStart => exact ⟨0, at_ + 1, [], .slice none 0 0, rfl, ⟨by omega⟩, ⟨by omega⟩, ⟨by rw [List.drop_zero]; cases readK (readF ps n) p.f2 (at_ + 1) with | none => rfl | some q => rfl⟩, ⟨rfl⟩, ⟨by have := HH.out; omega⟩, HO68, HO71, ⟨Kd.R_nil _ _ _ _ _⟩, BK5, ⟨by rw [← HZ1.out]; exact BKG.out⟩, HB, HKB⟩
       case round =>
        clear HO68 HO71 BK5 BKG BK4 HB HKB hz2
        obtain ⟨i, nx, kids, vC, rfl, HK, HI, HRD, HKL, HNX, HO68, HO71, HOC, BK5, BKG, HB, HKB⟩ := hrel
        have hcg : wr.cell? ⟨gg, 1, none⟩ = some (.int .i64 (nx : Int)) := (zP BKG.out 1).trans rfl
        by_cases hi : i < p.f2.length
        ·obtain ⟨g1, rfl⟩ : ∃ g1, gk = g1 + 1 := ⟨gk - 1, by have := HK.out; omega⟩
         have q1 : ((i : Int) < (p.f2.length : Int)) = True := eq_true (by omega)
         have q2 : (i < p.f2.length) = True := eq_true hi
         have q3 : decide ((i : Int) < (p.f2.length : Int)) = true := decide_eq_true (by omega)
         obtain ⟨adk, ek, hk0⟩ := Kd.at_int HR2.out (i : Int) (by omega) (by omega)
         subst ek
         rw [Int.toNat_natCast] at hk0
         have hk1 := (HB.out.cell (zB w0 _ hk0)).trans hk0
         obtain ⟨kk, hkk⟩ : ∃ q, q = rd p.f2 (i : Int) := ⟨_, rfl⟩
         rw [← hkk] at hk0 hk1
         have ED : p.f2.drop i = kk :: p.f2.drop (i + 1) := by
          rw [List.drop_eq_getElem_cons hi, hkk]
          congr 1
          unfold rd
          rw [Int.toNat_natCast, List.getD_eq_getElem?_getD, List.getElem?_eq_getElem hi]; rfl
         have HED := zA ED
         clear ED hkk hk0
         by_cases ck : kk = (nx : Int)
         ·have c1 : (kk != (nx : Int)) = false := bne_eq_false_iff_eq.mpr ck
          have c2 : (kk == (nx : Int)) = true := beq_iff_eq.mpr ck
          have CK := zA ck
          have hI := ih nx wr HNX.out.2 (by have := HNX.out; have := HN.out; omega) HB.out BKG.out
          have HRK := zA (show readK (readF ps n) (p.f2.drop i) nx = (match readF ps n nx with | none => none | some (t, e) => (match readK (readF ps n) (p.f2.drop (i + 1)) e with | none => none | some (l, e') => some (t :: l, e'))) from by rw [HED.out, readK, if_pos CK.out]; rfl)
          cases hR : readF ps n nx with
          | none =>
           rw [hR] at hI HRK
           have HRR := zA (show readF ps (n + 1) at_ = none from by rw [RR.out, HRD.out, HRK.out])
           clear ck hR
           go_wp2_with (first | ((with_reducible refine gate_callee (f := 61) rfl ?_); refine goesL_ (some 89) rfl rfl Try.func61 (by kernel_rfl) rfl #[.pointer (some ⟨gg, 0, none⟩)] rfl (by (try simp only [zAA, zAB, zAC]); first | done | rfl) ?_; refine hI.mono ?_; rintro e w10 ⟨rfl, hb⟩; refine ⟨_, rfl, ?_⟩; clear HB hcg; have HB := zA hb; clear hb))
           go_ret2
           exact (show Post74 (n + 1) w0 w gg (some ad) ps.length c (readF ps (n + 1) at_) _ _ from (by rw [HRR.out]; exact ⟨by first | rfl | (simp <;> rfl), HB.out⟩))
          | some te =>
           obtain ⟨t, e1⟩ := te
           rw [hR] at hI HRK
           have HLE := zA (readF_le ps n nx t e1 hR)
           clear ck hR
           go_wp2_with (first | ((with_reducible refine gate_callee (f := 61) rfl ?_); refine goesL_ (some 89) rfl rfl Try.func61 (by kernel_rfl) rfl #[.pointer (some ⟨gg, 0, none⟩)] rfl (by (try simp only [zAA, zAB, zAC]); first | done | rfl) ?_; refine hI.mono ?_; rintro e w10 ⟨x, rfl, hx1, hM, hb, hkb, hkg⟩; refine ⟨_, rfl, ?_⟩; have HVL := zA (Kd.R_lt HOC.out); have HGL := zA (blk_lt BK5.out); have HWS := zA hkb.1; have HWR := zA HKB.out.1; have HXE := zA hx1; have HM := zA hM; have n0_ := zA hb; have n1_ := zA hkg; have n2_ := zA (hkb.blk BK5.out (NBG5.out.symm) (by simp)); have n3_ := zA (Kd.R_keep HO68.out hkb (fun k hk => by have := HGW.out; omega)); have n4_ := zA (Kd.R_keep HO71.out hkb (fun k hk => by have := HGW.out; omega)); have n5_ := zA (Kd.R_keep HOC.out hkb (fun k hk => by have := HGW.out; have := hk.1; omega)); have n6_ := zA (HKB.out.trans hkb (.inl rfl)); clear HB BKG BK5 HO68 HO71 HOC HKB hb hkb hkg hx1 hM hcg; have HB := n0_; have BKG := n1_; have BK5 := n2_; have HO68 := n3_; have HO71 := n4_; have HOC := n5_; have HKB := n6_; clear n0_ n1_ n2_ n3_ n4_ n5_ n6_; have hc9 : w10.cell? ⟨gb5, 2, none⟩ = some vC := (zP BK5.out 2).trans rfl) | ((with_reducible refine gate_builtin (b := .append) (xs := #[.tmp 98, .tmp 100]) rfl ?_); at_builtin; refine Kd.R_append k74p (w0 := w0) w0.heap.size rfl (.tmp 98) (.tmp 100) 72 60 (.pointer none) 8 rfl Try.underlying72 info60 rfl (by decide) (by omega) vC kids x [.pointer (some ⟨x.adr, 0, none⟩)] (fun k => w.heap.size ≤ k ∧ k ≠ gb5) (fun k => wr.heap.size ≤ k) rfl rfl ?aP ?aK ?aF ?aO ?aB ?aS ?aL ?_; (case aP => exact HM.out); (case aK => exact (fun k hk => ⟨⟨by have := HWR.out; omega, by have := HGL.out; omega⟩, fun e => by have := HVL.out k e.symm; omega⟩)); (case aF => exact (fun k hk => ⟨by have := HWS.out; have := HWR.out; omega, by have := HGL.out; have := HWS.out; omega⟩)); (case aO => exact HOC.out); (case aB => exact HB.out); (case aS => exact (zAE HB.out)); (case aL => have := HLN.out; have := HKL.out; omega); intro v101 w11 ho hb hg hat; obtain ⟨ys, hys⟩ : ∃ ys, ys = kids ++ [x] := ⟨_, rfl⟩; rw [← hys] at ho; have HYS := zA hys; clear hys; have n0_ := zA ho; have n1_ := zA hb; have n2_ := zA (blk_grown BK5.out hg (Kd.R_ne HOC.out BK5.out (by decide))); have n3_ := zA (blk_grown BKG.out hg (Kd.R_ne HOC.out BKG.out (by decide))); have n4_ := zA (Kd.R_mono (Kd.R_grown (R_apart HO68.out HOC.out (by decide)) hg (fun _ hk => hk.2)) (fun _ hk => hk.1) : Kd.R Kd.string 9 w11 w0.heap.size (fun k => w.heap.size ≤ k) (.slice A68 p.f0.length c68) p.f0); have n5_ := zA (Kd.R_mono (Kd.R_grown (R_apart HO71.out HOC.out (by decide)) hg (fun _ hk => hk.2)) (fun _ hk => hk.1) : Kd.R Kd.string 9 w11 w0.heap.size (fun k => w.heap.size ≤ k) (.slice A71 p.f1.length c71) p.f1); have n6_ := zA (HKB.out.trans (KeepBut.of_grown hg gg) (by cases hvo : vC.ownBlock with | none => exact .inl rfl | some b => exact .inr ⟨b, rfl, (HOC.out.1 b hvo).1⟩)); clear HB BKG BK5 HO68 HO71 HOC HKB hc9 ho hb hg hat; have HOC := n0_; have HB := n1_; have BK5 := n2_; have BKG := n3_; have HO68 := n4_; have HO71 := n5_; have HKB := n6_; clear n0_ n1_ n2_ n3_ n4_ n5_ n6_; have hc11 : w11.cell? ⟨gb5, 2, none⟩ = some vC := (zP BK5.out 2).trans rfl; have hf11 := zO BK5.out 2; obtain ⟨A97, c97, eo⟩ := Kd.R_slice HOC.out; subst eo))
           go_roundg g1
           case measure => omega
           case rel => exact ⟨i + 1, e1, ys, _, by rw [w64N i (by have := HLN.out; omega)], ⟨by have := HK.out; omega⟩, ⟨by omega⟩, ⟨by
             rw [HRD.out, HRK.out]
             cases readK (readF ps n) (p.f2.drop (i + 1)) e1 with
             | none => rfl
             | some q =>
              show some (kids.map er74 ++ (t :: q.1), q.2) = some (ys.map er74 ++ q.1, q.2)
              rw [HYS.out, List.map_append, List.append_assoc, ← HXE.out]; rfl⟩, ⟨by rw [HYS.out, List.length_append, HKL.out]; rfl⟩, ⟨by have := HNX.out; have := HLE.out; omega⟩,
            ⟨Kd.R_set HO68.out BK5.out (by decide) 2 _⟩, ⟨Kd.R_set HO71.out BK5.out (by decide) 2 _⟩, ⟨Kd.R_far (p := ⟨gb5, 2, none⟩) HOC.out (fun _ hk => hk.2) _⟩, ⟨blk_put BK5.out 2 _ rfl⟩, ⟨blk_far BKG.out NBG5.out _⟩, ⟨zI HB.out (by have := GW5.out; have := HGW.out; omega)⟩, ⟨keep_far HKB.out GW5.out _⟩⟩
         ·have c1 : (kk != (nx : Int)) = true := bne_iff_ne.mpr ck
          have c2 : (kk == (nx : Int)) = false := beq_eq_false_iff_ne.mpr ck
          have CK := zA ck
          have HRR := zA (show readF ps (n + 1) at_ = none from by rw [RR.out, HRD.out, HED.out, readK, if_neg CK.out])
          clear ck
          go_wp2
          go_ret2
          exact (show Post74 (n + 1) w0 w gg (some ad) ps.length c (readF ps (n + 1) at_) _ _ from (by rw [HRR.out]; exact ⟨by first | rfl | (simp <;> rfl), HB.out⟩))
        ·have q3 : decide ((i : Int) < (p.f2.length : Int)) = false := decide_eq_false (by omega)
         have HRR := zA (show readF ps (n + 1) at_ = some (⟨p.f0, p.f1, kids.map er74⟩, nx) from by
          rw [RR.out, HRD.out, List.drop_eq_nil_of_le (by have := HI.out; omega), readK]
          show some (T.mk p.f0 p.f1 (kids.map er74 ++ []), nx) = _
          rw [List.append_nil])
         obtain ⟨A99, c99, eo⟩ := Kd.R_slice HOC.out
         subst eo
         go_wp2
         go_ret2
         exact (show Post74 (n + 1) w0 w gg (some ad) ps.length c (readF ps (n + 1) at_) _ _ from (by
          rw [HRR.out]
          exact ⟨⟨gb5, p.f0, p.f1, kids⟩, by first | rfl | (simp <;> rfl), er74_eq _, k74p_mkM GW5.out (by have := GW5.out; have := HGW.out; show w0.heap.size ≤ gb5; omega) BK5.out (Kd.R_types HO68.out BK5.out (by decide)) (Kd.R_types HO71.out BK5.out (by decide)) HOC.out, HB.out, HKB.out, BKG.out⟩))
      ·have e4 : (((p.f2.length : Int)) != ((p.f0.length + 1 : Nat) : Int)) = true := bne_iff_ne.mpr (by omega)
       have e4' : (p.f2.length != p.f0.length + 1) = true := bne_iff_ne.mpr k4
       have e4'' : (p.f2.length == p.f0.length + 1) = false := beq_eq_false_iff_ne.mpr k4
       have e4x : (((p.f2.length : Int)) != (p.f0.length : Int) + 1) = true := bne_iff_ne.mpr (by omega)
       have K4 := zA k4
       clear k4
       have RR := zA (show readF ps (n + 1) at_ = none from by rw [readF, HP.out]; exact if_neg (fun q => q.2.2.elim K3.out K4.out))
       go_wp2
       go_ret2
       exact (show Post74 (n + 1) w0 w gg (some ad) ps.length c (readF ps (n + 1) at_) _ _ from (by rw [RR.out]; exact ⟨by first | rfl | (simp <;> rfl), zI HB.out hgg⟩))
    ·have e2 : (((p.f1.length : Int)) != (p.f0.length : Int)) = true := bne_iff_ne.mpr (by omega)
     have e2' : (p.f1.length != p.f0.length) = true := bne_iff_ne.mpr k2
     have e2'' : (p.f1.length == p.f0.length) = false := beq_eq_false_iff_ne.mpr k2
     have K2 := zA k2
     clear k2
     have RR := zA (show readF ps (n + 1) at_ = none from by rw [readF, HP.out]; exact if_neg (fun q => K2.out q.2.1))
     go_wp2
     go_ret2
     exact (show Post74 (n + 1) w0 w gg (some ad) ps.length c (readF ps (n + 1) at_) _ _ from (by rw [RR.out]; exact ⟨by first | rfl | (simp <;> rfl), zI HB.out hgg⟩))
   ·have e1 : decide ((4 : Int) < (p.f0.length : Int)) = true := decide_eq_true (by omega)
    have e1' : decide (4 < p.f0.length) = true := decide_eq_true (by omega)
    have K1 := zA k1
    clear k1
    have RR := zA (show readF ps (n + 1) at_ = none from by rw [readF, HP.out]; exact if_neg (fun q => K1.out q.1))
    go_wp2
    go_ret2
    exact (show Post74 (n + 1) w0 w gg (some ad) ps.length c (readF ps (n + 1) at_) _ _ from (by rw [RR.out]; exact ⟨by first | rfl | (simp <;> rfl), zI HB.out hgg⟩))
  ·have b1 : ((at_ : Int) == (ps.length : Int)) = true := beq_iff_eq.mpr (by omega)
   have b2 : (at_ == ps.length) = true := beq_iff_eq.mpr (by omega)
   have R := zA (show readF ps (n + 1) at_ = none by unfold readF; rw [List.getElem?_eq_none (by omega)])
   clear hb hk hC hG
   go_enter Try.func61, Try.ntmps61
   go_wp2
   repeat (go_quiet (fail); try go_wp2)
   go_ret2
   exact (show Post74 (n + 1) w0 w gg A ps.length c (readF ps (n + 1) at_) _ _ from (by rw [R.out]; exact ⟨by first | rfl | (simp <;> rfl), by repeat (first | exact HB.out | apply zH | apply zF | apply zG)⟩))
end Go.Proofs.Ytnplghcbdaiogaa.QY
end
