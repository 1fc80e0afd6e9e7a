/- For the law FnExactPiecesOf (laid by merge.py). -/
import Derived.Test.YtnplghcbdaiogaaMFnExactPiecesOfe
section
namespace Go.Proofs.Ytnplghcbdaiogaa.RW
open Go.RowKit Go.Proofs.YtnplghcbdaiogaaW.PrintWords Go.Proofs.YtnplghcbdaiogaaW.PrintLast Go.Proofs.YtnplghcbdaiogaaW.PrintMore Go.Proofs.Ytnplghcbdaiogaa.PB Go.Proofs.Ytnplghcbdaiogaa.PD Go.Proofs.Ytnplghcbdaiogaa.PK Go.Proofs.Ytnplghcbdaiogaa.PL Go.Proofs.Ytnplghcbdaiogaa.PT Go.Proofs.Ytnplghcbdaiogaa.PU Go.Proofs.Ytnplghcbdaiogaa.PG Go.Proofs.Ytnplghcbdaiogaa.PW Go.Proofs.Ytnplghcbdaiogaa.QW Go.Proofs.Ytnplghcbdaiogaa.PA Go.Proofs.Ytnplghcbdaiogaa.QP Go.Proofs.Ytnplghcbdaiogaa.QO
attribute [local go_sem] max2_int min2_int max_two min_two max_three min_three max_four min_four
set_option linter.unusedVariables false
set_option linter.unusedSimpArgs false
set_option maxHeartbeats 4000000
set_option maxRecDepth 100000
def PostAll (w0 : World) (R1 R2 : List ByteArray) (e : Ending) (w' : World) : Prop := ∃ v0 v1 : Value, e = .returned (.tuple #[v0, v1]) ∧ Kd.string.R 9 w' w0.heap.size (fun k => some k ≠ v1.ownBlock) v0 R1 ∧ Kd.string.R 9 w' w0.heap.size (fun k => some k ≠ v0.ownBlock) v1 R2 ∧ Below w0.heap.size w0 w'
def alC.T6 : Bool × List (List Nat × List Nat) := (true, [([], []), ([], []), ([1], [1]), ([0, 2], [0, 2]), ([], []), ([], []), ([5], [5]), ([6], [6]), ([7], [7]), ([], []), ([8, 9], [8, 9]), ([10], [10]), ([11], [11]), ([4, 12, 3], [4, 12]), ([3, 13, 0, 1, 2, 3], [0, 3]), ([13, 14, 0, 1, 2, 3, 4, 5, 6, 7, 8, 9, 10, 11, 12, 13, 14], [4, 13])])
def alC.B6 : List Nat := [0, 0, 2, 7, 0, 0, 32, 96, 224, 0, 992, 2016, 4064, 8191, 16383, 32767]
theorem alC.tab6 : rtab .any (opsOf Try.f64 6) = alC.T6 := by kernel_rfl
theorem alC.bits6 : waitsOk alC.T6.2 alC.B6 = true := by kernel_rfl
def alC.T9 : Bool × List (List Nat × List Nat) := (true, [([], []), ([0], [0]), ([1], [1]), ([2], [2]), ([], []), ([4], [4]), ([5], [5]), ([6], [6]), ([7], [7]), ([3, 8], [3, 8]), ([9], [9]), ([], []), ([], []), ([10, 11, 12], [10, 11, 12]), ([13], [13]), ([14], [14]), ([14], [14]), ([15, 13, 0, 1, 2, 3, 4, 5, 6, 7, 8, 9, 10, 11, 12, 13, 14, 15], [11, 15]), ([16, 17, 0, 1, 2, 3, 4, 5, 6, 7, 8, 9, 10, 11, 12, 13, 14, 15, 16, 17], [12, 16])])
def alC.B9 : List Nat := [0, 1, 3, 7, 0, 16, 48, 112, 240, 511, 1023, 0, 0, 8191, 16383, 32767, 32767, 65535, 262143]
theorem alC.tab9 : rtab .any (opsOf Try.f64 9) = alC.T9 := by kernel_rfl
theorem alC.bits9 : waitsOk alC.T9.2 alC.B9 = true := by kernel_rfl
theorem allC : ∀ (n : Nat) (y : S74) (u1 u2 : Value) (l1 l2 : List ByteArray) (w0 w : World), hT (er74 y) ≤ n → okT (er74 y) → l1.length + (keysT (er74 y)).length ≤ 8796093022207 → l2.length + (valsT (er74 y)).length ≤ 8796093022207 → Below w0.heap.size w0 w → k74p.K w0 y [.pointer (some ⟨y.adr, 0, none⟩)] →
  Kd.string.R 9 w w0.heap.size (fun k => some k ≠ u2.ownBlock) u1 l1 → Kd.string.R 9 w w0.heap.size (fun k => some k ≠ u1.ownBlock) u2 l2 → Calls Try.prog 64 #[.pointer (some ⟨y.adr, 0, none⟩), u1, u2] w fun e w' => PostAll w0 (l1 ++ keysT (er74 y)) (l2 ++ valsT (er74 y)) e w' := by
 intro n
 induction n with
 | zero => intro y u1 u2 l1 l2 w0 w h; rw [hT_eq] at h; omega
 | succ n ih =>
  intro y u1 u2 l1 l2 w0 w hh hok hb1 hb2 hB hK ho1 ho2
  have hu74 := Try.underlying74
  obtain ⟨e0, e1, e2⟩ := er74_f y
  obtain ⟨o1, o2, o3, o4⟩ := (okT_eq _).1 hok
  rw [e0, e1] at o2
  rw [e0] at o1 o3
  obtain ⟨l, hl⟩ : ∃ q, q = (er74 y).f2 := ⟨_, rfl⟩
  have hll : l.length = y.f2.length := by rw [hl, e2, List.length_map]
  rw [← hl] at o3 o4
  obtain ⟨R1, hR1⟩ : ∃ q, q = l1 ++ keysT (er74 y) := ⟨_, rfl⟩
  obtain ⟨R2, hR2⟩ : ∃ q, q = l2 ++ valsT (er74 y) := ⟨_, rfl⟩
  have hr1 : l1 ++ wvK l y.f0 = R1 := by rw [hR1, keysT_eq, ← hl, e0]
  have hr2 : l2 ++ wvV l y.f1 = R2 := by rw [hR2, valsT_eq, ← hl, e1]
  have HR1L := zA (show R1.length ≤ 8796093022207 from by rw [hR1, List.length_append]; exact hb1)
  have HR2L := zA (show R2.length ≤ 8796093022207 from by rw [hR2, List.length_append]; exact hb2)
  rw [← hR1, ← hR2]
  have HK := zA hK
  have HB := zA hB
  obtain ⟨b, hb⟩ : ∃ q, q = ((y.f2.length : Int) == 0) := ⟨_, rfl⟩
  have HLF := zA (show impl_node_isLeaf.f y = some b from by rw [hb]; rfl)
  have hlen : l.length = y.f0.length + 1 ∨ l = [] := by
   rcases o3 with h | h
   ·exact .inr (List.eq_nil_of_length_eq_zero h)
   ·exact .inl h
  have HBF := zA (fun h => by
   rcases hlen with q | q
   ·exact q
   ·rw [h, ← hll, q] at hb; exact absurd hb (by decide) : b = false → l.length = y.f0.length + 1)
  have HBT := zA (fun h => by
   rw [h] at hb
   have := beq_iff_eq.1 hb.symm
   exact List.eq_nil_of_length_eq_zero (by omega) : b = true → l = [])
  have HLL := zA hll
  have HKS := zA (fun j hj => by
   have h2 : l[j] ∈ l := List.getElem_mem hj
   have he : er74 (rd_N74 y.f2 (j : Int)) = l[j] := by
    rw [rdI_at y.f2 j (by omega)]; simp only [hl, e2, List.getElem_map]
   have h3 := hL_mem l _ h2
   rw [hT_eq, ← hl] at hh
   exact ⟨he, by rw [he]; omega, by rw [he]; exact o4 _ h2⟩ : ∀ (j : Nat) (hj : j < l.length), er74 (rd_N74 y.f2 (j : Int)) = l[j] ∧ hT (er74 (rd_N74 y.f2 (j : Int))) ≤ n ∧ okT (er74 (rd_N74 y.f2 (j : Int))))
  have HVL := zA o2
  have HK4 := zA o1
  obtain ⟨An0, cn0, An1, cn1, An2, cn2, hz0, hz1, hz2, hln0, hC0, hln1, hC1, hln2, hin2⟩ := at_P74 hK
  have HZ0 := zA hz0; have HZ1_ := zA hz1; have HZ2 := zA hz2; have HIN := zA hin2; have HC0 := zA hC0; have HC1 := zA hC1
  obtain ⟨A1, c1, eo⟩ := Kd.R_slice ho1
  subst eo
  obtain ⟨A2, c2, eo⟩ := Kd.R_slice ho2
  subst eo
  have HO1 := zA ho1; have HO2 := zA ho2
  have HL1 := zA (show l1 ++ wvK (l.drop 0) (y.f0.drop 0) = R1 from hr1)
  have HL2 := zA (show l2 ++ wvV (l.drop 0) (y.f1.drop 0) = R2 from hr2)
  clear hln0 hC0 hln1 hC1 hln2 hin2 hz0 hz1 hz2 ho1 ho2 o1 o2 o3 o4 e0 e1 e2 hl hll hlen hR1 hR2 hr1 hr2 hb1 hb2 hh hok hB hK hb
  have hx0 := (HB.out.cell (zB w0 _ HZ0.out)).trans HZ0.out
  go_enter Try.func64, Try.ntmps64
  go_wp2
  go_loopg [1, 2, 15] (y.f0.length + 1) (fun kq v1 v2 v15 w' => ∃ (z : Int) (j : Nat) (L1 L2 : List ByteArray) (A1 : Option Addr) (c1 : Nat) (A2 : Option Addr) (c2 : Nat), v1 = .slice A1 L1.length c1 ∧ v2 = .slice A2 L2.length c2 ∧ v15 = .int .i64 z ∧ Aside0 (z = (j : Int)) ∧ Aside0 (kq + j = y.f0.length + 1) ∧ Aside0 (j ≤ y.f0.length) ∧ Aside0 (L1 ++ wvK (l.drop j) (y.f0.drop j) = R1) ∧ Aside0 (L2 ++ wvV (l.drop j) (y.f1.drop j) = R2) ∧ Aside0 (Kd.string.R 9 w' w0.heap.size (fun k => some k ≠ (.slice A2 L2.length c2 : Value).ownBlock) (.slice A1 L1.length c1) L1) ∧ Aside0 (Kd.string.R 9 w' w0.heap.size (fun k => some k ≠ (.slice A1 L1.length c1 : Value).ownBlock) (.slice A2 L2.length c2) L2) ∧ Aside0 (Below w0.heap.size w0 w'))
  case atStart => exact ⟨0, 0, l1, l2, A1, c1, A2, c2, rfl, rfl, rfl, ⟨rfl⟩, ⟨by omega⟩, ⟨by omega⟩, HL1, HL2, HO1, HO2, HB⟩
  case round =>
   clear hx0 HO1 HO2 HB HL1 HL2
   obtain ⟨z, j, L1, L2, A1, c1, A2, c2, rfl, rfl, rfl, HZ, HKQ, HJ, HL1, HL2, HO1, HO2, HB⟩ := hrel
   by_cases hj : j < y.f0.length
   ·obtain ⟨g1, rfl⟩ : ∃ g1, gk = g1 + 1 := ⟨gk - 1, by have := HKQ.out; omega⟩
    have hz := HZ.out
    have h4 := HK4.out
    have hvl := HVL.out
    have p1 : 0 ≤ z := by omega
    have p2 : z < (y.f0.length : Int) := by omega
    obtain ⟨adk, ek, hk0⟩ := Kd.at_string HC0.out z p1 p2
    obtain ⟨adv, ev, hv0⟩ := Kd.at_string HC1.out z p1 (by omega)
    subst ek
    subst ev
    obtain ⟨kx, hkx⟩ : ∃ q, q = rdOf ByteArray.empty y.f0 z := ⟨_, rfl⟩
    obtain ⟨vx, hvx⟩ : ∃ q, q = rdOf ByteArray.empty y.f1 z := ⟨_, rfl⟩
    rw [← hkx] at hk0
    rw [← hvx] at hv0
    have hkd : y.f0.drop j = kx :: y.f0.drop (j + 1) := by rw [List.drop_eq_getElem_cons hj, hkx, hz, rdOf_at _ _ _ hj]
    have hjv : j < y.f1.length := by rw [hvl]; exact hj
    have hvd : y.f1.drop j = vx :: y.f1.drop (j + 1) := by rw [List.drop_eq_getElem_cons hjv, hvx, hz, rdOf_at _ _ _ hjv]
    have hq1 := congrArg List.length HL1.out
    have hq2 := congrArg List.length HL2.out
    have hm1 := HR1L.out
    have hm2 := HR2L.out
    rw [List.length_append] at hq1 hq2
    have HLT := zA (fun h => by
     have e := HBT.out h
     have a1 := HL1.out
     have a2 := HL2.out
     rw [e, List.drop_nil, wvK_nil, hkd] at a1
     rw [e, List.drop_nil, wvV_nil, hvd] at a2
     rw [e, List.drop_nil, wvK_nil, wvV_nil]
     exact ⟨a1, a2⟩ : b = true → L1 ++ (kx :: wvK (l.drop (j + 1)) (y.f0.drop (j + 1))) = R1 ∧ L2 ++ (vx :: wvV (l.drop (j + 1)) (y.f1.drop (j + 1))) = R2)
    have HLN := zA (fun h => by
     have e := HBF.out h
     have hjl : j < l.length := by omega
     obtain ⟨f1, f2, f3⟩ := HKS.out j hjl
     have a1 := HL1.out
     have a2 := HL2.out
     rw [List.drop_eq_getElem_cons hjl, hkd, wvK_mid, ← f1] at a1
     rw [List.drop_eq_getElem_cons hjl, hvd, wvV_mid, ← f1] at a2
     have b1 := congrArg List.length a1
     have b2 := congrArg List.length a2
     simp only [List.length_append, List.length_cons] at b1 b2
     exact ⟨f2, f3, by omega, by omega, a1, a2⟩ : b = false → hT (er74 (rd_N74 y.f2 (j : Int))) ≤ n ∧ okT (er74 (rd_N74 y.f2 (j : Int))) ∧ L1.length + (keysT (er74 (rd_N74 y.f2 (j : Int)))).length ≤ 8796093022207 ∧ L2.length + (valsT (er74 (rd_N74 y.f2 (j : Int)))).length ≤ 8796093022207 ∧ L1 ++ (keysT (er74 (rd_N74 y.f2 (j : Int))) ++ kx :: wvK (l.drop (j + 1)) (y.f0.drop (j + 1))) = R1 ∧ L2 ++ (valsT (er74 (rd_N74 y.f2 (j : Int))) ++ vx :: wvV (l.drop (j + 1)) (y.f1.drop (j + 1))) = R2)
    have HU0 := zA (fun h => by have e := HBF.out h; have e2 := HLL.out; exact ⟨p1, by omega⟩ : b = false → 0 ≤ z ∧ z < (y.f2.length : Int))
    have q1 : decide (z < (y.f0.length : Int)) = true := decide_eq_true p2
    have q2 : (z < (y.f0.length : Int)) = True := eq_true p2
    have q3 : (0 ≤ z) = True := eq_true p1
    have q4 : decide (0 ≤ z) = true := decide_eq_true p1
    have q5 : decide (z < (y.f1.length : Int)) = true := decide_eq_true (by omega)
    have q6 : (z < (y.f1.length : Int)) = True := eq_true (by omega)
    have HZ1 := zA (show wrap64 (z + 1) = ((j + 1 : Nat) : Int) from by unfold wrap64; omega)
    have HV1 := zA HZ1_.out
    have HV2 := zA hv0
    have HJO := zA hj
    have hx0 := (HB.out.cell (zB w0 _ hk0)).trans hk0
    clear hz h4 hvl p1 p2 hk0 hv0 hkx hvx hkd hvd hjv hq1 hq2 hm1 hm2 hj
    cases b
    all_goals (go_wp2_with (first | ((with_reducible refine gate_callee (f := 35) rfl ?_); (try (refine gate_guard (by rfl) ?_; dsimp only)); refine goesL_ (some 21) rfl rfl Try.func35 (by kernel_rfl) rfl #[.pointer (some ⟨y.adr, 0, none⟩)] rfl (by (try simp only [zAA, zAB, zAC]); first | done | rfl) ?_; refine (impl_node_isLeaf.calls y _ _ (k74p.K_below HB.out HK.out) HLF.out).mono ?_; rintro er w10 ⟨rfl, m10, hw⟩; rw [hw]; clear hw w10; refine ⟨_, rfl, ?_⟩; have n1_ := zA (Kd.R_drewN HO1.out m10); have n2_ := zA (Kd.R_drewN HO2.out m10); have n3_ := zA (zF HB.out m10); clear HO1 HO2 HB; have HO1 := n1_; have HO2 := n2_; have HB := n3_; clear n1_ n2_ n3_; (try (have hbf := HLN.out rfl; clear hbf; obtain ⟨hu1, hu2, hu3, hu4, hu5, hu6⟩ := HLN.out rfl; obtain ⟨r1_, r2_⟩ := HU0.out rfl; rw [← HZ.out] at hu1 hu2 hu3 hu4 hu5 hu6; obtain ⟨ad, ead, hw3⟩ := at_N74 HIN.out z r1_ r2_; have HKU := zA (nd_el74 HIN.out z r1_ r2_); obtain ⟨u, hu⟩ : ∃ q, q = rd_N74 y.f2 z := ⟨_, rfl⟩; rw [← hu] at hw3 HKU hu1 hu2 hu3 hu4 hu5 hu6; subst ead; have HU1 := zA hu1; have HU2 := zA hu2; have HU3 := zA hu3; have HU4 := zA hu4; have HN1 := zA hu5; have HN2 := zA hu6; have hy2 := (HB.out.cell (zB w0 _ HZ2.out)).trans HZ2.out; have hy3 := (HB.out.cell (zB w0 _ hw3)).trans hw3; have q7 : decide (z < (y.f2.length : Int)) = true := decide_eq_true r2_; have q8 : (z < (y.f2.length : Int)) = True := eq_true r2_; clear hu hu1 hu2 hu3 hu4 hu5 hu6 r1_ r2_ hw3))) | ((with_reducible refine gate_callee (f := 64) rfl ?_); (try (refine gate_guard (by rfl) ?_; dsimp only)); refine goesL_ (some 33) rfl rfl Try.func64 (by kernel_rfl) rfl #[.pointer (some ⟨u.adr, 0, none⟩), .slice A1 L1.length c1, .slice A2 L2.length c2] rfl (by (try simp only [zAA, zAB, zAC]); first | done | rfl) ?_; refine (ih u _ _ L1 L2 w0 _ HU1.out HU2.out HU3.out HU4.out HB.out HKU.out HO1.out HO2.out).mono ?_; rintro er w33 ⟨v0, v1, rfl, r1, r2, hb⟩; refine ⟨_, rfl, ?_⟩; obtain ⟨L1, hM1⟩ : ∃ q, q = L1 ++ keysT (er74 u) := ⟨_, rfl⟩; obtain ⟨L2, hM2⟩ : ∃ q, q = L2 ++ valsT (er74 u) := ⟨_, rfl⟩; rw [← hM1] at r1; rw [← hM2] at r2; have n4_ := zA (by rw [hM1, List.append_assoc]; exact HN1.out : L1 ++ (kx :: wvK (l.drop (j + 1)) (y.f0.drop (j + 1))) = R1); have n5_ := zA (by rw [hM2, List.append_assoc]; exact HN2.out : L2 ++ (vx :: wvV (l.drop (j + 1)) (y.f1.drop (j + 1))) = R2); obtain ⟨A1, c1, eo⟩ := Kd.R_slice r1; subst eo; obtain ⟨A2, c2, eo⟩ := Kd.R_slice r2; subst eo; clear HO1 HO2 HB HL1 HL2 hM1 hM2 HN1 HN2; have HO1 := zA r1; have HO2 := zA r2; have HB := zA hb; have HL1 := n4_; have HL2 := n5_; clear r1 r2 hb n4_ n5_)))
    all_goals (try (have n1_ := zA (HLT.out (by first | rfl | trivial)).1; have n2_ := zA (HLT.out (by first | rfl | trivial)).2; clear HL1 HL2; have HL1 := n1_; have HL2 := n2_; clear n1_ n2_))
    all_goals
     have HLL1 := zA (show L1.length ≤ 8796093022207 from by have h1_ := congrArg List.length HL1.out; have h2_ := HR1L.out; rw [List.length_append] at h1_; omega)
     have HLL2 := zA (show L2.length ≤ 8796093022207 from by have h1_ := congrArg List.length HL2.out; have h2_ := HR2L.out; rw [List.length_append] at h1_; omega)
     clear hx0 HLT HLN HU0
     try go_wp2
     have n1_ := zA (Kd.R_drew HO1.out); have n2_ := zA (Kd.R_drew HO2.out); have n3_ := zA (zG HB.out)
     clear HO1 HO2 HB
     have HO1 := n1_; have HO2 := n2_; have HB := n3_
     clear n1_ n2_ n3_
     refine start_ (n := 16) (S := fun w' => w'.cell? ⟨y.adr, 1, none⟩ = some (.slice (some adv) y.f1.length cn1) ∧ w'.cell? (adv.add z.toNat) = some (.string vx)) (ds := []) (bA 16 0) (by kernel_rfl) rfl rfl ⟨(HB.out.cell (zB w0 _ HV1.out)).trans HV1.out, (HB.out.cell (zB w0 _ HV2.out)).trans HV2.out⟩ (fun hHeld => ?_)
     refine with_tabW alC.tab6 alC.bits6 (fun HT_ HW_ => ?_)
     generalize World.drew _ = w20 at HO1 HO2 HB hHeld ⊢
     refine wzP 0 36 (bA 16 1) HT_ ?_
     refine wzP 1 37 (bA 16 3) HT_ ?_
     refine wzP 4 40 (bA 16 19) HT_ ?_
     refine wzP 5 41 (bA 16 51) HT_ ?_
     refine wzP 6 42 (bA 16 115) HT_ ?_
     refine wzP 7 43 (bA 16 243) HT_ ?_
     refine wzP 9 45 (bA 16 755) HT_ ?_
     refine wzT 8 44 (bA 16 1011) HT_ HW_ hHeld ?_
     refine wzP 10 46 (bA 16 2035) HT_ ?_
     refine wzT 11 47 (bA 16 4083) HT_ HW_ hHeld ?_
     refine join_ (σ := Value × Value × Value) 3 (bA 16 8191) (fun s_ => [(38, s_.1), (39, s_.2.1), (48, s_.2.2)]) (fun s_ w' => (w'.cell? ⟨y.adr, 1, none⟩ = some (.slice (some adv) y.f1.length cn1) ∧ w'.cell? (adv.add z.toNat) = some (.string vx)) ∧ Kd.string.R 9 w' w0.heap.size (fun k_ => some k_ ≠ (.slice A2 L2.length c2 : Value).ownBlock) s_.2.1 (L1 ++ [kx]) ∧ Kd.string.R 9 w' w0.heap.size (fun k_ => True) (.slice A2 L2.length c2) L2 ∧ Kd.string.R 9 w' w0.heap.size (fun _ => True) s_.2.2 [vx] ∧ (∀ k_, (s_.2.2 : Value).ownBlock = some k_ → some k_ ≠ (s_.2.1 : Value).ownBlock ∧ some k_ ≠ (.slice A2 L2.length c2 : Value).ownBlock) ∧ Below w0.heap.size w0 w') ?_ ?_; rotate_left
     ·intro hJ
      refine two_ (i := 2) (j := 12) (Ni := some 38) (Nj := some 48) (bA 16 4087) (bA 16 8179) rfl rfl rfl rfl (two_of HT_.out (by kernel_rfl)) (by decide) (by decide) (fun K hK => ?_) (fun K hK => ?_)
      ·refine Kd.R_lit_step Kd.string _ 9 ?hg (N := 38) ?hd (xs := ([kx] : List ByteArray)) (inner := [.string kx]) (ok := fun _ => True) (okp := fun _ => True) ?hr ?hp (fun _ hk => hk) trivial (Below.refl _ _) (Nat.le_refl _) (by simp) ?_; (case hd => rfl); (case hg => rfl); (case hr => first | (go_simp; done) | (go_simp; rfl)); (case hp => exact (Reps.one (show Kd.M Kd.string _ _ _ kx [.string kx] from rfl) (Reps.none _ _))); intro v38 w21 ho hb hg_ hnew_; clear hg_ hnew_; have n1_ := zA (Kd.R_below HO1.out hb); have n2_ := zA (Kd.R_below HO2.out hb); have n3_ := zA (zAD HB.out hb); have LV1 := zA (Kd.R_lt HO1.out); have LV2 := zA (Kd.R_lt HO2.out); obtain ⟨A38, c38, eo⟩ := Kd.R_slice ho; subst eo; have R38 := zA ho; clear HO1 HO2 HB; have HO1 := n1_; have HO2 := n2_; have HB := n3_; clear n1_ n2_ n3_ ho hb; clear LV1 LV2; refine hK.out _ _ ⟨(HB.out.cell (zB w0 _ HV1.out)).trans HV1.out, (HB.out.cell (zB w0 _ HV2.out)).trans HV2.out⟩ (fun hHeld => ?_); clear hK K; refine wzN 38 ?_
       refine two_ (i := 3) (j := 12) (Ni := some 39) (Nj := some 48) (bA 16 4095) (bA 16 8183) rfl rfl rfl rfl (two_of HT_.out (by kernel_rfl)) (by decide) (by decide) (fun K hK => ?_) (fun K hK => ?_)
       ·refine Kd.R_append_rows_step Kd.string (w0 := w0) w0.heap.size (by rfl) (.tmp 36) (.tmp 38) 41 9 (.string ⟨#[]⟩) 16 rfl Try.underlying41 info9 rfl (by decide) (by omega) (.slice A1 L1.length c1) L1 [kx] _ _ _ (fun k_ => some k_ ≠ (.slice A2 L2.length c2 : Value).ownBlock) (fun _ => False) rfl rfl ?aO ?aR (fun _ _ h => h) (fun _ h => h.elim) ?aF ?aB ?aS ?aL ?_; (case aO => exact Kd.R_mono (Kd.R_tight rfl HO1.out) (fun k_ h_ => HO1.out.1 k_ h_.symm)); (case aF => exact (fun k_ h_ e_ => by have h2_ := Kd.R_lt HO2.out k_ e_.symm; omega)); (case aR => exact (Kd.R_reads' R38.out).2.2); (case aB => exact HB.out); (case aS => exact (zAE HB.out)); (case aL => have := HLL1.out; simp only [List.length_singleton]; omega); intro v39 w22 ho hb hg hat; have n2_ := zA (Kd.R_grown2 HO2.out rfl hg (fun k_ e_ f_ => HO1.out.1 k_ e_ f_)); have HO39 := zA (ho); clear HO1 HO2 HB R38; have HO2 := n2_; have HB := zA hb; clear n2_ ho hb hg hat; refine hK.out _ _ ⟨(HB.out.cell (zB w0 _ HV1.out)).trans HV1.out, (HB.out.cell (zB w0 _ HV2.out)).trans HV2.out⟩ (fun hHeld => ?_); clear hK K; refine wzN 39 ?_
        refine one_ (i := 12) (N := some 48) (bA 16 8191) rfl rfl (one_of HT_.out (by kernel_rfl)) (by decide) (fun K hK => ?_)
        refine Kd.R_lit_step Kd.string _ 9 ?hg (N := 48) ?hd (xs := ([vx] : List ByteArray)) (inner := [.string vx]) (ok := fun _ => True) (okp := fun _ => True) ?hr ?hp (fun _ hk => hk) trivial (Below.refl _ _) (Nat.le_refl _) (by simp) ?_; (case hd => rfl); (case hg => rfl); (case hr => first | (go_simp; done) | (go_simp; rfl)); (case hp => exact (Reps.one (show Kd.M Kd.string _ _ _ vx [.string vx] from rfl) (Reps.none _ _))); intro v48 w23 ho hb hg_ hnew_; clear hg_ hnew_; have n1_ := zA (Kd.R_below HO39.out hb); have n2_ := zA (Kd.R_below HO2.out hb); have n3_ := zA (zAD HB.out hb); have LV1 := zA (Kd.R_lt HO39.out); have LV2 := zA (Kd.R_lt HO2.out); have D48 := zA (fun k_ h_ => ⟨fun e_ => by have h1_ := Kd.R_base ho k_ h_; have h2_ := LV1.out k_ e_.symm; omega, fun e_ => by have h1_ := Kd.R_base ho k_ h_; have h2_ := LV2.out k_ e_.symm; omega⟩ : ∀ k_, (v48 : Value).ownBlock = some k_ → some k_ ≠ (v39 : Value).ownBlock ∧ some k_ ≠ (.slice A2 L2.length c2 : Value).ownBlock); have R48 := zA (Kd.R_lower ho (zAE HB.out)); clear HO39 HO2 HB; have HO39 := n1_; have HO2 := n2_; have HB := n3_; clear n1_ n2_ n3_ ho hb LV1 LV2; refine hK.out _ _ ⟨(HB.out.cell (zB w0 _ HV1.out)).trans HV1.out, (HB.out.cell (zB w0 _ HV2.out)).trans HV2.out⟩ (fun hHeld => ?_); clear hK K; refine wzN 48 ?_
        exact norm_ (by simp only [putAll, Act.put, zC, zD, zE] <;> rfl) (hJ (.slice A38 [kx].length c38, v39, v48) _ ⟨hHeld, HO39.out, Kd.R_mono HO2.out (fun _ _ => trivial), R48.out, D48.out, HB.out⟩)
       ·refine Kd.R_lit_step Kd.string _ 9 ?hg (N := 48) ?hd (xs := ([vx] : List ByteArray)) (inner := [.string vx]) (ok := fun _ => True) (okp := fun _ => True) ?hr ?hp (fun _ hk => hk) trivial (Below.refl _ _) (Nat.le_refl _) (by simp) ?_; (case hd => rfl); (case hg => rfl); (case hr => first | (go_simp; done) | (go_simp; rfl)); (case hp => exact (Reps.one (show Kd.M Kd.string _ _ _ vx [.string vx] from rfl) (Reps.none _ _))); intro v48 w22 ho hb hg_ hnew_; clear hg_ hnew_; have n1_ := zA (Kd.R_below HO1.out hb); have n2_ := zA (Kd.R_below HO2.out hb); have n3_ := zA (zAD HB.out hb); have LV1 := zA (Kd.R_lt HO1.out); have LV2 := zA (Kd.R_lt HO2.out); have D48 := zA (fun k_ h_ => ⟨fun e_ => by have h1_ := Kd.R_base ho k_ h_; have h2_ := LV1.out k_ e_.symm; omega, fun e_ => by have h1_ := Kd.R_base ho k_ h_; have h2_ := LV2.out k_ e_.symm; omega⟩ : ∀ k_, (v48 : Value).ownBlock = some k_ → some k_ ≠ (.slice A1 L1.length c1 : Value).ownBlock ∧ some k_ ≠ (.slice A2 L2.length c2 : Value).ownBlock); have R48 := zA (Kd.R_lower ho (zAE HB.out)); have n4_ := zA (Kd.R_below R38.out hb); clear HO1 HO2 HB; have HO1 := n1_; have HO2 := n2_; have HB := n3_; clear n1_ n2_ n3_ ho hb; clear LV1 LV2; clear R38; have R38 := n4_; clear n4_; refine hK.out _ _ ⟨(HB.out.cell (zB w0 _ HV1.out)).trans HV1.out, (HB.out.cell (zB w0 _ HV2.out)).trans HV2.out⟩ (fun hHeld => ?_); clear hK K; refine wzN 48 ?_
        refine one_ (i := 3) (N := some 39) (bA 16 8191) rfl rfl (one_of HT_.out (by kernel_rfl)) (by decide) (fun K hK => ?_)
        refine Kd.R_append_rows_step Kd.string (w0 := w0) w0.heap.size (by rfl) (.tmp 36) (.tmp 38) 41 9 (.string ⟨#[]⟩) 16 rfl Try.underlying41 info9 rfl (by decide) (by omega) (.slice A1 L1.length c1) L1 [kx] _ _ _ (fun k_ => some k_ ≠ (.slice A2 L2.length c2 : Value).ownBlock ∧ some k_ ≠ (v48 : Value).ownBlock) (fun _ => False) rfl rfl ?aO ?aR (fun _ _ h => h) (fun _ h => h.elim) ?aF ?aB ?aS ?aL ?_; (case aO => exact Kd.R_mono (Kd.R_tight rfl HO1.out) (fun k_ h_ => ⟨HO1.out.1 k_ h_.symm, fun e_ => (D48.out k_ e_.symm).1 h_⟩)); (case aF => exact (fun k_ h_ => ⟨fun e_ => by have h2_ := Kd.R_lt HO2.out k_ e_.symm; omega, fun e_ => by have h2_ := Kd.R_lt R48.out k_ e_.symm; omega⟩)); (case aR => exact (Kd.R_reads' R38.out).2.2); (case aB => exact HB.out); (case aS => exact (zAE HB.out)); (case aL => have := HLL1.out; simp only [List.length_singleton]; omega); intro v39 w23 ho hb hg hat; have n2_ := zA (Kd.R_grown2 HO2.out rfl hg (fun k_ e_ f_ => HO1.out.1 k_ e_ f_)); have n4_ := zA (Kd.R_grown2 R48.out rfl hg (fun k_ e_ f_ => (D48.out k_ f_.symm).1 e_.symm)); have n5_ := zA (fun k_ h_ => ⟨fun e_ => (ho.1 k_ e_.symm).2 h_.symm, (D48.out k_ h_).2⟩ : ∀ k_, (v48 : Value).ownBlock = some k_ → some k_ ≠ (v39 : Value).ownBlock ∧ some k_ ≠ (.slice A2 L2.length c2 : Value).ownBlock); clear R48 D48; have R48 := n4_; have D48 := n5_; clear n4_ n5_; have HO39 := zA (Kd.R_mono ho (fun _ h_ => h_.1)); clear HO1 HO2 HB R38; have HO2 := n2_; have HB := zA hb; clear n2_ ho hb hg hat; refine hK.out _ _ ⟨(HB.out.cell (zB w0 _ HV1.out)).trans HV1.out, (HB.out.cell (zB w0 _ HV2.out)).trans HV2.out⟩ (fun hHeld => ?_); clear hK K; refine wzN 39 ?_
        exact norm_ (by simp only [putAll, Act.put, zC, zD, zE] <;> rfl) (hJ (.slice A38 [kx].length c38, v39, v48) _ ⟨hHeld, HO39.out, Kd.R_mono HO2.out (fun _ _ => trivial), R48.out, D48.out, HB.out⟩)
      ·refine Kd.R_lit_step Kd.string _ 9 ?hg (N := 48) ?hd (xs := ([vx] : List ByteArray)) (inner := [.string vx]) (ok := fun _ => True) (okp := fun _ => True) ?hr ?hp (fun _ hk => hk) trivial (Below.refl _ _) (Nat.le_refl _) (by simp) ?_; (case hd => rfl); (case hg => rfl); (case hr => first | (go_simp; done) | (go_simp; rfl)); (case hp => exact (Reps.one (show Kd.M Kd.string _ _ _ vx [.string vx] from rfl) (Reps.none _ _))); intro v48 w21 ho hb hg_ hnew_; clear hg_ hnew_; have n1_ := zA (Kd.R_below HO1.out hb); have n2_ := zA (Kd.R_below HO2.out hb); have n3_ := zA (zAD HB.out hb); have LV1 := zA (Kd.R_lt HO1.out); have LV2 := zA (Kd.R_lt HO2.out); have D48 := zA (fun k_ h_ => ⟨fun e_ => by have h1_ := Kd.R_base ho k_ h_; have h2_ := LV1.out k_ e_.symm; omega, fun e_ => by have h1_ := Kd.R_base ho k_ h_; have h2_ := LV2.out k_ e_.symm; omega⟩ : ∀ k_, (v48 : Value).ownBlock = some k_ → some k_ ≠ (.slice A1 L1.length c1 : Value).ownBlock ∧ some k_ ≠ (.slice A2 L2.length c2 : Value).ownBlock); have R48 := zA (Kd.R_lower ho (zAE HB.out)); clear HO1 HO2 HB; have HO1 := n1_; have HO2 := n2_; have HB := n3_; clear n1_ n2_ n3_ ho hb; clear LV1 LV2; refine hK.out _ _ ⟨(HB.out.cell (zB w0 _ HV1.out)).trans HV1.out, (HB.out.cell (zB w0 _ HV2.out)).trans HV2.out⟩ (fun hHeld => ?_); clear hK K; refine wzN 48 ?_
       refine one_ (i := 2) (N := some 38) (bA 16 8183) rfl rfl (one_of HT_.out (by kernel_rfl)) (by decide) (fun K hK => ?_)
       refine Kd.R_lit_step Kd.string _ 9 ?hg (N := 38) ?hd (xs := ([kx] : List ByteArray)) (inner := [.string kx]) (ok := fun _ => True) (okp := fun _ => True) ?hr ?hp (fun _ hk => hk) trivial (Below.refl _ _) (Nat.le_refl _) (by simp) ?_; (case hd => rfl); (case hg => rfl); (case hr => first | (go_simp; done) | (go_simp; rfl)); (case hp => exact (Reps.one (show Kd.M Kd.string _ _ _ kx [.string kx] from rfl) (Reps.none _ _))); intro v38 w22 ho hb hg_ hnew_; clear hg_ hnew_; have n1_ := zA (Kd.R_below HO1.out hb); have n2_ := zA (Kd.R_below HO2.out hb); have n3_ := zA (zAD HB.out hb); have LV1 := zA (Kd.R_lt HO1.out); have LV2 := zA (Kd.R_lt HO2.out); obtain ⟨A38, c38, eo⟩ := Kd.R_slice ho; subst eo; have R38 := zA ho; have n4_ := zA (Kd.R_below R48.out hb); clear HO1 HO2 HB; have HO1 := n1_; have HO2 := n2_; have HB := n3_; clear n1_ n2_ n3_ ho hb; clear R48; have R48 := n4_; clear n4_; clear LV1 LV2; refine hK.out _ _ ⟨(HB.out.cell (zB w0 _ HV1.out)).trans HV1.out, (HB.out.cell (zB w0 _ HV2.out)).trans HV2.out⟩ (fun hHeld => ?_); clear hK K; refine wzN 38 ?_
       refine one_ (i := 3) (N := some 39) (bA 16 8191) rfl rfl (one_of HT_.out (by kernel_rfl)) (by decide) (fun K hK => ?_)
       refine Kd.R_append_rows_step Kd.string (w0 := w0) w0.heap.size (by rfl) (.tmp 36) (.tmp 38) 41 9 (.string ⟨#[]⟩) 16 rfl Try.underlying41 info9 rfl (by decide) (by omega) (.slice A1 L1.length c1) L1 [kx] _ _ _ (fun k_ => some k_ ≠ (.slice A2 L2.length c2 : Value).ownBlock ∧ some k_ ≠ (v48 : Value).ownBlock) (fun _ => False) rfl rfl ?aO ?aR (fun _ _ h => h) (fun _ h => h.elim) ?aF ?aB ?aS ?aL ?_; (case aO => exact Kd.R_mono (Kd.R_tight rfl HO1.out) (fun k_ h_ => ⟨HO1.out.1 k_ h_.symm, fun e_ => (D48.out k_ e_.symm).1 h_⟩)); (case aF => exact (fun k_ h_ => ⟨fun e_ => by have h2_ := Kd.R_lt HO2.out k_ e_.symm; omega, fun e_ => by have h2_ := Kd.R_lt R48.out k_ e_.symm; omega⟩)); (case aR => exact (Kd.R_reads' R38.out).2.2); (case aB => exact HB.out); (case aS => exact (zAE HB.out)); (case aL => have := HLL1.out; simp only [List.length_singleton]; omega); intro v39 w23 ho hb hg hat; have n2_ := zA (Kd.R_grown2 HO2.out rfl hg (fun k_ e_ f_ => HO1.out.1 k_ e_ f_)); have n4_ := zA (Kd.R_grown2 R48.out rfl hg (fun k_ e_ f_ => (D48.out k_ f_.symm).1 e_.symm)); have n5_ := zA (fun k_ h_ => ⟨fun e_ => (ho.1 k_ e_.symm).2 h_.symm, (D48.out k_ h_).2⟩ : ∀ k_, (v48 : Value).ownBlock = some k_ → some k_ ≠ (v39 : Value).ownBlock ∧ some k_ ≠ (.slice A2 L2.length c2 : Value).ownBlock); clear R48 D48; have R48 := n4_; have D48 := n5_; clear n4_ n5_; have HO39 := zA (Kd.R_mono ho (fun _ h_ => h_.1)); clear HO1 HO2 HB R38; have HO2 := n2_; have HB := zA hb; clear n2_ ho hb hg hat; refine hK.out _ _ ⟨(HB.out.cell (zB w0 _ HV1.out)).trans HV1.out, (HB.out.cell (zB w0 _ HV2.out)).trans HV2.out⟩ (fun hHeld => ?_); clear hK K; refine wzN 39 ?_
       exact norm_ (by simp only [putAll, Act.put, zC, zD, zE] <;> rfl) (hJ (.slice A38 [kx].length c38, v39, v48) _ ⟨hHeld, HO39.out, Kd.R_mono HO2.out (fun _ _ => trivial), R48.out, D48.out, HB.out⟩)
     ·rintro ⟨v38, v39, v48⟩ w21 ⟨hS, h39, h2, h48, hd, hb⟩
      clear HO1 HO2 HB hHeld
      have HO2 := zA h2; have HO39 := zA h39; have R48 := zA h48; have D48 := zA hd; have HB := zA hb; have hHeld := hS
      clear h2 h39 h48 hd hb hS
      obtain ⟨A48, c48, eo⟩ := Kd.R_slice R48.out
      subst eo
      refine norm_ (a' := ?_) ?_ ?_; rotate_left
      ·simp only [putAll, Act.put, zC, zD, zE]
       rfl
      refine one_ (i := 13) (N := some 49) (bA 16 16383) rfl rfl (one_of HT_.out (by kernel_rfl)) (by decide) (fun K hK => ?_)
      refine Kd.R_append_rows_step Kd.string (w0 := w0) w0.heap.size (by rfl) (.tmp 40) (.tmp 48) 41 9 (.string ⟨#[]⟩) 16 rfl Try.underlying41 info9 rfl (by decide) (by omega) (.slice A2 L2.length c2) L2 [vx] _ _ _ (fun k_ => some k_ ≠ (v39 : Value).ownBlock) (fun _ => False) rfl rfl ?aO ?aR (fun _ _ h => h) (fun _ h => h.elim) ?aF ?aB ?aS ?aL ?_; (case aO => exact Kd.R_mono (Kd.R_tight rfl HO2.out) (fun k_ h_ e_ => HO39.out.1 k_ e_.symm h_)); (case aF => exact (fun k_ h_ e_ => by have h2_ := Kd.R_lt HO39.out k_ e_.symm; omega)); (case aR => exact (Kd.R_reads' R48.out).2.2); (case aB => exact HB.out); (case aS => exact (zAE HB.out)); (case aL => have := HLL2.out; simp only [List.length_singleton]; omega)
      intro v49 w22 ho hb hg hat
      have n1_ := zA (Kd.R_mono (Kd.R_tight rfl (Kd.R_grown2 HO39.out rfl hg (fun k_ e_ f_ => HO39.out.1 k_ f_.symm e_.symm))) (fun k_ h_ e_ => ho.1 k_ e_.symm h_) : Kd.string.R 9 w22 w0.heap.size (fun k_ => some k_ ≠ (v49 : Value).ownBlock) v39 (L1 ++ [kx]))
      clear HO2 HO39 R48 D48 HB hg hat
      have HO1 := n1_; have HO2 := zA ho; have HB := zA hb
      clear n1_ ho hb
      obtain ⟨M1, hM1⟩ : ∃ q, q = L1 ++ [kx] := ⟨_, rfl⟩
      obtain ⟨M2, hM2⟩ : ∃ q, q = L2 ++ [vx] := ⟨_, rfl⟩
      rw [← hM1] at HO1
      rw [← hM2] at HO2
      have HM1 := zA hM1
      have HM2 := zA hM2
      clear hM1 hM2
      obtain ⟨A39, c39, eo⟩ := Kd.R_slice HO1.out
      subst eo
      obtain ⟨A49, c49, eo⟩ := Kd.R_slice HO2.out
      subst eo
      refine hK.out _ _ ⟨(HB.out.cell (zB w0 _ HV1.out)).trans HV1.out, (HB.out.cell (zB w0 _ HV2.out)).trans HV2.out⟩ (fun hHeld => ?_); clear hK K; refine wzN 49 ?_
      refine wzP 14 1 (bA 16 32767) HT_ ?_
      refine wzP 15 2 (bA 16 65535) HT_ ?_
      refine done_ (done_of HT_.out (by kernel_rfl)) ?_
      clear hHeld HT_ HW_
      go_wp2
      go_roundg g1
      case measure => omega
      case rel => exact ⟨wrap64 (z + 1), j + 1, M1, M2, A39, c39, A49, c49, rfl, rfl, rfl, HZ1, ⟨by have := HKQ.out; omega⟩, ⟨by have := HJO.out; omega⟩, ⟨by rw [HM1.out, List.append_assoc]; exact HL1.out⟩, ⟨by rw [HM2.out, List.append_assoc]; exact HL2.out⟩, HO1, HO2, HB⟩
   ·have hz := HZ.out
    have q1 : decide (z < (y.f0.length : Int)) = false := decide_eq_false (by omega)
    have hjl : j = y.f0.length := by have := HJ.out; omega
    have h4 := HK4.out
    have hvl := HVL.out
    have hm1 := HR1L.out
    have hm2 := HR2L.out
    have HLT := zA (fun h => by
     have e := HBT.out h
     have a1 := HL1.out
     have a2 := HL2.out
     rw [e, List.drop_nil, wvK_nil, hjl, List.drop_length, List.append_nil] at a1
     rw [e, List.drop_nil, wvV_nil, hjl, ← hvl, List.drop_length, List.append_nil] at a2
     exact ⟨a1, a2⟩ : b = true → L1 = R1 ∧ L2 = R2)
    have HLN := zA (fun h => by
     have e := HBF.out h
     have hlt : y.f0.length < l.length := by omega
     obtain ⟨f1, f2, f3⟩ := HKS.out y.f0.length hlt
     have a1 := HL1.out
     have a2 := HL2.out
     have hd : l.drop y.f0.length = [er74 (rd_N74 y.f2 (y.f0.length : Int))] := by rw [List.drop_eq_getElem_cons hlt, List.drop_eq_nil_of_le (by omega), f1]
     rw [hjl, hd, List.drop_length, wvK_last] at a1
     rw [hjl, hd, ← hvl, List.drop_length, wvV_last, hvl] at a2
     have b1 := congrArg List.length a1
     have b2 := congrArg List.length a2
     simp only [List.length_append] at b1 b2
     have e2 := HLL.out
     exact ⟨f2, f3, by omega, by omega, a1, a2, by omega⟩ : b = false → hT (er74 (rd_N74 y.f2 (y.f0.length : Int))) ≤ n ∧ okT (er74 (rd_N74 y.f2 (y.f0.length : Int))) ∧ L1.length + (keysT (er74 (rd_N74 y.f2 (y.f0.length : Int)))).length ≤ 8796093022207 ∧ L2.length + (valsT (er74 (rd_N74 y.f2 (y.f0.length : Int)))).length ≤ 8796093022207 ∧ L1 ++ keysT (er74 (rd_N74 y.f2 (y.f0.length : Int))) = R1 ∧ L2 ++ valsT (er74 (rd_N74 y.f2 (y.f0.length : Int))) = R2 ∧ (y.f0.length : Int) < (y.f2.length : Int))
    clear hz hj hm1 hm2 hjl h4 hvl
    cases b with
    | true =>
     obtain ⟨rfl, rfl⟩ := HLT.out rfl
     go_wp2_with (first | ((with_reducible refine gate_callee (f := 35) rfl ?_); (try (refine gate_guard (by rfl) ?_; dsimp only)); refine goesL_ (some 52) rfl rfl Try.func35 (by kernel_rfl) rfl #[.pointer (some ⟨y.adr, 0, none⟩)] rfl (by (try simp only [zAA, zAB, zAC]); first | done | rfl) ?_; refine (impl_node_isLeaf.calls y _ _ (k74p.K_below HB.out HK.out) HLF.out).mono ?_; rintro er w10 ⟨rfl, m10, hw⟩; rw [hw]; clear hw w10; refine ⟨_, rfl, ?_⟩; have n1_ := zA (Kd.R_drewN HO1.out m10); have n2_ := zA (Kd.R_drewN HO2.out m10); have n3_ := zA (zF HB.out m10); clear HO1 HO2 HB; have HO1 := n1_; have HO2 := n2_; have HB := n3_; clear n1_ n2_ n3_))
     go_ret2
     exact ⟨_, _, by first | rfl | (simp <;> rfl), HO1.out, HO2.out, HB.out⟩
    | false =>
     obtain ⟨hu1, hu2, hu3, hu4, hu5, hu6, p2⟩ := HLN.out rfl
     have p1 : 0 ≤ (y.f0.length : Int) := by omega
     obtain ⟨ad, ead, hw3⟩ := at_N74 HIN.out (y.f0.length : Int) p1 p2
     have HKU := zA (nd_el74 HIN.out (y.f0.length : Int) p1 p2)
     obtain ⟨u, hu⟩ : ∃ q, q = rd_N74 y.f2 (y.f0.length : Int) := ⟨_, rfl⟩
     rw [← hu] at hw3 HKU hu1 hu2 hu3 hu4 hu5 hu6
     subst ead
     have HU1 := zA hu1; have HU2 := zA hu2; have HU3 := zA hu3; have HU4 := zA hu4; have HN1 := zA hu5; have HN2 := zA hu6
     rw [Int.toNat_natCast] at hw3
     have HW3 := zA hw3
     have q2 : decide ((y.f0.length : Int) < (y.f2.length : Int)) = true := decide_eq_true p2
     have q3 : ((y.f0.length : Int) < (y.f2.length : Int)) = True := eq_true p2
     have q4 : (0 ≤ (y.f0.length : Int)) = True := eq_true p1
     have q5 : decide (0 ≤ (y.f0.length : Int)) = true := decide_eq_true p1
     clear hu hu1 hu2 hu3 hu4 hu5 hu6 hw3 p1 p2 HLT HLN
     go_wp2_with (first | ((with_reducible refine gate_callee (f := 35) rfl ?_); (try (refine gate_guard (by rfl) ?_; dsimp only)); refine goesL_ (some 52) rfl rfl Try.func35 (by kernel_rfl) rfl #[.pointer (some ⟨y.adr, 0, none⟩)] rfl (by (try simp only [zAA, zAB, zAC]); first | done | rfl) ?_; refine (impl_node_isLeaf.calls y _ _ (k74p.K_below HB.out HK.out) HLF.out).mono ?_; rintro er w10 ⟨rfl, m10, hw⟩; rw [hw]; clear hw w10; refine ⟨_, rfl, ?_⟩; have n1_ := zA (Kd.R_drewN HO1.out m10); have n2_ := zA (Kd.R_drewN HO2.out m10); have n3_ := zA (zF HB.out m10); clear HO1 HO2 HB; have HO1 := n1_; have HO2 := n2_; have HB := n3_; clear n1_ n2_ n3_))
     have n1_ := zA (Kd.R_drew HO1.out); have n2_ := zA (Kd.R_drew HO2.out); have n3_ := zA (zG HB.out)
     clear HO1 HO2 HB
     have HO1 := n1_; have HO2 := n2_; have HB := n3_
     clear n1_ n2_ n3_
     refine start_ (n := 19) (S := fun w' => w'.cell? ⟨y.adr, 2, none⟩ = some (.slice (some ad) y.f2.length cn2) ∧ w'.cell? ⟨y.adr, 0, none⟩ = some (.slice An0 y.f0.length cn0) ∧ w'.cell? (ad.add y.f0.length) = some (.pointer (some ⟨u.adr, 0, none⟩))) (ds := []) (bA 19 0) (by kernel_rfl) rfl rfl ⟨(HB.out.cell (zB w0 _ HZ2.out)).trans HZ2.out, (HB.out.cell (zB w0 _ HZ0.out)).trans HZ0.out, (HB.out.cell (zB w0 _ HW3.out)).trans HW3.out⟩ (fun hHeld => ?_)
     refine with_tabW alC.tab9 alC.bits9 (fun HT_ HW_ => ?_)
     generalize World.drew _ = w20 at HO1 HO2 HB hHeld ⊢
     refine wzP 0 55 (bA 19 1) HT_ ?_
     refine wzP 1 56 (bA 19 3) HT_ ?_
     refine wzP 2 57 (bA 19 7) HT_ ?_
     refine wzP 4 59 (bA 19 23) HT_ ?_
     refine wzP 5 60 (bA 19 55) HT_ ?_
     refine wzP 6 61 (bA 19 119) HT_ ?_
     refine wzP 11 66 (bA 19 2167) HT_ ?_
     refine wzP 12 67 (bA 19 6263) HT_ ?_
     refine wzT 3 58 (bA 19 6271) HT_ HW_ hHeld ?_
     refine wzT 7 62 (bA 19 6399) HT_ HW_ hHeld ?_
     refine wzP 8 63 (bA 19 6655) HT_ ?_
     refine wzP 9 64 (bA 19 7167) HT_ ?_
     refine wzT 10 65 (bA 19 8191) HT_ HW_ hHeld ?_
     refine one_ (i := 13) (N := some 68) (bA 19 16383) rfl rfl (one_of HT_.out (by kernel_rfl)) (by decide) (fun K hK => ?_); refine goes_ Try.func64 (by kernel_rfl) rfl #[.pointer (some ⟨u.adr, 0, none⟩), .slice A1 L1.length c1, .slice A2 L2.length c2] (by rfl) rfl rfl (by (try simp only [zAA, zAB, zAC]); first | done | rfl) ?_
     refine (ih u _ _ L1 L2 w0 _ HU1.out HU2.out HU3.out HU4.out HB.out HKU.out HO1.out HO2.out).mono ?_
     rintro er w33 ⟨v0, v1, rfl, r1, r2, hb⟩
     refine ⟨_, rfl, ?_⟩
     rw [HN1.out] at r1
     rw [HN2.out] at r2
     clear HO1 HO2 HB
     have HO1 := zA r1; have HO2 := zA r2; have HB := zA hb
     clear r1 r2 hb
     obtain ⟨B1, d1, eo⟩ := Kd.R_slice HO1.out
     subst eo
     obtain ⟨B2, d2, eo⟩ := Kd.R_slice HO2.out
     subst eo
     refine hK.out _ _ ⟨(HB.out.cell (zB w0 _ HZ2.out)).trans HZ2.out, (HB.out.cell (zB w0 _ HZ0.out)).trans HZ0.out, (HB.out.cell (zB w0 _ HW3.out)).trans HW3.out⟩ (fun hHeld => ?_); clear hK K; refine wzN 68 ?_
     refine wzP 14 54 (bA 19 32767) HT_ ?_
     refine wzP 15 69 (bA 19 65535) HT_ ?_
     refine wzP 16 70 (bA 19 131071) HT_ ?_
     refine wzP 17 1 (bA 19 262143) HT_ ?_
     refine wzP 18 2 (bA 19 524287) HT_ ?_
     refine done_ (done_of HT_.out (by kernel_rfl)) ?_
     clear hHeld HT_ HW_
     go_wp2
     go_ret2
     exact ⟨_, _, by first | rfl | (simp <;> rfl), HO1.out, HO2.out, HB.out⟩
end Go.Proofs.Ytnplghcbdaiogaa.RW
end
section
namespace Go.Proofs.Ytnplghcbdaiogaa.PR
open Go.RowKit Go.Proofs.YtnplghcbdaiogaaW.PrintWords Go.Proofs.YtnplghcbdaiogaaW.PrintLast Go.Proofs.YtnplghcbdaiogaaW.PrintMore Go.Proofs.Ytnplghcbdaiogaa.PB Go.Proofs.Ytnplghcbdaiogaa.PW Go.Proofs.Ytnplghcbdaiogaa.QW Go.Proofs.Ytnplghcbdaiogaa.PA Go.Proofs.Ytnplghcbdaiogaa.QP Go.Proofs.Ytnplghcbdaiogaa.QO Go.Proofs.Ytnplghcbdaiogaa.QQ Go.Proofs.Ytnplghcbdaiogaa.QZ Go.Proofs.Ytnplghcbdaiogaa.QY
attribute [local go_sem] max2_int min2_int max_two min_two max_three min_three max_four min_four
set_option linter.unusedVariables false
set_option linter.unusedSimpArgs false
set_option maxHeartbeats 4000000
set_option maxRecDepth 100000
theorem pairsE (K V : List ByteArray) (hl : V.length = K.length) : Ev (fun k => impl_arePairs.f k K V) (pairsB K V) := by
 by_cases h : K.length ≤ 40
 ·exact ev_eq (pairsI K V (by omega) (by omega)) (pairs_two K V hl).symm
 ·unfold impl_arePairs.f
  refine ev_neg (by omega) (ev_eq (Ev.now false) ?_)
  exact (Bool.eq_false_iff.2 (fun q => h ((pairs_iff K V).1 q).1)).symm
def PostRt (w : World) (R : Option T) (e : Ending) (w' : World) : Prop := match R with
 | none => e = .returned (.tuple #[.pointer none, .bool false]) ∧ Below w.heap.size w w'
 | some t => ∃ x : S74, e = .returned (.tuple #[.pointer (some ⟨x.adr, 0, none⟩), .bool true]) ∧ er74 x = t ∧ k74p.M w' w.heap.size (fun _ => True) x [.pointer (some ⟨x.adr, 0, none⟩)] ∧ Below w.heap.size w w'
theorem rootI0 (ps : List S97) (hG : Sml ps) (A : Option Addr) (c : Nat) (hc : ps.length ≤ c) (w : World) (hC : Kd.C k97 w A ps.length ps) :
  Calls Try.prog 27 #[.agg #[.slice A ps.length c]] w fun e w' => PostRt w (treeG ps ps.length) e w' := by
 have HG := zA hG
 have HC := zA hC
 have HLC := zA hc
 have HB := zA (Below.refl w.heap.size w)
 have hu30 := Try.underlying30
 have hu101 := Try.underlying101
 clear hG hC hc
 cases hR : readF ps ps.length 0 with
 | none =>
  have HR := zA hR
  have RR := zA (show treeG ps ps.length = none by unfold treeG; rw [hR])
  clear hR
  go_enter Try.func27, Try.ntmps27
  go_wp2_with (first | ((with_reducible refine gate_dst (N := 1) rfl ?_); refine box_event ?hg (N := 1) ?hd (cs := #[.slice A ps.length c]) (t := 30) ?hr ?_; (case hd => rfl); (case hg => rfl); (case hr => first | (go_simp; done) | (go_simp; rfl)); intro gb1 hg w3 hbox hb; have n0_ := zA (zAD HB.out hb); have BK1 := zA hbox; have GW1 := zA (by rw [hg]; exact Nat.le_refl _ : w.heap.size ≤ gb1); clear HB; have HB := n0_; clear n0_ hb hbox hg; have hx1 : w3.cell? ⟨gb1, 0, none⟩ = some (.slice A ps.length c) := (zP BK1.out 0).trans rfl) | ((with_reducible refine gate_dst (N := 12) rfl ?_); refine box_event ?hg (N := 12) ?hd (cs := #[.slice A ps.length c, .int .i64 0]) (t := 101) ?hr ?_; (case hd => rfl); (case hg => rfl); (case hr => first | (go_simp; done) | (go_simp; rfl)); intro gg hg w4 hbox hb; have n0_ := zA (zAD HB.out hb); have n1_ := zA (blk_below BK1.out hb); have BKG := zA hbox; have GWG := zA (by rw [hg]; exact zAE HB.out : w.heap.size ≤ gg); have NB1G := zA (by rw [hg]; exact zK (blk_lt BK1.out) : gb1 ≠ gg); clear HB BK1; have HB := n0_; have BK1 := n1_; clear n0_ n1_ hb hbox hg hx1; have hI := nodeI ps HG.out A c HLC.out w HC.out gg GWG.out ps.length 0 w4 (Nat.zero_le _) (by omega) HB.out BKG.out; rw [HR.out] at hI) | ((with_reducible refine gate_callee (f := 61) rfl ?_); refine goesL_ (some 15) rfl rfl Try.func61 (by kernel_rfl) rfl #[.pointer (some ⟨gg, 0, none⟩)] rfl (by (try simp only [zAA, zAB, zAC]); first | done | rfl) ?_; refine hI.mono ?_; clear hI;  rintro e w5 ⟨rfl, hb⟩; refine ⟨_, rfl, ?_⟩; clear HB BK1 BKG; have HB := zA hb; clear hb))
  repeat (go_quiet (fail); try go_wp2)
  go_ret2
  exact (show PostRt w (treeG ps ps.length) _ _ from (by rw [RR.out]; exact ⟨by first | rfl | (simp <;> rfl), by repeat (first | exact HB.out | apply zF | apply zG)⟩))
 | some tn =>
  obtain ⟨t, nx⟩ := tn
  have HR := zA hR
  by_cases hn : nx = ps.length
  ·have b1 : ((nx : Int) != (ps.length : Int)) = false := bne_eq_false_iff_eq.mpr (by omega)
   have b2 : ((nx : Int) == (ps.length : Int)) = true := beq_iff_eq.mpr (by omega)
   have b3 : (nx != ps.length) = false := bne_eq_false_iff_eq.mpr hn
   have b4 : (nx == ps.length) = true := beq_iff_eq.mpr hn
   have HN := zA hn
   obtain ⟨hok, hh⟩ := readF_ok ps _ _ _ _ hR
   have hcnt := readF_cnt ps _ _ _ _ hR
   have HOK := zA hok
   have HH := zA (show hT t ≤ 1000000000000000000 from by have := HG.out.1; omega)
   have HKV := zA (kv_len t hok)
   obtain ⟨K, hK⟩ : ∃ q, q = keysT t := ⟨_, rfl⟩
   obtain ⟨V, hV⟩ : ∃ q, q = valsT t := ⟨_, rfl⟩
   have HNK := zA (show K.length < 8796093022208 from by have := HG.out.1; rw [hK]; omega)
   have HNV := zA (show V.length = K.length from by rw [hK, hV]; exact HKV.out.symm)
   have HEK := zA hK
   have HEV := zA hV
   obtain ⟨d1, hd1⟩ : ∃ q, q = (dpI t).1 := ⟨_, rfl⟩
   obtain ⟨d2, hd2⟩ : ∃ q, q = (dpI t).2 := ⟨_, rfl⟩
   have HD1 := zA hd1
   have HD2 := zA hd2
   clear hn hR hok hh hcnt hK hV hd1 hd2
   cases d2 with
   | false =>
    have RR := zA (show treeG ps ps.length = none by
     unfold treeG; rw [HR.out]; refine if_neg (fun q => ?_)
     have := q.2
     unfold goodB at this
     have h2 := HD2.out
     unfold dpI at h2
     cases hl : levT t with
     | none => rw [hl, Bool.and_eq_true, Bool.and_eq_true] at this; exact absurd this.2.1 (by simp)
     | some d =>
      rw [hl] at h2
      dsimp only at h2
      rw [← h2, Bool.and_false, Bool.and_false] at this; cases this)
    go_enter Try.func27, Try.ntmps27
    go_wp2_with (first | ((with_reducible refine gate_dst (N := 1) rfl ?_); refine box_event ?hg (N := 1) ?hd (cs := #[.slice A ps.length c]) (t := 30) ?hr ?_; (case hd => rfl); (case hg => rfl); (case hr => first | (go_simp; done) | (go_simp; rfl)); intro gb1 hg w3 hbox hb; have n0_ := zA (zAD HB.out hb); have BK1 := zA hbox; have GW1 := zA (by rw [hg]; exact Nat.le_refl _ : w.heap.size ≤ gb1); clear HB; have HB := n0_; clear n0_ hb hbox hg; have hx1 : w3.cell? ⟨gb1, 0, none⟩ = some (.slice A ps.length c) := (zP BK1.out 0).trans rfl) | ((with_reducible refine gate_dst (N := 12) rfl ?_); refine box_event ?hg (N := 12) ?hd (cs := #[.slice A ps.length c, .int .i64 0]) (t := 101) ?hr ?_; (case hd => rfl); (case hg => rfl); (case hr => first | (go_simp; done) | (go_simp; rfl)); intro gg hg w4 hbox hb; have n0_ := zA (zAD HB.out hb); have n1_ := zA (blk_below BK1.out hb); have BKG := zA hbox; have GWG := zA (by rw [hg]; exact zAE HB.out : w.heap.size ≤ gg); have NB1G := zA (by rw [hg]; exact zK (blk_lt BK1.out) : gb1 ≠ gg); clear HB BK1; have HB := n0_; have BK1 := n1_; clear n0_ n1_ hb hbox hg hx1; have hI := nodeI ps HG.out A c HLC.out w HC.out gg GWG.out ps.length 0 w4 (Nat.zero_le _) (by omega) HB.out BKG.out; rw [HR.out] at hI) | ((with_reducible refine gate_callee (f := 61) rfl ?_); refine goesL_ (some 15) rfl rfl Try.func61 (by kernel_rfl) rfl #[.pointer (some ⟨gg, 0, none⟩)] rfl (by (try simp only [zAA, zAB, zAC]); first | done | rfl) ?_; refine hI.mono ?_; clear hI;  rintro e w5 ⟨x, rfl, hx, hM, hb, hkb, hkg⟩; refine ⟨_, rfl, ?_⟩; have n1_ := zA (hkb.blk BK1.out NB1G.out (by simp)); have HXE := zA hx; have HM := zA (k74p.M_mono (fun _ _ => trivial) hM : k74p.M w5 w.heap.size (fun _ => True) x [.pointer (some ⟨x.adr, 0, none⟩)]); clear HB BK1 BKG hx hM hkb; have HB := zA hb; have BKG := zA hkg; have BK1 := n1_; clear n1_ hb hkg; have hy1 : w5.cell? ⟨gb1, 0, none⟩ = some (.slice A ps.length c) := (zP BK1.out 0).trans rfl; have hy2 : w5.cell? ⟨gg, 1, none⟩ = some (.int .i64 (nx : Int)) := (zP BKG.out 1).trans rfl))
    go_quiet (fail)
    obtain ⟨k, hk⟩ := Ev.rounds (depthI x (by rw [HXE.out]; exact HH.out) (by rw [HXE.out]; exact HOK.out)); rw [HXE.out, show dpI t = (d1, false) from by rw [HD1.out, HD2.out]] at hk; have HD := zA hk; clear hk
    go_wp2_with (first | ((with_reducible refine gate_callee (f := 62) rfl ?_); (try (refine gate_guard (by rfl) ?_; dsimp only)); refine goesL_ (some 32) rfl rfl Try.func62 (by kernel_rfl) rfl #[.pointer (some ⟨x.adr, 0, none⟩)] rfl (by (try simp only [zAA, zAB, zAC]); first | done | rfl) ?_; refine (impl_node_depth.calls k x d1 false _ (by repeat (first | exact k74p.K_of_M HM.out | apply k74p_drewN | apply k74p_drew)) HD.out).mono ?_; rintro e w8 ⟨rfl, m8, hw⟩; rw [hw]; clear hw w8; refine ⟨_, rfl, ?_⟩))
    go_ret2
    exact (show PostRt w (treeG ps ps.length) _ _ from (by rw [RR.out]; exact ⟨by first | rfl | (simp <;> rfl), by repeat (first | exact HB.out | apply zF | apply zG)⟩))
   | true =>
    have hsome : ∃ d, levT t = some d ∧ (t.f2.isEmpty || decide (0 < t.f0.length)) = true := by
     have h2 := HD2.out
     unfold dpI at h2
     cases hl : levT t with
     | none => rw [hl] at h2; cases h2
     | some d => rw [hl] at h2; exact ⟨d, rfl, h2.symm⟩
    have HSO := zA hsome
    clear hsome
    obtain ⟨r, hr⟩ : ∃ q, q = pairsB K V := ⟨_, rfl⟩
    have HRB := zA hr
    clear hr
    cases r with
    | false =>
     have RR := zA (show treeG ps ps.length = none by
      unfold treeG; rw [HR.out]; refine if_neg (fun q => ?_)
      have := q.2
      unfold goodB at this
      rw [← HEK.out, ← HEV.out, ← HRB.out, Bool.false_and] at this; cases this)
     go_enter Try.func27, Try.ntmps27
     go_wp2_with (first | ((with_reducible refine gate_dst (N := 1) rfl ?_); refine box_event ?hg (N := 1) ?hd (cs := #[.slice A ps.length c]) (t := 30) ?hr ?_; (case hd => rfl); (case hg => rfl); (case hr => first | (go_simp; done) | (go_simp; rfl)); intro gb1 hg w3 hbox hb; have n0_ := zA (zAD HB.out hb); have BK1 := zA hbox; have GW1 := zA (by rw [hg]; exact Nat.le_refl _ : w.heap.size ≤ gb1); clear HB; have HB := n0_; clear n0_ hb hbox hg; have hx1 : w3.cell? ⟨gb1, 0, none⟩ = some (.slice A ps.length c) := (zP BK1.out 0).trans rfl) | ((with_reducible refine gate_dst (N := 12) rfl ?_); refine box_event ?hg (N := 12) ?hd (cs := #[.slice A ps.length c, .int .i64 0]) (t := 101) ?hr ?_; (case hd => rfl); (case hg => rfl); (case hr => first | (go_simp; done) | (go_simp; rfl)); intro gg hg w4 hbox hb; have n0_ := zA (zAD HB.out hb); have n1_ := zA (blk_below BK1.out hb); have BKG := zA hbox; have GWG := zA (by rw [hg]; exact zAE HB.out : w.heap.size ≤ gg); have NB1G := zA (by rw [hg]; exact zK (blk_lt BK1.out) : gb1 ≠ gg); clear HB BK1; have HB := n0_; have BK1 := n1_; clear n0_ n1_ hb hbox hg hx1; have hI := nodeI ps HG.out A c HLC.out w HC.out gg GWG.out ps.length 0 w4 (Nat.zero_le _) (by omega) HB.out BKG.out; rw [HR.out] at hI) | ((with_reducible refine gate_callee (f := 61) rfl ?_); refine goesL_ (some 15) rfl rfl Try.func61 (by kernel_rfl) rfl #[.pointer (some ⟨gg, 0, none⟩)] rfl (by (try simp only [zAA, zAB, zAC]); first | done | rfl) ?_; refine hI.mono ?_; clear hI;  rintro e w5 ⟨x, rfl, hx, hM, hb, hkb, hkg⟩; refine ⟨_, rfl, ?_⟩; have n1_ := zA (hkb.blk BK1.out NB1G.out (by simp)); have HXE := zA hx; have HM := zA (k74p.M_mono (fun _ _ => trivial) hM : k74p.M w5 w.heap.size (fun _ => True) x [.pointer (some ⟨x.adr, 0, none⟩)]); clear HB BK1 BKG hx hM hkb; have HB := zA hb; have BKG := zA hkg; have BK1 := n1_; clear n1_ hb hkg; have hy1 : w5.cell? ⟨gb1, 0, none⟩ = some (.slice A ps.length c) := (zP BK1.out 0).trans rfl; have hy2 : w5.cell? ⟨gg, 1, none⟩ = some (.int .i64 (nx : Int)) := (zP BKG.out 1).trans rfl))
     go_quiet (fail)
     obtain ⟨k, hk⟩ := Ev.rounds (depthI x (by rw [HXE.out]; exact HH.out) (by rw [HXE.out]; exact HOK.out)); rw [HXE.out, show dpI t = (d1, true) from by rw [HD1.out, HD2.out]] at hk; have HD := zA hk; clear hk
     have HALL := zA (⟨by rw [HXE.out]; exact HH.out, by rw [HXE.out]; exact HOK.out, by rw [HXE.out, ← HEK.out]; have := HNK.out; simp only [List.length_nil]; omega, by rw [HXE.out, ← HEV.out, HNV.out]; have := HNK.out; simp only [List.length_nil]; omega⟩ : hT (er74 x) ≤ 1000000000000000000 ∧ okT (er74 x) ∧ ([] : List ByteArray).length + (keysT (er74 x)).length ≤ 8796093022207 ∧ ([] : List ByteArray).length + (valsT (er74 x)).length ≤ 8796093022207); obtain ⟨kp, hkp⟩ := Ev.rounds (pairsE K V HNV.out); rw [← HRB.out] at hkp; have HPR := zA hkp; clear hkp
     go_wp2_with (first | ((with_reducible refine gate_callee (f := 62) rfl ?_); (try (refine gate_guard (by rfl) ?_; dsimp only)); refine goesL_ (some 32) rfl rfl Try.func62 (by kernel_rfl) rfl #[.pointer (some ⟨x.adr, 0, none⟩)] rfl (by (try simp only [zAA, zAB, zAC]); first | done | rfl) ?_; refine (impl_node_depth.calls k x d1 true _ (by repeat (first | exact k74p.K_of_M HM.out | apply k74p_drewN | apply k74p_drew)) HD.out).mono ?_; rintro e w8 ⟨rfl, m8, hw⟩; rw [hw]; clear hw w8; refine ⟨_, rfl, ?_⟩) | ((with_reducible refine gate_callee (f := 64) rfl ?_); (try (refine gate_guard (by rfl) ?_; dsimp only)); refine goesL_ (some 39) rfl rfl Try.func64 (by kernel_rfl) rfl #[.pointer (some ⟨x.adr, 0, none⟩), .slice none 0 0, .slice none 0 0] rfl (by (try simp only [zAA, zAB, zAC]); first | done | rfl) ?_; refine (RW.allC _ x (.slice none 0 0) (.slice none 0 0) [] [] _ _ HALL.out.1 HALL.out.2.1 HALL.out.2.2.1 HALL.out.2.2.2 (Below.refl _ _) (by repeat (first | exact k74p.K_of_M HM.out | apply k74p_drewN | apply k74p_drew)) (Kd.R_nil _ _ _ _ _) (Kd.R_nil _ _ _ _ _)).mono ?_; rintro e w9 ⟨vK, vV, rfl, hRK, hRV, hb⟩; rw [List.nil_append, HXE.out, ← HEK.out] at hRK; rw [List.nil_append, HXE.out, ← HEV.out] at hRV; refine ⟨_, rfl, ?_⟩; obtain ⟨AK, cK, eo, hlK, hCK⟩ := Kd.R_reads hRK; subst eo; obtain ⟨AV, cV, eo, hlV, hCV⟩ := Kd.R_reads hRV; subst eo; have n0_ := zA (zAD (by repeat (first | exact HB.out | apply zF | apply zG)) hb : Below w.heap.size w w9); have n2_ := zA (k74p.M_below (by repeat (first | exact HM.out | refine k74p.M_below ?_ (below_drew1 (Below.refl _ _)) | refine k74p.M_below ?_ (pw_below_drewN (Below.refl _ _) _))) hb : k74p.M w9 w.heap.size (fun _ => True) x [.pointer (some ⟨x.adr, 0, none⟩)]); have HCK := zA hCK; have HCV := zA hCV; have HLK := zA hlK; have HLV := zA hlV; clear HB HM hb hRK hRV hCK hCV hlK hlV; have HB := n0_; have HM := n2_; clear n0_ n2_) | ((with_reducible refine gate_callee (f := 63) rfl ?_); (try (refine gate_guard (by rfl) ?_; dsimp only)); refine goesL_ (some 42) rfl rfl Try.func63 (by kernel_rfl) rfl #[.slice AK K.length cK, .slice AV V.length cV] rfl (by (try simp only [zAA, zAB, zAC]); first | done | rfl) ?_; refine (impl_arePairs.calls kp AK cK K AV cV V _ _ HCK.out HLK.out HCV.out HLV.out HPR.out).mono ?_; rintro e w8 ⟨rfl, m8, hw⟩; rw [hw]; clear hw w8; refine ⟨_, rfl, ?_⟩))
     go_ret2
     exact (show PostRt w (treeG ps ps.length) _ _ from (by rw [RR.out]; exact ⟨by first | rfl | (simp <;> rfl), by repeat (first | exact HB.out | apply zF | apply zG)⟩))
    | true =>
     have RR := zA (show treeG ps ps.length = some t by
      unfold treeG; rw [HR.out]; refine if_pos ⟨HN.out, ?_⟩
      obtain ⟨d, hd, hz⟩ := HSO.out
      unfold goodB
      rw [← HEK.out, ← HEV.out, ← HRB.out, hd, hz]; rfl)
     go_enter Try.func27, Try.ntmps27
     go_wp2_with (first | ((with_reducible refine gate_dst (N := 1) rfl ?_); refine box_event ?hg (N := 1) ?hd (cs := #[.slice A ps.length c]) (t := 30) ?hr ?_; (case hd => rfl); (case hg => rfl); (case hr => first | (go_simp; done) | (go_simp; rfl)); intro gb1 hg w3 hbox hb; have n0_ := zA (zAD HB.out hb); have BK1 := zA hbox; have GW1 := zA (by rw [hg]; exact Nat.le_refl _ : w.heap.size ≤ gb1); clear HB; have HB := n0_; clear n0_ hb hbox hg; have hx1 : w3.cell? ⟨gb1, 0, none⟩ = some (.slice A ps.length c) := (zP BK1.out 0).trans rfl) | ((with_reducible refine gate_dst (N := 12) rfl ?_); refine box_event ?hg (N := 12) ?hd (cs := #[.slice A ps.length c, .int .i64 0]) (t := 101) ?hr ?_; (case hd => rfl); (case hg => rfl); (case hr => first | (go_simp; done) | (go_simp; rfl)); intro gg hg w4 hbox hb; have n0_ := zA (zAD HB.out hb); have n1_ := zA (blk_below BK1.out hb); have BKG := zA hbox; have GWG := zA (by rw [hg]; exact zAE HB.out : w.heap.size ≤ gg); have NB1G := zA (by rw [hg]; exact zK (blk_lt BK1.out) : gb1 ≠ gg); clear HB BK1; have HB := n0_; have BK1 := n1_; clear n0_ n1_ hb hbox hg hx1; have hI := nodeI ps HG.out A c HLC.out w HC.out gg GWG.out ps.length 0 w4 (Nat.zero_le _) (by omega) HB.out BKG.out; rw [HR.out] at hI) | ((with_reducible refine gate_callee (f := 61) rfl ?_); refine goesL_ (some 15) rfl rfl Try.func61 (by kernel_rfl) rfl #[.pointer (some ⟨gg, 0, none⟩)] rfl (by (try simp only [zAA, zAB, zAC]); first | done | rfl) ?_; refine hI.mono ?_; clear hI;  rintro e w5 ⟨x, rfl, hx, hM, hb, hkb, hkg⟩; refine ⟨_, rfl, ?_⟩; have n1_ := zA (hkb.blk BK1.out NB1G.out (by simp)); have HXE := zA hx; have HM := zA (k74p.M_mono (fun _ _ => trivial) hM : k74p.M w5 w.heap.size (fun _ => True) x [.pointer (some ⟨x.adr, 0, none⟩)]); clear HB BK1 BKG hx hM hkb; have HB := zA hb; have BKG := zA hkg; have BK1 := n1_; clear n1_ hb hkg; have hy1 : w5.cell? ⟨gb1, 0, none⟩ = some (.slice A ps.length c) := (zP BK1.out 0).trans rfl; have hy2 : w5.cell? ⟨gg, 1, none⟩ = some (.int .i64 (nx : Int)) := (zP BKG.out 1).trans rfl))
     go_quiet (fail)
     obtain ⟨k, hk⟩ := Ev.rounds (depthI x (by rw [HXE.out]; exact HH.out) (by rw [HXE.out]; exact HOK.out)); rw [HXE.out, show dpI t = (d1, true) from by rw [HD1.out, HD2.out]] at hk; have HD := zA hk; clear hk
     have HALL := zA (⟨by rw [HXE.out]; exact HH.out, by rw [HXE.out]; exact HOK.out, by rw [HXE.out, ← HEK.out]; have := HNK.out; simp only [List.length_nil]; omega, by rw [HXE.out, ← HEV.out, HNV.out]; have := HNK.out; simp only [List.length_nil]; omega⟩ : hT (er74 x) ≤ 1000000000000000000 ∧ okT (er74 x) ∧ ([] : List ByteArray).length + (keysT (er74 x)).length ≤ 8796093022207 ∧ ([] : List ByteArray).length + (valsT (er74 x)).length ≤ 8796093022207); obtain ⟨kp, hkp⟩ := Ev.rounds (pairsE K V HNV.out); rw [← HRB.out] at hkp; have HPR := zA hkp; clear hkp
     go_wp2_with (first | ((with_reducible refine gate_callee (f := 62) rfl ?_); (try (refine gate_guard (by rfl) ?_; dsimp only)); refine goesL_ (some 32) rfl rfl Try.func62 (by kernel_rfl) rfl #[.pointer (some ⟨x.adr, 0, none⟩)] rfl (by (try simp only [zAA, zAB, zAC]); first | done | rfl) ?_; refine (impl_node_depth.calls k x d1 true _ (by repeat (first | exact k74p.K_of_M HM.out | apply k74p_drewN | apply k74p_drew)) HD.out).mono ?_; rintro e w8 ⟨rfl, m8, hw⟩; rw [hw]; clear hw w8; refine ⟨_, rfl, ?_⟩) | ((with_reducible refine gate_callee (f := 64) rfl ?_); (try (refine gate_guard (by rfl) ?_; dsimp only)); refine goesL_ (some 39) rfl rfl Try.func64 (by kernel_rfl) rfl #[.pointer (some ⟨x.adr, 0, none⟩), .slice none 0 0, .slice none 0 0] rfl (by (try simp only [zAA, zAB, zAC]); first | done | rfl) ?_; refine (RW.allC _ x (.slice none 0 0) (.slice none 0 0) [] [] _ _ HALL.out.1 HALL.out.2.1 HALL.out.2.2.1 HALL.out.2.2.2 (Below.refl _ _) (by repeat (first | exact k74p.K_of_M HM.out | apply k74p_drewN | apply k74p_drew)) (Kd.R_nil _ _ _ _ _) (Kd.R_nil _ _ _ _ _)).mono ?_; rintro e w9 ⟨vK, vV, rfl, hRK, hRV, hb⟩; rw [List.nil_append, HXE.out, ← HEK.out] at hRK; rw [List.nil_append, HXE.out, ← HEV.out] at hRV; refine ⟨_, rfl, ?_⟩; obtain ⟨AK, cK, eo, hlK, hCK⟩ := Kd.R_reads hRK; subst eo; obtain ⟨AV, cV, eo, hlV, hCV⟩ := Kd.R_reads hRV; subst eo; have n0_ := zA (zAD (by repeat (first | exact HB.out | apply zF | apply zG)) hb : Below w.heap.size w w9); have n2_ := zA (k74p.M_below (by repeat (first | exact HM.out | refine k74p.M_below ?_ (below_drew1 (Below.refl _ _)) | refine k74p.M_below ?_ (pw_below_drewN (Below.refl _ _) _))) hb : k74p.M w9 w.heap.size (fun _ => True) x [.pointer (some ⟨x.adr, 0, none⟩)]); have HCK := zA hCK; have HCV := zA hCV; have HLK := zA hlK; have HLV := zA hlV; clear HB HM hb hRK hRV hCK hCV hlK hlV; have HB := n0_; have HM := n2_; clear n0_ n2_) | ((with_reducible refine gate_callee (f := 63) rfl ?_); (try (refine gate_guard (by rfl) ?_; dsimp only)); refine goesL_ (some 42) rfl rfl Try.func63 (by kernel_rfl) rfl #[.slice AK K.length cK, .slice AV V.length cV] rfl (by (try simp only [zAA, zAB, zAC]); first | done | rfl) ?_; refine (impl_arePairs.calls kp AK cK K AV cV V _ _ HCK.out HLK.out HCV.out HLV.out HPR.out).mono ?_; rintro e w8 ⟨rfl, m8, hw⟩; rw [hw]; clear hw w8; refine ⟨_, rfl, ?_⟩))
     go_ret2
     exact (show PostRt w (treeG ps ps.length) _ _ from (by rw [RR.out]; exact ⟨x, by first | rfl | (simp <;> rfl), HXE.out, (by repeat (first | exact HM.out | refine k74p.M_below ?_ (below_drew1 (Below.refl _ _)) | refine k74p.M_below ?_ (pw_below_drewN (Below.refl _ _) _))), by repeat (first | exact HB.out | apply zF | apply zG)⟩))
  ·have b1 : ((nx : Int) != (ps.length : Int)) = true := bne_iff_ne.mpr (by omega)
   have b2 : ((nx : Int) == (ps.length : Int)) = false := beq_eq_false_iff_ne.mpr (by omega)
   have b3 : (nx != ps.length) = true := bne_iff_ne.mpr hn
   have b4 : (nx == ps.length) = false := beq_eq_false_iff_ne.mpr hn
   have RR := zA (show treeG ps ps.length = none by unfold treeG; rw [hR]; exact if_neg (fun q => hn q.1))
   clear hR hn
   go_enter Try.func27, Try.ntmps27
   go_wp2_with (first | ((with_reducible refine gate_dst (N := 1) rfl ?_); refine box_event ?hg (N := 1) ?hd (cs := #[.slice A ps.length c]) (t := 30) ?hr ?_; (case hd => rfl); (case hg => rfl); (case hr => first | (go_simp; done) | (go_simp; rfl)); intro gb1 hg w3 hbox hb; have n0_ := zA (zAD HB.out hb); have BK1 := zA hbox; have GW1 := zA (by rw [hg]; exact Nat.le_refl _ : w.heap.size ≤ gb1); clear HB; have HB := n0_; clear n0_ hb hbox hg; have hx1 : w3.cell? ⟨gb1, 0, none⟩ = some (.slice A ps.length c) := (zP BK1.out 0).trans rfl) | ((with_reducible refine gate_dst (N := 12) rfl ?_); refine box_event ?hg (N := 12) ?hd (cs := #[.slice A ps.length c, .int .i64 0]) (t := 101) ?hr ?_; (case hd => rfl); (case hg => rfl); (case hr => first | (go_simp; done) | (go_simp; rfl)); intro gg hg w4 hbox hb; have n0_ := zA (zAD HB.out hb); have n1_ := zA (blk_below BK1.out hb); have BKG := zA hbox; have GWG := zA (by rw [hg]; exact zAE HB.out : w.heap.size ≤ gg); have NB1G := zA (by rw [hg]; exact zK (blk_lt BK1.out) : gb1 ≠ gg); clear HB BK1; have HB := n0_; have BK1 := n1_; clear n0_ n1_ hb hbox hg hx1; have hI := nodeI ps HG.out A c HLC.out w HC.out gg GWG.out ps.length 0 w4 (Nat.zero_le _) (by omega) HB.out BKG.out; rw [HR.out] at hI) | ((with_reducible refine gate_callee (f := 61) rfl ?_); refine goesL_ (some 15) rfl rfl Try.func61 (by kernel_rfl) rfl #[.pointer (some ⟨gg, 0, none⟩)] rfl (by (try simp only [zAA, zAB, zAC]); first | done | rfl) ?_; refine hI.mono ?_; clear hI;  rintro e w5 ⟨x, rfl, hx, hM, hb, hkb, hkg⟩; refine ⟨_, rfl, ?_⟩; have n1_ := zA (hkb.blk BK1.out NB1G.out (by simp)); have HXE := zA hx; have HM := zA (k74p.M_mono (fun _ _ => trivial) hM : k74p.M w5 w.heap.size (fun _ => True) x [.pointer (some ⟨x.adr, 0, none⟩)]); clear HB BK1 BKG hx hM hkb; have HB := zA hb; have BKG := zA hkg; have BK1 := n1_; clear n1_ hb hkg; have hy1 : w5.cell? ⟨gb1, 0, none⟩ = some (.slice A ps.length c) := (zP BK1.out 0).trans rfl; have hy2 : w5.cell? ⟨gg, 1, none⟩ = some (.int .i64 (nx : Int)) := (zP BKG.out 1).trans rfl))
   repeat (go_quiet (fail); try go_wp2)
   go_ret2
   exact (show PostRt w (treeG ps ps.length) _ _ from (by rw [RR.out]; exact ⟨by first | rfl | (simp <;> rfl), by repeat (first | exact HB.out | apply zF | apply zG)⟩))
end Go.Proofs.Ytnplghcbdaiogaa.PR
end
section
namespace Go.Proofs.Ytnplghcbdaiogaa.RJ

end Go.Proofs.Ytnplghcbdaiogaa.RJ
end
section
namespace Go.Proofs.Ytnplghcbdaiogaa.RS
open Go.RowKit Go.Proofs.YtnplghcbdaiogaaW.PrintWords Go.Proofs.YtnplghcbdaiogaaW.PrintLast Go.Proofs.YtnplghcbdaiogaaW.PrintMore Go.Proofs.Ytnplghcbdaiogaa.PB Go.Proofs.Ytnplghcbdaiogaa.PW Go.Proofs.Ytnplghcbdaiogaa.QW Go.Proofs.Ytnplghcbdaiogaa.PA Go.Proofs.Ytnplghcbdaiogaa.QP Go.Proofs.Ytnplghcbdaiogaa.QO Go.Proofs.Ytnplghcbdaiogaa.QQ Go.Proofs.Ytnplghcbdaiogaa.QZ Go.Proofs.Ytnplghcbdaiogaa.RH Go.Proofs.Ytnplghcbdaiogaa.RF Go.Proofs.Ytnplghcbdaiogaa.RL Go.Proofs.Ytnplghcbdaiogaa.RM Go.Proofs.Ytnplghcbdaiogaa.RN Go.Proofs.Ytnplghcbdaiogaa.RR
open Go.Proofs.Ytnplghcbdaiogaa.RG (kept_set kept_more)
attribute [local go_sem] max2_int min2_int max_two min_two max_three min_three max_four min_four
set_option linter.unusedVariables false
set_option linter.unusedSimpArgs false
set_option maxHeartbeats 4000000
set_option maxRecDepth 100000
def PostPc (n : Nat) (w : World) (x : Pc) (e : Ending) (w' : World) : Prop := ∃ A0 c0 A1 c1 A2 c2 A4 c4 A5 c5, e = .returned (.agg #[.slice A0 x.K.length c0, .slice A1 x.V.length c1, .slice A2 x.C.length c2, .int .i64 x.g, .slice A4 x.O.length c4, .slice A5 x.L.length c5]) ∧
 (kp n).M w' w.heap.size (fun _ => True) x [.slice A0 x.K.length c0, .slice A1 x.V.length c1, .slice A2 x.C.length c2, .int .i64 x.g, .slice A4 x.O.length c4, .slice A5 x.L.length c5] ∧ Below w.heap.size w w'
theorem rd_ints (l : List Nat) (j : Nat) (h : j < l.length) : rd (intsOf l) (j : Int) = (l[j] : Int) := by
 unfold rd intsOf
 rw [Int.toNat_natCast, List.getD_eq_getElem?_getD, List.getElem?_map, List.getElem?_eq_getElem h]; rfl
def pcI.T6 : Bool × List (List Nat × List Nat) := (true, [([], []), ([0], [0]), ([], []), ([2], [2]), ([3], [3]), ([4], [4]), ([], []), ([5, 6], [5, 6]), ([7], [7]), ([], []), ([], []), ([8, 9, 10], [8, 9, 10]), ([11], [11]), ([1, 12, 11], [1, 12]), ([0, 1, 2, 3, 4, 5, 6, 7, 8, 9, 10, 11, 12, 13], []), ([14, 13, 13, 0, 1, 2, 3, 4, 5, 6, 7, 8, 9, 10, 11, 12, 13], [13, 14])])
def pcI.B6 : List Nat := [0, 1, 0, 4, 12, 28, 0, 124, 252, 0, 0, 2044, 4092, 8191, 16383, 32767]
theorem pcI.tab6 : rtab .any (opsOf Try.f44 6) = pcI.T6 := by kernel_rfl
theorem pcI.bits6 : waitsOk pcI.T6.2 pcI.B6 = true := by kernel_rfl
theorem pieceI (s e : ByteArray) : ∀ (n : Nat) (y : S74) (w : World), n ≤ 10 → hT (er74 y) ≤ n → Fine (er74 y) → k74p.K w y [.pointer (some ⟨y.adr, 0, none⟩)] →
  Calls Try.prog 44 #[.pointer (some ⟨y.adr, 0, none⟩), .string s, .string e] w fun er w' => PostPc n w (pcN s e n (er74 y)) er w' := by
 intro n
 induction n with
 | zero => intro y w _ h _ _; rw [hT_eq] at h; omega
 | succ n ih =>
  intro y w hn hh hF hK
  have HK := zA hK
  have HB := zA (Below.refl w.heap.size w)
  have hu74 := Try.underlying74
  have hu47 := Try.underlying47
  have hu43 := Try.underlying43
  obtain ⟨e0, e1, e2⟩ := er74_f y
  obtain ⟨o1, o2, o3, o4⟩ := (okT_eq _).1 hF.1
  obtain ⟨k2, hk2⟩ := Ev.rounds (shownI y hF.1 hF.2.1).1
  obtain ⟨C, hC⟩ : ∃ q, q = y.f2.map (fun z => digT (er74 z)) := ⟨_, rfl⟩
  rw [← hC] at hk2
  have hCl : C.length = y.f2.length := by rw [hC, List.length_map]
  rw [e0, e2, List.length_map] at o3
  rw [e0] at o1
  obtain ⟨k3, hk3⟩ := Ev.rounds (neededI s e y.f0 y.f1 C 0 o1 (by rw [hCl]; exact o3))
  rw [hCl] at hk3
  obtain ⟨I, hI⟩ : ∃ q, q = idxT s e y.f0 y.f2.length := ⟨_, rfl⟩
  rw [← hI] at hk3
  obtain ⟨O, hO⟩ : ∃ q, q = intsOf I := ⟨_, rfl⟩
  rw [← hO] at hk3
  have hol : O.length = I.length := by rw [hO]; unfold intsOf; rw [List.length_map]
  obtain ⟨pcs, hpcs⟩ : ∃ q, q = I.map fun i => pcN s e n (kidAt (er74 y) i) := ⟨_, rfl⟩
  have hpl : pcs.length = O.length := by rw [hpcs, List.length_map, hol]
  have HPC := zA (show pcN s e (n + 1) (er74 y) = ⟨y.f0, y.f1, C, 0, O, pcs⟩ from by
   show (⟨(er74 y).f0, (er74 y).f1, (er74 y).f2.map digT, 0, intsOf (idxT s e (er74 y).f0 (er74 y).f2.length), (idxT s e (er74 y).f0 (er74 y).f2.length).map fun i => pcN s e n (kidAt (er74 y) i)⟩ : Pc) = _
   rw [e0, e1, e2, List.length_map, ← hI, ← hO, ← hpcs, List.map_map, hC]; rfl)
  have HKID := zA (fun j hj => by
   have hi : I[j] < y.f2.length := idx_lt (by rw [← hI]; exact List.getElem_mem hj)
   have hlen : (er74 y).f2.length = y.f2.length := by rw [e2, List.length_map]
   obtain ⟨hm, hke⟩ := kid_mem (t := er74 y) (i := I[j]) (by omega)
   have he : er74 (rd_N74 y.f2 (I[j] : Int)) = kidAt (er74 y) I[j] := by
    rw [hke, rdI_at y.f2 I[j] hi]; simp only [e2, List.getElem_map]
   have h2 := hL_mem _ _ hm
   rw [hT_eq] at hh
   exact ⟨hi, by rw [he]; exact Fine_kid hF hm, by rw [he]; omega, by rw [hpcs, List.getElem?_map, List.getElem?_eq_getElem hj, he]; rfl, by rw [hO]; exact rd_ints I j hj⟩ : ∀ (j : Nat) (hj : j < I.length), I[j] < y.f2.length ∧ Fine (er74 (rd_N74 y.f2 (I[j] : Int))) ∧ hT (er74 (rd_N74 y.f2 (I[j] : Int))) ≤ n ∧ pcs[j]? = some (pcN s e n (er74 (rd_N74 y.f2 (I[j] : Int)))) ∧ rd O (j : Int) = (I[j] : Int))
  have HIL := zA (show I.length ≤ 5 from by have := idx_len s e y.f0 y.f2.length; rw [← hI] at this; omega)
  have HOL := zA hol
  have HPL := zA hpl
  have HSH := zA hk2
  have HNE := zA hk3
  have HN := zA (show n ≤ 10 from by omega)
  obtain ⟨An0, cn0, An1, cn1, An2, cn2, hz0, hz1, hz2, _, _, _, _, _, hin2⟩ := at_P74 hK
  have HZ2 := zA hz2
  have HIN := zA hin2
  clear hk2 hk3 hC hCl hI hO hol hpcs hpl e0 e1 e2 o1 o2 o3 o4 hn hh hF hK hz0 hz1 hz2 hin2
  go_enter Try.func44, Try.ntmps44
  go_wp2_with (first | ((with_reducible refine gate_dst (N := 6) rfl ?_); refine box_event ?hg (N := 6) ?hd (cs := #[.slice none 0 0, .slice none 0 0, .slice none 0 0, .int .i64 0, .slice none 0 0, .slice none 0 0]) (t := 47) ?hr ?_; (case hd => rfl); (case hg => rfl); (case hr => first | (go_simp; done) | (go_simp; rfl)); intro g6 hg w3 hbox hb; have n0_ := zA (zAD HB.out hb); have BK6 := zA hbox; have GW6 := zA (by rw [hg]; exact Nat.le_refl _ : w.heap.size ≤ g6); clear HB; have HB := n0_; clear n0_ hb hbox hg) | ((with_reducible refine gate_callee (f := 28) rfl ?_); refine goesL_ (some 11) rfl rfl Try.func28 (by kernel_rfl) rfl #[.pointer (some ⟨y.adr, 0, none⟩)] rfl (by (try simp only [zAA, zAB, zAC]); first | done | rfl) ?_; refine (impl_node_shown.calls k2 y y.f0 y.f1 C 0 _ (k74p.K_below HB.out HK.out) HSH.out).mono ?_; rintro er w5 ⟨v0, v1, v2, rfl, r0, r1, r2, hb⟩; refine ⟨_, rfl, ?_⟩; obtain ⟨A0, c0, rfl⟩ := Kd.R_slice r0; obtain ⟨A1, c1, rfl⟩ := Kd.R_slice r1; obtain ⟨A2, c2, rfl⟩ := Kd.R_slice r2; have n0_ := zA (zAD HB.out hb); have H0 := zA (Kd.R_lower r0 (zAE HB.out)); have H1 := zA (Kd.R_lower r1 (zAE HB.out)); have H2 := zA (Kd.R_lower r2 (zAE HB.out)); have L0 := zA (Kd.R_base r0); have L1 := zA (Kd.R_base r1); have L2 := zA (Kd.R_base r2); have n1_ := zA (blk_below BK6.out hb); have L6 := zA (blk_lt BK6.out); have N65 := zA (Nat.lt_of_lt_of_le (blk_lt BK6.out) hb.size : g6 < w5.heap.size); clear HB BK6 r0 r1 r2 hb; have HB := n0_; have BK6 := n1_; clear n0_ n1_) | ((with_reducible refine gate_callee (f := 76) rfl ?_); refine goesL_ (some 17) rfl rfl Try.func76 (by kernel_rfl) rfl #[.agg #[.slice A0 y.f0.length c0, .slice A1 y.f1.length c1, .slice A2 C.length c2, .int .i64 0], .string s, .string e] rfl (by (try simp only [zAA, zAB, zAC]); first | done | rfl) ?_; refine (impl_needed.calls k3 A0 c0 y.f0 A1 c1 y.f1 A2 c2 C 0 s e O _ (Kd.C_alloc (Kd.R_reads' H0.out).2.2 _) (Kd.R_reads' H0.out).2.1 (Kd.C_alloc (Kd.R_reads' H1.out).2.2 _) (Kd.R_reads' H1.out).2.1 (Kd.C_alloc (Kd.R_reads' H2.out).2.2 _) (Kd.R_reads' H2.out).2.1 HNE.out).mono ?_; rintro er w17 ⟨v4, rfl, r4, hb⟩; refine ⟨_, rfl, ?_⟩; obtain ⟨A4, c4, rfl⟩ := Kd.R_slice r4; have BK7 := zA (blk_below (blk_new w5 (.cells #[.slice A0 y.f0.length c0, .slice A1 y.f1.length c1, .slice A2 C.length c2, .int .i64 0, .slice none 0 0, .slice none 0 0] 47)) hb); have h57 := zAD (below_alloc (Below.refl w5.heap.size w5) (.cells #[.slice A0 y.f0.length c0, .slice A1 y.f1.length c1, .slice A2 C.length c2, .int .i64 0, .slice none 0 0, .slice none 0 0] 47)) hb; have n0_ := zA (zAD HB.out h57); have n1_ := zA (blk_below BK6.out h57); have m0_ := zA (Kd.R_below H0.out h57); have m1_ := zA (Kd.R_below H1.out h57); have m2_ := zA (Kd.R_below H2.out h57); have H4 := zA (Kd.R_lower (Kd.R_tight rfl r4) (Nat.le_trans (zAE HB.out) (by simp only [World.alloc, Array.size_push]; omega))); have L4 := zA (fun k_ h_ => Nat.lt_of_lt_of_le (by simp only [World.alloc, Array.size_push]; omega : w5.heap.size < (w5.alloc (.cells #[.slice A0 y.f0.length c0, .slice A1 y.f1.length c1, .slice A2 C.length c2, .int .i64 0, .slice none 0 0, .slice none 0 0] 47)).heap.size) (Kd.R_base r4 k_ h_) : ∀ k_, (Value.slice A4 O.length c4).ownBlock = some k_ → w5.heap.size < k_); have E45 := zA (Kd.R_lt H4.out); have N57 := zA (Nat.lt_of_lt_of_le (by simp only [World.alloc, Array.size_push]; omega : w5.heap.size < (w5.alloc (.cells #[.slice A0 y.f0.length c0, .slice A1 y.f1.length c1, .slice A2 C.length c2, .int .i64 0, .slice none 0 0, .slice none 0 0] 47)).heap.size) hb.size); have E05 := zA (Kd.R_lt H0.out); have E15 := zA (Kd.R_lt H1.out); have E25 := zA (Kd.R_lt H2.out); clear HB BK6 H0 H1 H2 r4 hb h57; have HB := n0_; have BK6 := n1_; have H0 := m0_; have H1 := m1_; have H2 := m2_; clear n0_ n1_ m0_ m1_ m2_; have hc4 : w17.cell? ⟨w5.heap.size, 4, none⟩ = some (.slice none 0 0) := (zP BK7.out 4).trans rfl; have hf4 := zO BK7.out 4; have n2_ := zA (blk_put (cs' := #[.slice A0 y.f0.length c0, .slice A1 y.f1.length c1, .slice A2 C.length c2, .int .i64 0, .slice A4 O.length c4, .slice none 0 0]) BK7.out 4 (.slice A4 O.length c4) rfl); have hd4 : (w17.setCell ⟨w5.heap.size, 4, none⟩ (.slice A4 O.length c4)).cell? ⟨w5.heap.size, 4, none⟩ = some (.slice A4 O.length c4) := (zP n2_.out 4).trans rfl; have BK7' := n2_; clear n2_ BK7))
  go_loopg [22] (O.length + 1) (fun kq v22 w' => ∃ (z : Int) (j : Nat) (xs : List Pc) (VK : Option Addr) (ck : Nat), v22 = .int .i64 z ∧ Aside0 (z = (j : Int)) ∧ Aside0 (kq + j = O.length + 1) ∧ Aside0 (j ≤ O.length) ∧ Aside0 (xs = pcs.take j) ∧ Aside0 (w'.heap[w5.heap.size]? = some (.cells #[.slice A0 y.f0.length c0, .slice A1 y.f1.length c1, .slice A2 C.length c2, .int .i64 0, .slice A4 O.length c4, .slice VK xs.length ck] 47 (0, 0))) ∧ Aside0 (Kd.S (kp n) 47 w' w17.heap.size (fun _ => True) (.slice VK xs.length ck) xs) ∧ Aside0 (Kept w17 w' (fun k_ => k_ = w5.heap.size)) ∧ Aside0 (Below w.heap.size w w'))
  case atStart => exact ⟨0, 0, [], none, 0, rfl, ⟨rfl⟩, ⟨by omega⟩, ⟨by omega⟩, ⟨rfl⟩, BK7', ⟨Kd.S_nil _ _ _ _ _⟩, zA (kept_set (S := fun k_ => k_ = w5.heap.size) (Kept.refl _ _) rfl 4 _), zA (Below.setCell HB.out (Nat.le_trans GW6.out (Nat.le_of_lt N65.out)) _)⟩
  case round =>
   clear hc4 hf4 hd4 BK7'
   have HB17 := HB
   clear HB
   obtain ⟨z, j, xs, VK, ck, rfl, HZ, HKQ, HJ, HXS, BK7, HS, HKP, HB⟩ := hrel
   have HW17 := zA (zAE HB17.out)
   by_cases hj : j < O.length
   ·obtain ⟨g1, rfl⟩ : ∃ g1, gk = g1 + 1 := ⟨gk - 1, by have := HKQ.out; omega⟩
    have hz := HZ.out
    have hji : j < I.length := by have := HOL.out; omega
    have h5 := HIL.out
    have h5' := HOL.out
    obtain ⟨hk1, hk2, hk3, hk4, hk5⟩ := HKID.out j hji
    obtain ⟨q, hq⟩ : ∃ q, q = (I[j] : Int) := ⟨_, rfl⟩
    rw [← hq] at hk2 hk3 hk4 hk5
    have hrd : rd O z = q := by rw [hz]; exact hk5
    obtain ⟨u, hu⟩ : ∃ q', q' = rd_N74 y.f2 q := ⟨_, rfl⟩
    rw [← hu] at hk2 hk3 hk4
    have p1 : 0 ≤ z := by omega
    have p2 : z < (O.length : Int) := by omega
    have p3 : 0 ≤ q := by omega
    have p4 : q < (y.f2.length : Int) := by omega
    obtain ⟨ad4, ea4, hx4⟩ := Kd.at_int (Kd.R_reads' (Kd.R_kept H4.out HKP.out (fun k_ h1 h2 => by have := L4.out k_ h1.symm; omega))).2.2 z p1 p2
    rw [hrd] at hx4
    subst ea4
    obtain ⟨ad, ead, hw3⟩ := at_N74 HIN.out q p3 p4
    have HKU := zA (nd_el74 HIN.out q p3 p4)
    rw [← hu] at hw3 HKU
    subst ead
    have hw2 := HZ2.out
    obtain ⟨x, hx⟩ : ∃ q', q' = pcN s e n (er74 u) := ⟨_, rfl⟩
    rw [← hx] at hk4
    have HX := zA hx
    have HU2 := zA hk2
    have HU3 := zA hk3
    have HU4 := zA hk4
    have HW2 := zA hw2
    have HW3 := zA hw3
    have q1 : decide (z < (O.length : Int)) = true := decide_eq_true p2
    have q2 : (z < (O.length : Int)) = True := eq_true p2
    have q3 : (0 ≤ z) = True := eq_true p1
    have q4 : decide (0 ≤ z) = true := decide_eq_true p1
    have q5 : decide (q < (y.f2.length : Int)) = true := decide_eq_true p4
    have q6 : (q < (y.f2.length : Int)) = True := eq_true p4
    have q7 : (0 ≤ q) = True := eq_true p3
    have q8 : decide (0 ≤ q) = true := decide_eq_true p3
    have HZ1 := zA (show wrap64 (z + 1) = ((j + 1 : Nat) : Int) from by unfold wrap64; omega)
    have HXL := zA (show xs.length ≤ 5 from by rw [HXS.out, List.length_take]; omega)
    have HJO := zA hj
    clear hz hji h5 h5' hk1 hk2 hk3 hk4 hk5 hq hrd hu p1 p2 p3 p4 hx hj hw2 hw3
    try go_wp2
    have n0_ := zA (Kd.S_drew HS.out); have n1_ := zA (zN BK7.out); have n2_ := zA (zG HB.out); have n3_ := zA (HKP.out.below (below_drew (Below.refl _ _)))
    clear HS BK7 HB HKP hx4
    have HS := n0_; have BK7 := n1_; have HB := n2_; have HKP := n3_
    clear n0_ n1_ n2_ n3_
    refine start_ (n := 16) (S := fun w' => w'.cell? ⟨w5.heap.size, 5, none⟩ = some (.slice VK xs.length ck) ∧ w'.cell? ⟨y.adr, 2, none⟩ = some (.slice (some ad) y.f2.length cn2) ∧ w'.cell? (ad.add q.toNat) = some (.pointer (some ⟨u.adr, 0, none⟩))) (ds := [15]) (bA 16 0) (by kernel_rfl) rfl rfl ⟨(zP BK7.out 5).trans rfl, (HB.out.cell (zB w _ HW2.out)).trans HW2.out, (HB.out.cell (zB w _ HW3.out)).trans HW3.out⟩ (fun hHeld => ?_)
    refine with_tabW pcI.tab6 pcI.bits6 (fun HT_ HW_ => ?_)
    generalize wr.drew = w24 at HS BK7 HB HKP hHeld ⊢
    refine wzP 0 26 (bA 16 1) HT_ ?_
    refine wzP 2 28 (bA 16 5) HT_ ?_
    refine wzP 3 29 (bA 16 13) HT_ ?_
    refine wzP 4 30 (bA 16 29) HT_ ?_
    refine wzP 6 32 (bA 16 93) HT_ ?_
    refine wzP 9 35 (bA 16 605) HT_ ?_
    refine wzP 10 36 (bA 16 1629) HT_ ?_
    refine wzT 1 27 (bA 16 1631) HT_ HW_ hHeld ?_
    refine wzT 5 31 (bA 16 1663) HT_ HW_ hHeld ?_
    refine wzP 7 33 (bA 16 1791) HT_ ?_
    refine wzT 8 34 (bA 16 2047) HT_ HW_ hHeld ?_
    refine one_ (i := 11) (N := some 37) (bA 16 4095) rfl rfl (one_of HT_.out (by kernel_rfl)) (by decide) (fun K hK => ?_); refine goes_ Try.func44 (by kernel_rfl) rfl #[.pointer (some ⟨u.adr, 0, none⟩), .string s, .string e] (by rfl) rfl rfl (by (try simp only [zAA, zAB, zAC]); first | done | rfl) ?_
    refine (ih u _ HN.out HU3.out HU2.out (k74p.K_below HB.out HKU.out)).mono ?_
    rintro er w25 hpost
    rw [← HX.out] at hpost
    obtain ⟨B0, d0, B1, d1, B2, d2, B4, d4, B5, d5, rfl, hM, hb⟩ := hpost
    refine ⟨_, rfl, ?_⟩
    have HB24 := HB
    have HKP24 := HKP
    have n0_ := zA (Kd.S_mono (Kd.S_below (Kd.S_bound HS.out) hb) (fun k_ hk_ => ⟨trivial, fun h_ => by have h3_ := hk_.2.2.1; omega⟩) : Kd.S (kp n) 47 w25 w17.heap.size (fun k_ => True ∧ ¬ (w24.heap.size ≤ k_)) (.slice VK xs.length ck) xs)
    have HVB := zA (Kd.R_base (Kd.S_R HS.out))
    have HVL := zA (Kd.R_lt (Kd.S_R HS.out))
    have n1_ := zA (blk_below BK7.out hb)
    have n2_ := zA (zAD HB.out hb)
    have n3_ := zA (Nat.le_trans HKP.out.1 hb.size : w17.heap.size ≤ w25.heap.size)
    have n4_ := zA (hb.size : w24.heap.size ≤ w25.heap.size)
    have HMX := zA ((kp n).M_mono (fun k_ hk_ => hk_.2.1) ((kp n).M_bound hM) : (kp n).M w25 w24.heap.size (fun k_ => w24.heap.size ≤ k_) x _)
    have h2425 := zA (hb.mono HKP.out.1 : Below w17.heap.size w24 w25)
    clear HS BK7 HB HKP hM hb hHeld
    have HS := n0_; have BK7 := n1_; have HB := n2_; have HS25 := n3_; have HS24 := n4_
    clear n0_ n1_ n2_ n3_ n4_
    refine hK.out _ _ ⟨(zP BK7.out 5).trans rfl, (HB.out.cell (zB w _ HW2.out)).trans HW2.out, (HB.out.cell (zB w _ HW3.out)).trans HW3.out⟩ (fun hHeld => ?_); clear hK K; refine wzN 37 ?_
    refine one_ (i := 12) (N := some 38) (bA 16 8191) rfl rfl (one_of HT_.out (by kernel_rfl)) (by decide) (fun K hK => ?_); refine value_ (w1 := ?_) (v := ?_) (by rfl) rfl ?_ ?_; rotate_left 2
    ·go_simp
     constructor
     ·rfl
     ·rfl
    refine hK.out _ _ ⟨(zP (zM BK7.out _) 5).trans rfl, (World.cell?_alloc_lt _ _ _ (zB _ _ ((HB.out.cell (zB w _ HW2.out)).trans HW2.out))).trans ((HB.out.cell (zB w _ HW2.out)).trans HW2.out), (World.cell?_alloc_lt _ _ _ (zB _ _ ((HB.out.cell (zB w _ HW3.out)).trans HW3.out))).trans ((HB.out.cell (zB w _ HW3.out)).trans HW3.out)⟩ (fun hHeld => ?_); clear hK K; refine wzN 38 ?_
    refine one_ (i := 13) (N := some 39) (bA 16 16383) rfl rfl (one_of HT_.out (by kernel_rfl)) (by decide) (fun K hK => ?_)
    refine Kd.S_append_step (kp n) (w0 := w24) w17.heap.size (by rfl) (.tmp 27) (.tmp 38) 45 47 (.agg #[(.slice none 0 0), (.slice none 0 0), (.slice none 0 0), (.int .i64 0), (.slice none 0 0), (.slice none 0 0)]) 128 rfl Try.underlying45 (by rw [kp_sz]; exact info47) (by rw [kp_sz]; rfl) (by rw [kp_sz]; omega) (by omega) (.slice VK xs.length ck) xs x [.slice B0 x.K.length d0, .slice B1 x.V.length d1, .slice B2 x.C.length d2, .int .i64 x.g, .slice B4 x.O.length d4, .slice B5 x.L.length d5] (fun _ => True) (fun k_ => w24.heap.size ≤ k_) rfl rfl ((kp n).M_lower HKP24.out.1 HMX.out) (fun k_ hk_ => ⟨trivial, fun e_ => by have h3_ := HVL.out k_ e_.symm; omega⟩) (fun _ _ => trivial) HS.out h2425.out HS25.out (by have := HXL.out; omega) ?_
    intro v9 w26 ho hb9 hg hat
    have n1_ := zA ((hg.block w5.heap.size (Nat.lt_of_lt_of_le N57.out HS25.out) (fun e_ => by have h3_ := HVB.out _ e_.symm; have h4_ := N57.out; omega)).trans BK7.out)
    have n2_ := zA (Below.trans HB24.out (hb9.mono HW17.out))
    have n3_ := zA (⟨Nat.le_trans HKP24.out.1 hb9.size, fun i_ hi_ hn_ => (hb9.block i_ hi_).trans (HKP24.out.2 i_ hi_ hn_)⟩ : Kept w17 w26 (fun k_ => k_ = w5.heap.size))
    clear BK7 HS HB HKP24 hg hat hb9 hHeld
    have BK7 := n1_; have HB := n2_; have HKP := n3_
    clear n1_ n2_ n3_
    obtain ⟨ys, hys⟩ : ∃ q', q' = xs ++ [x] := ⟨_, rfl⟩
    rw [← hys] at ho
    have HYS := zA hys
    clear hys
    obtain ⟨VK2, ck2, eo⟩ := Kd.S_slice ho
    subst eo
    have HS := zA ho
    clear ho
    refine hK.out _ _ ⟨(zP BK7.out 5).trans rfl, (HB.out.cell (zB w _ HW2.out)).trans HW2.out, (HB.out.cell (zB w _ HW3.out)).trans HW3.out⟩ (fun hHeld => ?_); clear hK K; refine wzN 39 ?_
    refine wzP 14 40 (bA 16 32767) HT_ ?_
    refine last_ (i := 15) (N := none) (bA 16 65535) rfl rfl (one_of HT_.out (by kernel_rfl)) (by decide) (fun K hK => ?_); have hs5 : w26.cell? ⟨w5.heap.size, 5, none⟩ = some (.slice VK xs.length ck) := (zP BK7.out 5).trans rfl; have hf5 := zO BK7.out 5; refine skip_ (w1 := ?_) (by rfl) rfl ?_ ?_; rotate_left
    ·go_simp
     rfl
    refine hK.out _ _ ?_; clear hK K; refine done_ (done_of HT_.out (by kernel_rfl)) ?_
    try go_wp2
    clear q1 q2 q3 q4 q5 q6 q7 q8 hs5 hf5 hHeld
    have HBK := zA (blk_put (cs' := #[.slice A0 y.f0.length c0, .slice A1 y.f1.length c1, .slice A2 C.length c2, .int .i64 0, .slice (some ad4) O.length c4, .slice VK2 ys.length ck2]) BK7.out 5 (.slice VK2 ys.length ck2) rfl)
    have HSF := zA (Kd.S_mono (Kd.S_far (p := ⟨w5.heap.size, 5, none⟩) (Kd.S_bound HS.out) (fun k_ hk_ => by have h3_ := hk_.2.1; have h4_ := N57.out; show k_ ≠ w5.heap.size; omega) (.slice VK2 ys.length ck2)) (fun _ _ => trivial))
    go_roundg g1
    case measure => omega
    case rel => exact ⟨wrap64 (z + 1), j + 1, ys, VK2, ck2, rfl, HZ1, ⟨by have := HKQ.out; omega⟩, ⟨by have := HJO.out; omega⟩, ⟨by rw [HYS.out, HXS.out, List.take_add_one, HU4.out]; rfl⟩, HBK, HSF, zA (kept_set HKP.out rfl 5 _), zA (Below.setCell HB.out (Nat.le_trans GW6.out (Nat.le_of_lt N65.out)) _)⟩
   ·have hz := HZ.out
    have q1 : decide (z < (O.length : Int)) = false := decide_eq_false (by omega)
    have hxs : xs = pcs := by rw [HXS.out, List.take_of_length_le (by have := HPL.out; have := HJ.out; omega)]
    rw [hxs] at BK7 HS
    have BK6w := zA (blk_kept BK6.out HKP.out (fun h_ => by have h3_ := N65.out; have h4_ : g6 = w5.heap.size := h_; omega))
    have HNB := zA (Nat.ne_of_lt N65.out)
    clear hz hj
    obtain ⟨hc7_0, hc7_1, hc7_2, hc7_3, hc7_4, hc7_5⟩ := cell6 BK7.out; have hf7 := zO BK7.out
    obtain ⟨hc6_0, hc6_1, hc6_2, hc6_3, hc6_4, hc6_5⟩ := cell6 BK6w.out; have hf6 := zO BK6w.out
    have hn1 := HNB.out
    have hn2 := HNB.out.symm
    go_wp2
    refine bodyPost_ret (results_cell_row rfl _ _ g6 47 #[.slice A0 y.f0.length c0, .slice A1 y.f1.length c1, .slice A2 C.length c2, .int .i64 0, .slice A4 O.length c4, .slice VK pcs.length ck] (0, 0) _ rfl (by refine blk_put (cs := #[.slice A0 y.f0.length c0, .slice A1 y.f1.length c1, .slice A2 C.length c2, .int .i64 0, .slice A4 O.length c4, .slice none 0 0]) ?_ 5 _ rfl; refine blk_put (cs := #[.slice A0 y.f0.length c0, .slice A1 y.f1.length c1, .slice A2 C.length c2, .int .i64 0, .slice none 0 0, .slice none 0 0]) ?_ 4 _ rfl; refine blk_put (cs := #[.slice A0 y.f0.length c0, .slice A1 y.f1.length c1, .slice A2 C.length c2, .int .i64 0, .slice none 0 0, .slice none 0 0]) ?_ 3 _ rfl; refine blk_put (cs := #[.slice A0 y.f0.length c0, .slice A1 y.f1.length c1, .slice none 0 0, .int .i64 0, .slice none 0 0, .slice none 0 0]) ?_ 2 _ rfl; refine blk_put (cs := #[.slice A0 y.f0.length c0, .slice none 0 0, .slice none 0 0, .int .i64 0, .slice none 0 0, .slice none 0 0]) ?_ 1 _ rfl; refine blk_put (cs := #[.slice none 0 0, .slice none 0 0, .slice none 0 0, .int .i64 0, .slice none 0 0, .slice none 0 0]) ?_ 0 _ rfl; exact BK6w.out) Try.underlying47 rfl (by kernel_rfl)) rfl ?_
    rw [HPC.out]
    refine ⟨A0, c0, A1, c1, A2, c2, A4, c4, VK, ck, rfl, ?_, ?_⟩
    ·have hKf : Kept wr (((((((wr).setCell ⟨g6, 0, none⟩ (.slice A0 y.f0.length c0)).setCell ⟨g6, 1, none⟩ (.slice A1 y.f1.length c1)).setCell ⟨g6, 2, none⟩ (.slice A2 C.length c2)).setCell ⟨g6, 3, none⟩ (.int .i64 0)).setCell ⟨g6, 4, none⟩ (.slice A4 O.length c4)).setCell ⟨g6, 5, none⟩ (.slice VK pcs.length ck)) (fun k_ => k_ = g6) := kept_set (kept_set (kept_set (kept_set (kept_set (kept_set (Kept.refl wr (fun k_ => k_ = g6)) rfl 0 (.slice A0 y.f0.length c0)) rfl 1 (.slice A1 y.f1.length c1)) rfl 2 (.slice A2 C.length c2)) rfl 3 (.int .i64 0)) rfl 4 (.slice A4 O.length c4)) rfl 5 (.slice VK pcs.length ck)
     have t0 := Kd.R_kept (Kd.R_kept (Kd.R_tight rfl H0.out) HKP.out (fun k_ h1 h2 => by have h3_ := E05.out k_ h1.symm; have h4_ : k_ = w5.heap.size := h2; omega)) hKf (fun k_ h1 h2 => by have h3_ := L0.out k_ h1.symm; have h5_ := L6.out; have h4_ : k_ = g6 := h2; omega)
     have t1 := Kd.R_kept (Kd.R_kept (Kd.R_tight rfl H1.out) HKP.out (fun k_ h1 h2 => by have h3_ := E15.out k_ h1.symm; have h4_ : k_ = w5.heap.size := h2; omega)) hKf (fun k_ h1 h2 => by have h3_ := L1.out k_ h1.symm; have h5_ := L6.out; have h4_ : k_ = g6 := h2; omega)
     have t2 := Kd.R_kept (Kd.R_kept (Kd.R_tight rfl H2.out) HKP.out (fun k_ h1 h2 => by have h3_ := E25.out k_ h1.symm; have h4_ : k_ = w5.heap.size := h2; omega)) hKf (fun k_ h1 h2 => by have h3_ := L2.out k_ h1.symm; have h5_ := L6.out; have h4_ : k_ = g6 := h2; omega)
     have t4 := Kd.R_kept (Kd.R_kept H4.out HKP.out (fun k_ h1 h2 => by have h3_ := L4.out k_ h1.symm; have h4_ : k_ = w5.heap.size := h2; omega)) hKf (fun k_ h1 h2 => by have h3_ := L4.out k_ h1.symm; have h5_ := N65.out; have h4_ : k_ = g6 := h2; omega)
     have t5 := Kd.S_kept (Kd.S_bound HS.out) hKf (fun k_ h1 h2 => by have h3_ := h1.2.1; have h5_ := N65.out; have h6_ := N57.out; have h4_ : k_ = g6 := h2; omega)
     refine pc_mkM (n := n) (x := ⟨y.f0, y.f1, C, 0, O, pcs⟩) (Kd.R_mono t0 (fun _ _ => trivial)) (Kd.R_mono t1 (fun _ _ => trivial)) (Kd.R_mono t2 (fun _ _ => trivial)) (Kd.R_mono t4 (fun _ _ => trivial)) (Kd.S_lower t5 HW17.out) ⟨fun k_ hk_ => ⟨fun e_ => (H0.out.1 k_ hk_).1 e_.symm, fun e_ => (H0.out.1 k_ hk_).2 e_.symm⟩, fun k_ hk_ e_ => (H1.out.1 k_ hk_).2 e_.symm⟩ (fun k_ hk_ => ⟨trivial, fun e_ => ?_, fun e_ => ?_, fun e_ => ?_, fun e_ => ?_⟩)
     ·have h1_ := E05.out k_ e_.symm; have h2_ := hk_.2.1; have h3_ := N57.out; omega
     ·have h1_ := E15.out k_ e_.symm; have h2_ := hk_.2.1; have h3_ := N57.out; omega
     ·have h1_ := E25.out k_ e_.symm; have h2_ := hk_.2.1; have h3_ := N57.out; omega
     ·have h1_ := E45.out k_ e_.symm; have h2_ := hk_.2.1; omega
    ·exact Below.setCell (p := ⟨g6, 5, none⟩) (Below.setCell (p := ⟨g6, 4, none⟩) (Below.setCell (p := ⟨g6, 3, none⟩) (Below.setCell (p := ⟨g6, 2, none⟩) (Below.setCell (p := ⟨g6, 1, none⟩) (Below.setCell (p := ⟨g6, 0, none⟩) (HB.out) GW6.out (.slice A0 y.f0.length c0)) GW6.out (.slice A1 y.f1.length c1)) GW6.out (.slice A2 C.length c2)) GW6.out (.int .i64 0)) GW6.out (.slice A4 O.length c4)) GW6.out (.slice VK pcs.length ck)
end Go.Proofs.Ytnplghcbdaiogaa.RS
end
section
namespace Go.Proofs.Ytnplghcbdaiogaa.QX
open Go.RowKit Go.Proofs.YtnplghcbdaiogaaW.PrintWords Go.Proofs.YtnplghcbdaiogaaW.PrintLast Go.Proofs.YtnplghcbdaiogaaW.PrintMore Go.Proofs.Ytnplghcbdaiogaa.PA Go.Proofs.Ytnplghcbdaiogaa.QW
attribute [local go_sem] max2_int min2_int max_two min_two max_three min_three max_four min_four
set_option linter.unusedVariables false
set_option maxHeartbeats 4000000
set_option maxRecDepth 100000
def Post95 (n : Nat) (w : World) (R : Option (T × Nat)) (e : Ending) (w' : World) : Prop := match R with
 | none => e = .returned (.tuple #[.pointer none, .int .i64 (-1)]) ∧ Below w.heap.size w w'
 | some (t, nx) => ∃ x : S95, e = .returned (.tuple #[.pointer (some ⟨x.adr, 0, none⟩), .int .i64 (nx : Int)]) ∧ er95 x = t ∧ k95p.M w' w.heap.size (fun _ => True) x [.pointer (some ⟨x.adr, 0, none⟩)] ∧ Below w.heap.size w w'
def readS.T4 : Bool × List (List Nat × List Nat) := (true, [([], []), ([], []), ([1], [1]), ([0, 2], [0, 2]), ([], []), ([], []), ([5], [5]), ([4, 6, 3], [4, 6]), ([3, 7], [3, 7]), ([8], [8]), ([9, 7, 0, 1, 2, 3, 4, 5, 6, 7, 8, 9], [9])])
def readS.B4 : List Nat := [0, 0, 2, 7, 0, 0, 32, 127, 255, 511, 1023]
theorem readS.tab4 : rtab .any (opsOf Try.f54 4) = readS.T4 := by kernel_rfl
theorem readS.bits4 : waitsOk readS.T4.2 readS.B4 = true := by kernel_rfl
theorem readS (ps : List S97) (hG : Sml ps) (A : Option Addr) (c : Nat) (hc : ps.length ≤ c) : ∀ (n at_ : Nat) (dp : Int) (w : World), (n : Int) + dp = 11 → 0 ≤ dp → Kd.C k97 w A ps.length ps →
  Calls Try.prog 54 #[.agg #[.slice A ps.length c], .int .i64 (at_ : Int), .int .i64 dp] w fun e w' => Post95 n w (readF ps n at_) e w' := by
 intro n
 induction n with
 | zero =>
  intro at_ dp w hn hd hC
  have HG := zA hG
  have HC := zA hC
  have HB := zA (Below.refl w.heap.size w)
  clear hG hC
  have hu30 := Try.underlying30
  have b2 : decide (10 < dp) = true := decide_eq_true (by omega)
  have b3 : decide (dp > 10) = true := decide_eq_true (by omega)
  have R := zA (show readF ps 0 at_ = none from rfl)
  by_cases h : at_ < ps.length
  ·have b1 : decide ((ps.length : Int) ≤ (at_ : Int)) = false := decide_eq_false (by omega)
   go_enter Try.func54, Try.ntmps54
   go_wp2_with (first | ((with_reducible refine gate_dst (N := 3) rfl ?_); refine box_event ?hg (N := 3) ?hd (cs := #[.slice A ps.length c]) (t := 30) ?hr ?_; (case hd => rfl); (case hg => rfl); (case hr => first | (go_simp; done) | (go_simp; rfl)); intro gb3 hg w3 hbox hb; have n0_ := zA (zAD HB.out hb); have BK3 := zA hbox; have GW3 := zA (by rw [hg]; exact Nat.le_refl _ : w.heap.size ≤ gb3); clear HB; have HB := n0_; clear n0_ hb hbox hg; have hx3 : w3.cell? ⟨gb3, 0, none⟩ = some (.slice A ps.length c) := (zP BK3.out 0).trans rfl))
   go_ret2
   exact (show Post95 0 w (readF ps 0 at_) _ _ from (by rw [R.out]; exact ⟨by first | rfl | (simp <;> rfl), HB.out⟩))
  ·have b1 : decide ((ps.length : Int) ≤ (at_ : Int)) = true := decide_eq_true (by omega)
   go_enter Try.func54, Try.ntmps54
   go_wp2_with (first | ((with_reducible refine gate_dst (N := 3) rfl ?_); refine box_event ?hg (N := 3) ?hd (cs := #[.slice A ps.length c]) (t := 30) ?hr ?_; (case hd => rfl); (case hg => rfl); (case hr => first | (go_simp; done) | (go_simp; rfl)); intro gb3 hg w3 hbox hb; have n0_ := zA (zAD HB.out hb); have BK3 := zA hbox; have GW3 := zA (by rw [hg]; exact Nat.le_refl _ : w.heap.size ≤ gb3); clear HB; have HB := n0_; clear n0_ hb hbox hg; have hx3 : w3.cell? ⟨gb3, 0, none⟩ = some (.slice A ps.length c) := (zP BK3.out 0).trans rfl))
   go_ret2
   exact (show Post95 0 w (readF ps 0 at_) _ _ from (by rw [R.out]; exact ⟨by first | rfl | (simp <;> rfl), HB.out⟩))
 | succ n ih =>
  intro at_ dp w hn hd hC
  have HG := zA hG
  have HC := zA hC
  have HB := zA (Below.refl w.heap.size w)
  have hu30 := Try.underlying30
  have hu97 := Try.underlying97
  have hu95 := Try.underlying95
  have b2 : decide (10 < dp) = false := decide_eq_false (by omega)
  have b3 : decide (dp > 10) = false := decide_eq_false (by omega)
  by_cases h : at_ < ps.length
  ·obtain ⟨z, hz⟩ : ∃ z : Int, z = (at_ : Int) := ⟨_, rfl⟩
   rw [← hz]
   have b1 : decide ((ps.length : Int) ≤ z) = false := decide_eq_false (by omega)
   have b4 : decide (z < (ps.length : Int)) = true := decide_eq_true (by omega)
   have b5 : decide (0 ≤ z) = true := decide_eq_true (by omega)
   have b6 : (0 ≤ z) = True := eq_true (by omega)
   have b7 : (z < (ps.length : Int)) = True := eq_true (by omega)
   obtain ⟨ad, A0, c0, A1, c1, A2, c2, eA, hy0, hy1, hy2, l0, g0, l1, g1, l2, g2⟩ := at_T97 hC z (by omega) (by omega)
   subst eA
   have ep : ps[at_]? = some (rd_T97 ps z) := by
    unfold rd_T97
    rw [hz, Int.toNat_natCast, List.getD_eq_getElem?_getD, List.getElem?_eq_getElem h]; rfl
   obtain ⟨p, hp⟩ : ∃ p, p = rd_T97 ps z := ⟨_, rfl⟩
   rw [← hp] at ep hy0 hy1 hy2 l0 g0 l1 g1 l2 g2
   have HZ := zA hz
   have HH := zA h
   clear hz h
   have HP := zA ep
   have HX0 := zA hy0
   have HX1 := zA hy1
   have HX2 := zA hy2
   have HL0 := zA l0
   have HR0 := zA g0
   have HL1 := zA l1
   have HR1 := zA g1
   have HL2 := zA l2
   have HR2 := zA g2
   clear hp ep hy0 hy1 hy2 l0 g0 l1 g1 l2 g2 hG hC
   go_enter Try.func54, Try.ntmps54
   go_wp2_with (first | ((with_reducible refine gate_dst (N := 3) rfl ?_); refine box_event ?hg (N := 3) ?hd (cs := #[.slice (some ad) ps.length c]) (t := 30) ?hr ?_; (case hd => rfl); (case hg => rfl); (case hr => first | (go_simp; done) | (go_simp; rfl)); intro gb3 hg w3 hbox hb; have n0_ := zA (zAD HB.out hb); have BK3 := zA hbox; have GW3 := zA (by rw [hg]; exact Nat.le_refl _ : w.heap.size ≤ gb3); clear HB; have HB := n0_; clear n0_ hb hbox hg; have hx3 : w3.cell? ⟨gb3, 0, none⟩ = some (.slice (some ad) ps.length c) := (zP BK3.out 0).trans rfl; have hx0 := (HB.out.cell (zB w _ HX0.out)).trans HX0.out; have hx1 := (HB.out.cell (zB w _ HX1.out)).trans HX1.out; have hx2 := (HB.out.cell (zB w _ HX2.out)).trans HX2.out))
   obtain ⟨gb8, hg8⟩ : ∃ g, g = w3.heap.size := ⟨_, rfl⟩
   obtain ⟨w4, hw4⟩ : ∃ z, z = w3.alloc (Obj.cells #[.slice A0 p.f0.length c0, .slice A1 p.f1.length c1, .slice A2 p.f2.length c2] 97 (0, 0)) := ⟨_, rfl⟩
   have BK8 := zA (show w4.drew.heap[gb8]? = some (.cells #[.slice A0 p.f0.length c0, .slice A1 p.f1.length c1, .slice A2 p.f2.length c2] 97 (0, 0)) from by rw [hw4, hg8]; exact zN (blk_new _ _))
   have GW8 := zA (show w.heap.size ≤ gb8 from by rw [hg8]; exact zAE HB.out)
   have n0_ := zA (show w4.drew.heap[gb3]? = some (.cells #[.slice (some ad) ps.length c] 30 (0, 0)) from by rw [hw4]; exact zN (zM BK3.out _))
   have n1_ := zA (show Below w.heap.size w w4.drew from by rw [hw4]; exact zG (zH HB.out _))
   rw [← hg8, ← hw4]
   clear BK3 HB hx3 hx0 hx1 hx2 hg8 hw4
   have BK3 := n0_
   have HB := n1_
   clear n0_ n1_
   refine start_ (n := 11) (S := fun w' => w'.cell? ⟨gb8, 0, none⟩ = some (.slice A0 p.f0.length c0) ∧ w'.cell? ⟨gb8, 1, none⟩ = some (.slice A1 p.f1.length c1)) (ds := []) (bA 11 0) (by kernel_rfl) rfl rfl ⟨(zP BK8.out 0).trans rfl, (zP BK8.out 1).trans rfl⟩ (fun hHeld => ?_)
   refine with_tabW readS.tab4 readS.bits4 (fun HT_ HW_ => ?_)
   generalize w4.drew = w5 at BK3 BK8 HB hHeld ⊢
   refine wzP 1 30 (bA 11 2) HT_ ?_
   refine wzP 5 34 (bA 11 34) HT_ ?_
   refine wzT 2 31 (bA 11 38) HT_ HW_ hHeld ?_
   refine wzT 6 35 (bA 11 102) HT_ HW_ hHeld ?_
   have HLN := zA (show p.f0.length < 1099511627776 ∧ p.f1.length < 1099511627776 ∧ p.f2.length < 1099511627776 from HG.out.2 p (List.mem_of_getElem? HP.out))
   refine join_ (σ := Value × Value × Value) 4 (bA 11 127) (fun s_ => [(29, s_.1), (32, s_.2.1), (33, s_.2.2)]) (fun s_ w' => (w'.cell? ⟨gb8, 0, none⟩ = some (.slice A0 p.f0.length c0) ∧ w'.cell? ⟨gb8, 1, none⟩ = some (.slice A1 p.f1.length c1)) ∧ Kd.R Kd.string 9 w' w.heap.size (fun k_ => some k_ ≠ (s_.2.2 : Value).ownBlock) s_.2.1 p.f0 ∧ Kd.R Kd.string 9 w' w.heap.size (fun _ => True) s_.2.2 [] ∧ (w'.heap[gb3]? = some (.cells #[.slice (some ad) ps.length c] 30 (0, 0))) ∧ (w'.heap[gb8]? = some (.cells #[.slice A0 p.f0.length c0, .slice A1 p.f1.length c1, .slice A2 p.f2.length c2] 97 (0, 0))) ∧ Below w.heap.size w w') ?_ ?_; rotate_left
   ·intro hJ1
    refine join_ (σ := Value × Value) 5 (bA 11 119) (fun s_ => [(29, s_.1), (33, s_.2)]) (fun s_ w' => (w'.cell? ⟨gb8, 0, none⟩ = some (.slice A0 p.f0.length c0) ∧ w'.cell? ⟨gb8, 1, none⟩ = some (.slice A1 p.f1.length c1)) ∧ Kd.R Kd.string 9 w' w.heap.size (fun k_ => some k_ ≠ (s_.2 : Value).ownBlock) s_.1 [] ∧ Kd.R Kd.string 9 w' w.heap.size (fun k_ => some k_ ≠ (s_.1 : Value).ownBlock) s_.2 [] ∧ (w'.heap[gb3]? = some (.cells #[.slice (some ad) ps.length c] 30 (0, 0))) ∧ (w'.heap[gb8]? = some (.cells #[.slice A0 p.f0.length c0, .slice A1 p.f1.length c1, .slice A2 p.f2.length c2] 97 (0, 0))) ∧ Below w.heap.size w w') ?_ ?_; rotate_left
    ·intro hJ2
     refine two_ (i := 0) (j := 4) (Ni := some 29) (Nj := some 33) (bA 11 103) (bA 11 118) rfl rfl rfl rfl (two_of HT_.out (by kernel_rfl)) (by decide) (by decide) (fun K hK => ?_) (fun K hK => ?_)
     ·skip
      refine Kd.R_lit_step Kd.string _ 9 ?hg (N := 29) ?hd (xs := ([] : List ByteArray)) (inner := []) (ok := fun _ => True) (okp := fun _ => True) ?hr ?hp (fun _ hk => hk) trivial (Below.refl _ _) (Nat.le_refl _) (by simp) ?_; (case hd => rfl); (case hg => rfl); (case hr => first | (go_simp; done) | (go_simp; rfl)); (case hp => exact (Reps.none _ _)); intro v29 w6 ho hb hg_ hnew_; clear hg_ hnew_
      have n0_ := zA (Kd.R_lower ho (zAE HB.out)); have n1_ := zA (blk_below BK3.out hb); have n2_ := zA (blk_below BK8.out hb); have n3_ := zA (zAD HB.out hb); clear BK3 BK8 HB ho hb; have BK3 := n1_; have BK8 := n2_; have HB := n3_; clear n1_ n2_ n3_
      have HO29 := n0_
      clear n0_
      refine hK.out _ _ ⟨(zP BK8.out 0).trans rfl, (zP BK8.out 1).trans rfl⟩ (fun hHeld => ?_); clear hK K; refine wzN 29 ?_
      refine two_ (i := 3) (j := 4) (Ni := some 32) (Nj := some 33) (bA 11 111) (bA 11 119) rfl rfl rfl rfl (two_of HT_.out (by kernel_rfl)) (by decide) (by decide) (fun K hK => ?_) (fun K hK => ?_)
      ·skip
       refine Kd.R_append_rows_step Kd.string (w0 := w) w.heap.size (by rfl) (.tmp 29) (.tmp 31) 41 9 (.string ⟨#[]⟩) 16 rfl Try.underlying41 info9 rfl (by decide) (by omega) v29 [] p.f0 A0 p.f0.length c0 (fun _ => True) (fun _ => False) rfl rfl ?aO ?aR (fun _ _ h => h) (fun _ h => h.elim) ?aF ?aB ?aS ?aL ?_
       (case aR => exact (Kd.C_below HR0.out HB.out)); (case aB => exact HB.out); (case aF => exact (fun _ _ => trivial)); (case aO => exact HO29.out); (case aS => exact (zAE HB.out)); (case aL => have := HLN.out; simp only [List.length_nil]; omega)
       intro v32 w7 ho hb hg hat
       rw [List.nil_append] at ho
       have n0_ := zA (blk_grown BK3.out hg (Kd.R_ne HO29.out BK3.out (by decide)))
       have n1_ := zA (blk_grown BK8.out hg (Kd.R_ne HO29.out BK8.out (by decide)))
       clear BK3 BK8 HB HO29
       have BK3 := n0_
       have BK8 := n1_
       have HB := zA hb
       have HO32 := zA ho
       clear n0_ n1_ hb ho hg hat
       refine hK.out _ _ ⟨(zP BK8.out 0).trans rfl, (zP BK8.out 1).trans rfl⟩ (fun hHeld => ?_); clear hK K; refine wzN 32 ?_
       refine one_ (i := 4) (N := some 33) (bA 11 127) rfl rfl (one_of HT_.out (by kernel_rfl)) (by decide) (fun K hK => ?_)
       refine Kd.R_lit_step Kd.string _ 9 ?hg (N := 33) ?hd (xs := ([] : List ByteArray)) (inner := []) (ok := fun _ => True) (okp := fun _ => True) ?hr ?hp (fun _ hk => hk) trivial (Below.refl _ _) (Nat.le_refl _) (by simp) ?_; (case hd => rfl); (case hg => rfl); (case hr => first | (go_simp; done) | (go_simp; rfl)); (case hp => exact (Reps.none _ _)); intro v33 w8 ho hb hg_ hnew_; clear hg_ hnew_
       have m0_ := zA (Kd.R_elder' HO32.out (Kd.R_base ho) hb)
       have n0_ := zA (Kd.R_lower ho (zAE HB.out)); have n1_ := zA (blk_below BK3.out hb); have n2_ := zA (blk_below BK8.out hb); have n3_ := zA (zAD HB.out hb); clear BK3 BK8 HB ho hb; have BK3 := n1_; have BK8 := n2_; have HB := n3_; clear n1_ n2_ n3_
       have HO33 := n0_
       clear n0_ HO32
       have HO32 := m0_
       refine hK.out _ _ ⟨(zP BK8.out 0).trans rfl, (zP BK8.out 1).trans rfl⟩ (fun hHeld => ?_); clear hK K; refine wzN 33 ?_
       exact norm_ (by simp only [putAll, Act.put, zC, zD, zE] <;> rfl) (hJ1 (v29, v32, v33) _ ⟨hHeld, Kd.R_mono HO32.out (fun _ hk => hk.2), HO33.out, BK3.out, BK8.out, HB.out⟩)
      ·skip
       refine Kd.R_lit_step Kd.string _ 9 ?hg (N := 33) ?hd (xs := ([] : List ByteArray)) (inner := []) (ok := fun _ => True) (okp := fun _ => True) ?hr ?hp (fun _ hk => hk) trivial (Below.refl _ _) (Nat.le_refl _) (by simp) ?_; (case hd => rfl); (case hg => rfl); (case hr => first | (go_simp; done) | (go_simp; rfl)); (case hp => exact (Reps.none _ _)); intro v33 w7 ho hb hg_ hnew_; clear hg_ hnew_
       have m0_ := zA (Kd.R_elder' HO29.out (Kd.R_base ho) hb)
       have m1_ := zA (Kd.R_lower (Kd.R_new' ho (Kd.R_lt HO29.out)) (zAE HB.out))
       have n0_ := zA (Kd.R_lower ho (zAE HB.out)); have n1_ := zA (blk_below BK3.out hb); have n2_ := zA (blk_below BK8.out hb); have n3_ := zA (zAD HB.out hb); clear BK3 BK8 HB ho hb; have BK3 := n1_; have BK8 := n2_; have HB := n3_; clear n1_ n2_ n3_
       clear n0_ HO29
       have HO29 := m0_
       have HO33 := m1_
       clear m0_ m1_
       refine hK.out _ _ ⟨(zP BK8.out 0).trans rfl, (zP BK8.out 1).trans rfl⟩ (fun hHeld => ?_); clear hK K; refine wzN 33 ?_
       exact norm_ (by simp only [putAll, Act.put, zC, zD, zE] <;> rfl) (hJ2 (v29, v33) _ ⟨hHeld, Kd.R_mono HO29.out (fun _ hk => hk.2), Kd.R_mono HO33.out (fun _ hk => hk.2), BK3.out, BK8.out, HB.out⟩)
     ·skip
      refine Kd.R_lit_step Kd.string _ 9 ?hg (N := 33) ?hd (xs := ([] : List ByteArray)) (inner := []) (ok := fun _ => True) (okp := fun _ => True) ?hr ?hp (fun _ hk => hk) trivial (Below.refl _ _) (Nat.le_refl _) (by simp) ?_; (case hd => rfl); (case hg => rfl); (case hr => first | (go_simp; done) | (go_simp; rfl)); (case hp => exact (Reps.none _ _)); intro v33 w6 ho hb hg_ hnew_; clear hg_ hnew_
      have n0_ := zA (Kd.R_lower ho (zAE HB.out)); have n1_ := zA (blk_below BK3.out hb); have n2_ := zA (blk_below BK8.out hb); have n3_ := zA (zAD HB.out hb); clear BK3 BK8 HB ho hb; have BK3 := n1_; have BK8 := n2_; have HB := n3_; clear n1_ n2_ n3_
      have HO33 := n0_
      clear n0_
      refine hK.out _ _ ⟨(zP BK8.out 0).trans rfl, (zP BK8.out 1).trans rfl⟩ (fun hHeld => ?_); clear hK K; refine wzN 33 ?_
      refine one_ (i := 0) (N := some 29) (bA 11 119) rfl rfl (one_of HT_.out (by kernel_rfl)) (by decide) (fun K hK => ?_)
      refine Kd.R_lit_step Kd.string _ 9 ?hg (N := 29) ?hd (xs := ([] : List ByteArray)) (inner := []) (ok := fun _ => True) (okp := fun _ => True) ?hr ?hp (fun _ hk => hk) trivial (Below.refl _ _) (Nat.le_refl _) (by simp) ?_; (case hd => rfl); (case hg => rfl); (case hr => first | (go_simp; done) | (go_simp; rfl)); (case hp => exact (Reps.none _ _)); intro v29 w7 ho hb hg_ hnew_; clear hg_ hnew_
      have m0_ := zA (Kd.R_elder' HO33.out (Kd.R_base ho) hb)
      have m1_ := zA (Kd.R_lower (Kd.R_new' ho (Kd.R_lt HO33.out)) (zAE HB.out))
      have n0_ := zA (Kd.R_lower ho (zAE HB.out)); have n1_ := zA (blk_below BK3.out hb); have n2_ := zA (blk_below BK8.out hb); have n3_ := zA (zAD HB.out hb); clear BK3 BK8 HB ho hb; have BK3 := n1_; have BK8 := n2_; have HB := n3_; clear n1_ n2_ n3_
      clear n0_ HO33
      have HO33 := m0_
      have HO29 := m1_
      clear m0_ m1_
      refine hK.out _ _ ⟨(zP BK8.out 0).trans rfl, (zP BK8.out 1).trans rfl⟩ (fun hHeld => ?_); clear hK K; refine wzN 29 ?_
      exact norm_ (by simp only [putAll, Act.put, zC, zD, zE] <;> rfl) (hJ2 (v29, v33) _ ⟨hHeld, Kd.R_mono HO29.out (fun _ hk => hk.2), Kd.R_mono HO33.out (fun _ hk => hk.2), BK3.out, BK8.out, HB.out⟩)
    ·rintro ⟨v29, v33⟩ w6 ⟨hS, h29, h33, h3, h8, hb⟩
     clear BK3 BK8 HB hHeld
     have BK3 := zA h3
     have BK8 := zA h8
     have HB := zA hb
     have HO29 := zA h29
     have HO33 := zA h33
     have hHeld := hS
     clear h3 h8 hb h29 h33 hS
     refine norm_ (a' := ?_) ?_ ?_; rotate_left
     ·simp only [putAll, Act.put, zC, zD, zE]
      rfl
     refine one_ (i := 3) (N := some 32) (bA 11 127) rfl rfl (one_of HT_.out (by kernel_rfl)) (by decide) (fun K hK => ?_)
     refine Kd.R_append_rows_step Kd.string (w0 := w) w.heap.size (by rfl) (.tmp 29) (.tmp 31) 41 9 (.string ⟨#[]⟩) 16 rfl Try.underlying41 info9 rfl (by decide) (by omega) v29 [] p.f0 A0 p.f0.length c0 (fun k_ => some k_ ≠ (v33 : Value).ownBlock) (fun _ => False) rfl rfl ?aO ?aR (fun _ _ h => h) (fun _ h => h.elim) ?aF ?aB ?aS ?aL ?_
     (case aR => exact (Kd.C_below HR0.out HB.out)); (case aB => exact HB.out); (case aF => exact Kd.fresh_ok HO33.out); (case aO => exact HO29.out); (case aS => exact (zAE HB.out)); (case aL => have := HLN.out; simp only [List.length_nil]; omega)
     intro v32 w7 ho hb hg hat
     rw [List.nil_append] at ho
     have n0_ := zA (blk_grown BK3.out hg (Kd.R_ne HO29.out BK3.out (by decide)))
     have n1_ := zA (blk_grown BK8.out hg (Kd.R_ne HO29.out BK8.out (by decide)))
     have n2_ := zA (Kd.R_after (ok := fun _ => True) (Kd.R_mono HO33.out (fun _ hk => ⟨trivial, hk⟩)) hg hat)
     clear BK3 BK8 HB HO29 HO33
     have BK3 := n0_
     have BK8 := n1_
     have HO33 := n2_
     have HB := zA hb
     have HO32 := zA ho
     clear n0_ n1_ n2_ hb ho hg hat
     refine hK.out _ _ ⟨(zP BK8.out 0).trans rfl, (zP BK8.out 1).trans rfl⟩ (fun hHeld => ?_); clear hK K; refine wzN 32 ?_
     exact norm_ (by simp only [putAll, Act.put, zC, zD, zE] <;> rfl) (hJ1 (v29, v32, v33) _ ⟨hHeld, HO32.out, Kd.R_mono HO33.out (fun _ hk => trivial), BK3.out, BK8.out, HB.out⟩)
   ·rintro ⟨v29, v32, v33⟩ w6 ⟨hS, h32, h33, h3, h8, hb⟩
    clear BK3 BK8 HB hHeld
    have BK3 := zA h3
    have BK8 := zA h8
    have HB := zA hb
    have HO32 := zA h32
    have HO33 := zA h33
    have hHeld := hS
    clear h3 h8 hb h32 h33 hS
    refine norm_ (a' := ?_) ?_ ?_; rotate_left
    ·simp only [putAll, Act.put, zC, zD, zE]
     rfl
    refine one_ (i := 7) (N := some 36) (bA 11 255) rfl rfl (one_of HT_.out (by kernel_rfl)) (by decide) (fun K hK => ?_)
    refine Kd.R_append_rows_step Kd.string (w0 := w) w.heap.size (by rfl) (.tmp 33) (.tmp 35) 41 9 (.string ⟨#[]⟩) 16 rfl Try.underlying41 info9 rfl (by decide) (by omega) v33 [] p.f1 A1 p.f1.length c1 (fun _ => True) (fun _ => False) rfl rfl ?aO ?aR (fun _ _ h => h) (fun _ h => h.elim) ?aF ?aB ?aS ?aL ?_
    (case aR => exact (Kd.C_below HR1.out HB.out)); (case aB => exact HB.out); (case aF => exact (fun _ _ => trivial)); (case aO => exact HO33.out); (case aS => exact (zAE HB.out)); (case aL => have := HLN.out; simp only [List.length_nil]; omega)
    intro v36 w7 ho hb hg hat
    rw [List.nil_append] at ho
    have n0_ := zA (blk_grown BK3.out hg (Kd.R_ne HO33.out BK3.out (by decide)))
    have n1_ := zA (blk_grown BK8.out hg (Kd.R_ne HO33.out BK8.out (by decide)))
    have n2_ := zA (Kd.R_after (ok := fun _ => True) (Kd.R_mono HO32.out (fun _ hk => ⟨trivial, hk⟩)) hg hat)
    clear BK3 BK8 HB HO32 HO33
    have BK3 := n0_
    have BK8 := n1_
    have HO32 := n2_
    have HB := zA hb
    have HO36 := zA ho
    clear n0_ n1_ n2_ hb ho hg hat
    obtain ⟨A32, c32, eo⟩ := Kd.R_slice HO32.out
    subst eo
    obtain ⟨A36, c36, eo⟩ := Kd.R_slice HO36.out
    subst eo
    refine hK.out _ _ ⟨(zP BK8.out 0).trans rfl, (zP BK8.out 1).trans rfl⟩ (fun hHeld => ?_); clear hK K; refine wzN 36 ?_
    refine wzP 8 37 (bA 11 511) HT_ ?_
    refine one_ (i := 9) (N := some 38) (bA 11 1023) rfl rfl (one_of HT_.out (by kernel_rfl)) (by decide) (fun K hK => ?_)
    refine box_step ?hg (N := 38) ?hd (cs := #[.slice A32 p.f0.length c32, .slice A36 p.f1.length c36, .slice none 0 0]) (t := 95) ?hr ?_; (case hd => rfl); (case hg => rfl); (case hr => first | (go_simp; done) | (go_simp; rfl))
    intro gb9 hg w8 hbox hb
    have n0_ := zA (Kd.R_below (Kd.R_mono HO32.out (fun _ _ => trivial) : Kd.R Kd.string 9 w7 w.heap.size (fun _ => True) (.slice A32 p.f0.length c32) p.f0) hb)
    have n1_ := zA (Kd.R_below HO36.out hb)
    have n2_ := zA (blk_below BK3.out hb)
    have n3_ := zA (blk_below BK8.out hb)
    have n4_ := zA (zAD HB.out hb)
    have GW9 := zA (by rw [hg]; exact zAE HB.out : w.heap.size ≤ gb9)
    have NB39 := zA (by rw [hg]; exact zK (blk_lt BK3.out) : gb3 ≠ gb9)
    have NB89 := zA (by rw [hg]; exact zK (blk_lt BK8.out) : gb8 ≠ gb9)
    clear BK3 BK8 HB HO32 HO36 hb hg
    have HO32 := n0_
    have HO36 := n1_
    have BK3 := n2_
    have BK8 := n3_
    have HB := n4_
    have BK9 := zA hbox
    clear n0_ n1_ n2_ n3_ n4_ hbox
    refine hK.out _ _ ⟨(zP BK8.out 0).trans rfl, (zP BK8.out 1).trans rfl⟩ (fun hHeld => ?_); clear hK K; refine wzN 38 ?_
    refine wzP 10 9 (bA 11 2047) HT_ ?_
    refine done_ (done_of HT_.out (by kernel_rfl)) ?_
    clear hHeld HT_ HW_
    have hz0 : w8.cell? ⟨gb8, 0, none⟩ = some (.slice A0 p.f0.length c0) := (zP BK8.out 0).trans rfl
    have hz1 : w8.cell? ⟨gb8, 1, none⟩ = some (.slice A1 p.f1.length c1) := (zP BK8.out 1).trans rfl
    have hz2 : w8.cell? ⟨gb8, 2, none⟩ = some (.slice A2 p.f2.length c2) := (zP BK8.out 2).trans rfl
    have hw1 : wrap64 ((p.f0.length : Int) + 1) = ((p.f0.length + 1 : Nat) : Int) := by have := HLN.out; unfold wrap64; omega
    have hw2 : wrap64 (z + 1) = ((at_ + 1 : Nat) : Int) := by have := HG.out.1; have := HZ.out; have := HH.out; unfold wrap64; omega
    by_cases k1 : p.f0.length ≤ 4
    ·have e1 : decide ((4 : Int) < (p.f0.length : Int)) = false := decide_eq_false (by omega)
     have e1' : decide (4 < p.f0.length) = false := decide_eq_false (by omega)
     have K1 := zA k1
     clear k1
     by_cases k2 : p.f1.length = p.f0.length
     ·have e2 : (((p.f1.length : Int)) != (p.f0.length : Int)) = false := bne_eq_false_iff_eq.mpr (by omega)
      have e2' : (p.f1.length != p.f0.length) = false := bne_eq_false_iff_eq.mpr k2
      have e2'' : (p.f1.length == p.f0.length) = true := beq_iff_eq.mpr k2
      have K2 := zA k2
      clear k2
      by_cases k3 : p.f2.length = 0
      ·have e3 : (((p.f2.length : Int)) != 0) = false := bne_eq_false_iff_eq.mpr (by omega)
       have e3' : (p.f2.length != 0) = false := bne_eq_false_iff_eq.mpr k3
       have K3 := zA k3
       clear k3
       have RR := zA (show readF ps (n + 1) at_ = (match readK (readF ps n) p.f2 (at_ + 1) with | none => none | some (l, e) => some (⟨p.f0, p.f1, l⟩, e)) from by rw [readF, HP.out]; exact if_pos ⟨K1.out, K2.out, .inl K3.out⟩)
       go_wp2
       have HW2 := zA hw2
       clear hw2
       (try clear hw1); (try clear e1); (try clear e1'); (try clear e2); (try clear e2'); (try clear e2''); (try clear e3); (try clear e3'); (try clear e3''); (try clear e3d); (try clear e4); (try clear e4'); (try clear e4''); (try clear e4x); (try clear b1); (try clear b2); (try clear b3); (try clear b4); (try clear b5); (try clear b6); (try clear b7)
       go_loopg [10, 73] (p.f2.length + 1) (fun kq v10 v73 w' => ∃ (i nx : Nat) (kids : List S95) (vC : Value), v73 = .int .i64 (i : Int) ∧ v10 = .int .i64 (nx : Int) ∧ Aside0 (kq + i = p.f2.length + 1) ∧ Aside0 (i ≤ p.f2.length) ∧ Aside0 (readK (readF ps n) p.f2 (at_ + 1) = (match readK (readF ps n) (p.f2.drop i) nx with | none => none | some (l, e) => some (kids.map er95 ++ l, e))) ∧ Aside0 (kids.length = i) ∧ Aside0 (Kd.R Kd.string 9 w' w.heap.size (fun _ => True) (.slice A32 p.f0.length c32) p.f0) ∧ Aside0 (Kd.R Kd.string 9 w' w.heap.size (fun _ => True) (.slice A36 p.f1.length c36) p.f1) ∧ Aside0 (Kd.R k95p 54 w' w.heap.size (fun k => k ≠ gb9) vC kids) ∧ Aside0 (w'.heap[gb9]? = some (.cells #[.slice A32 p.f0.length c32, .slice A36 p.f1.length c36, vC] 95 (0, 0))) ∧ Aside0 (w'.heap[gb3]? = some (.cells #[.slice (some ad) ps.length c] 30 (0, 0))) ∧ Aside0 (Below w.heap.size w w'))
       case atStart => exact ⟨0, at_ + 1, [], .slice none 0 0, rfl, by first | rfl | (rw [HW2.out]; done), ⟨by omega⟩, ⟨by omega⟩, ⟨by rw [List.drop_zero]; cases readK (readF ps n) p.f2 (at_ + 1) with | none => rfl | some z => rfl⟩, ⟨rfl⟩, HO32, HO36, ⟨Kd.R_nil _ _ _ _ _⟩, BK9, BK3, HB⟩
       case round =>
        clear HO32 HO36 BK9 BK3 BK8 HB
        obtain ⟨i, nx, kids, vC, rfl, rfl, HK, HI, HRD, HKL, HO32, HO36, HOC, BK9, BK3, HB⟩ := hrel
        by_cases hi : i < p.f2.length
        ·obtain ⟨g1, rfl⟩ : ∃ g1, gk = g1 + 1 := ⟨gk - 1, by have := HK.out; omega⟩
         have q1 : ((i : Int) < (p.f2.length : Int)) = True := eq_true (by omega)
         have q2 : (i < p.f2.length) = True := eq_true hi
         have q3 : decide ((i : Int) < (p.f2.length : Int)) = true := decide_eq_true (by omega)
         obtain ⟨adk, ek, hk0⟩ := Kd.at_int HR2.out (i : Int) (by omega) (by omega)
         subst ek
         rw [Int.toNat_natCast] at hk0
         have hk1 := (HB.out.cell (zB w _ hk0)).trans hk0
         obtain ⟨kk, hkk⟩ : ∃ z, z = rd p.f2 (i : Int) := ⟨_, rfl⟩
         rw [← hkk] at hk0 hk1
         have ED : p.f2.drop i = kk :: p.f2.drop (i + 1) := by
          rw [List.drop_eq_getElem_cons hi, hkk]
          congr 1
          unfold rd
          rw [Int.toNat_natCast, List.getD_eq_getElem?_getD, List.getElem?_eq_getElem hi]; rfl
         have HED := zA ED
         have HKK := zA hkk
         clear ED hkk hk0
         by_cases ck : kk = (nx : Int)
         ·have c1 : (kk != (nx : Int)) = false := bne_eq_false_iff_eq.mpr ck
          have c2 : (kk == (nx : Int)) = true := beq_iff_eq.mpr ck
          have CK := zA ck
          have hI := ih nx (dp + 1) wr (by omega) (by omega) (Kd.C_below HC.out HB.out)
          have hw3 : wrap64 (dp + 1) = dp + 1 := by unfold wrap64; omega
          have hc3 : wr.cell? ⟨gb3, 0, none⟩ = some (.slice (some ad) ps.length c) := (zP BK3.out 0).trans rfl
          have HRK := zA (show readK (readF ps n) (p.f2.drop i) nx = (match readF ps n nx with | none => none | some (t, e) => (match readK (readF ps n) (p.f2.drop (i + 1)) e with | none => none | some (l, e') => some (t :: l, e'))) from by rw [HED.out, readK, if_pos CK.out]; rfl)
          cases hR : readF ps n nx with
          | none =>
           rw [hR] at hI HRK
           have HRR := zA (show readF ps (n + 1) at_ = none from by rw [RR.out, HRD.out, HRK.out])
           clear ck hR
           go_wp2_with (first | ((with_reducible refine gate_callee (f := 54) rfl ?_); refine goesL_ (some 85) rfl rfl Try.func54 (by kernel_rfl) rfl #[.agg #[.slice (some ad) ps.length c], .int .i64 (nx : Int), .int .i64 (dp + 1)] rfl (by (try simp only [zAA, zAB, zAC]); first | done | rfl) ?_; refine hI.mono ?_; rintro e w9 ⟨rfl, hb⟩; refine ⟨_, rfl, ?_⟩; have n0_ := zA (zAD HB.out hb); clear HB hb hc3; have HB := n0_; clear n0_))
           go_ret2
           exact (show Post95 (n + 1) w (readF ps (n + 1) at_) _ _ from (by rw [HRR.out]; exact ⟨by first | rfl | (simp <;> rfl), HB.out⟩))
          | some te =>
           obtain ⟨t, e1⟩ := te
           rw [hR] at hI HRK
           clear ck hR
           have c3 : decide ((e1 : Int) < 0) = false := decide_eq_false (by omega)
           go_wp2_with (first | ((with_reducible refine gate_callee (f := 54) rfl ?_); refine goesL_ (some 85) rfl rfl Try.func54 (by kernel_rfl) rfl #[.agg #[.slice (some ad) ps.length c], .int .i64 (nx : Int), .int .i64 (dp + 1)] rfl (by (try simp only [zAA, zAB, zAC]); first | done | rfl) ?_; refine hI.mono ?_; rintro e w9 ⟨x, rfl, hx1, hM, hb⟩; refine ⟨_, rfl, ?_⟩; have n0_ := zA (zAD HB.out hb); have n1_ := zA (blk_below BK3.out hb); have n2_ := zA (blk_below BK9.out hb); have n3_ := zA (Kd.R_below HO32.out hb); have n4_ := zA (Kd.R_below HO36.out hb); have n5_ := zA (Kd.R_below HOC.out hb); have HVL := zA (Kd.R_lt HOC.out); have HGL := zA (blk_lt BK9.out); have HWS := zA hb.size; have HWR := zA (zAE HB.out); have HXE := zA hx1; have HM := zA hM; clear HB BK3 BK9 HO32 HO36 HOC hb hc3 hx1 hM; have HB := n0_; have BK3 := n1_; have BK9 := n2_; have HO32 := n3_; have HO36 := n4_; have HOC := n5_; clear n0_ n1_ n2_ n3_ n4_ n5_; have hc9 : w9.cell? ⟨gb9, 2, none⟩ = some vC := (zP BK9.out 2).trans rfl) | ((with_reducible refine gate_builtin (b := .append) (xs := #[.tmp 94, .tmp 96]) rfl ?_); at_builtin; refine Kd.R_append k95p (w0 := w) w.heap.size rfl (.tmp 94) (.tmp 96) 93 54 (.pointer none) 8 rfl Try.underlying93 info54 rfl (by decide) (by omega) vC kids x [.pointer (some ⟨x.adr, 0, none⟩)] (fun k => k ≠ gb9) (fun k => True ∧ wr.heap.size ≤ k ∧ k < w9.heap.size ∧ ∃ q, q ∈ k95p.E ∧ ∃ cells, w9.heap[k]? = some (.cells cells q (0, 0))) rfl rfl ?aP ?aK ?aF ?aO ?aB ?aS ?aL ?_; (case aP => exact k95p.M_lower HWR.out (k95p.M_bound HM.out)); (case aK => exact (fun k hk => ⟨by have := HGL.out; omega, fun e => by have := HVL.out k e.symm; omega⟩)); (case aF => exact (fun k hk => by have := HGL.out; have := HWS.out; omega)); (case aO => exact HOC.out); (case aB => exact HB.out); (case aS => exact (zAE HB.out)); (case aL => have := HLN.out; have := HKL.out; omega); intro v97 w10 ho hb hg hat; obtain ⟨ys, hys⟩ : ∃ ys, ys = kids ++ [x] := ⟨_, rfl⟩; rw [← hys] at ho; have HYS := zA hys; clear hys; have n0_ := zA ho; have n1_ := zA hb; have n2_ := zA (blk_grown BK9.out hg (Kd.R_ne HOC.out BK9.out (by decide))); have n3_ := zA (blk_grown BK3.out hg (Kd.R_ne HOC.out BK3.out (by decide))); have n4_ := zA (Kd.R_mono (Kd.R_grown (R_apart HO32.out HOC.out (by decide)) hg (fun _ hk => hk.2)) (fun _ _ => trivial) : Kd.R Kd.string 9 w10 w.heap.size (fun _ => True) (.slice A32 p.f0.length c32) p.f0); have n5_ := zA (Kd.R_mono (Kd.R_grown (R_apart HO36.out HOC.out (by decide)) hg (fun _ hk => hk.2)) (fun _ _ => trivial) : Kd.R Kd.string 9 w10 w.heap.size (fun _ => True) (.slice A36 p.f1.length c36) p.f1); clear HB BK3 BK9 HO32 HO36 HOC hc9 ho hb hg hat; have HOC := n0_; have HB := n1_; have BK9 := n2_; have BK3 := n3_; have HO32 := n4_; have HO36 := n5_; clear n0_ n1_ n2_ n3_ n4_ n5_; have hc10 : w10.cell? ⟨gb9, 2, none⟩ = some vC := (zP BK9.out 2).trans rfl; have hf10 := zO BK9.out 2; obtain ⟨A97, c97, eo⟩ := Kd.R_slice HOC.out; subst eo))
           go_roundg g1
           case measure => omega
           case rel => exact ⟨i + 1, e1, ys, _, by rw [w64N i (by have := HLN.out; omega)], rfl, ⟨by have := HK.out; omega⟩, ⟨by omega⟩, ⟨by
             rw [HRD.out, HRK.out]
             cases readK (readF ps n) (p.f2.drop (i + 1)) e1 with
             | none => rfl
             | some z =>
              show some (kids.map er95 ++ (t :: z.1), z.2) = some (ys.map er95 ++ z.1, z.2)
              rw [HYS.out, List.map_append, List.append_assoc, ← HXE.out]; rfl⟩, ⟨by rw [HYS.out, List.length_append, HKL.out]; rfl⟩,
            ⟨Kd.R_set HO32.out BK9.out (by decide) 2 _⟩, ⟨Kd.R_set HO36.out BK9.out (by decide) 2 _⟩, ⟨Kd.R_far (p := ⟨gb9, 2, none⟩) HOC.out (fun _ hk => hk) _⟩, ⟨blk_put BK9.out 2 _ rfl⟩, ⟨blk_far BK3.out NB39.out _⟩, ⟨zI HB.out GW9.out⟩⟩
         ·have c1 : (kk != (nx : Int)) = true := bne_iff_ne.mpr ck
          have c2 : (kk == (nx : Int)) = false := beq_eq_false_iff_ne.mpr ck
          have CK := zA ck
          have HRR := zA (show readF ps (n + 1) at_ = none from by rw [RR.out, HRD.out, HED.out, readK, if_neg CK.out])
          clear ck
          go_wp2
          go_ret2
          exact (show Post95 (n + 1) w (readF ps (n + 1) at_) _ _ from (by rw [HRR.out]; exact ⟨by first | rfl | (simp <;> rfl), HB.out⟩))
        ·have q3 : decide ((i : Int) < (p.f2.length : Int)) = false := decide_eq_false (by omega)
         have HRR := zA (show readF ps (n + 1) at_ = some (⟨p.f0, p.f1, kids.map er95⟩, nx) from by
          rw [RR.out, HRD.out, List.drop_eq_nil_of_le (by have := HI.out; omega), readK]
          show some (T.mk p.f0 p.f1 (kids.map er95 ++ []), nx) = _
          rw [List.append_nil])
         obtain ⟨A99, c99, eo⟩ := Kd.R_slice HOC.out
         subst eo
         go_wp2
         go_ret2
         exact (show Post95 (n + 1) w (readF ps (n + 1) at_) _ _ from (by
          rw [HRR.out]
          exact ⟨⟨gb9, p.f0, p.f1, kids⟩, by first | rfl | (simp <;> rfl), er95_eq _, k95p_mkM trivial GW9.out BK9.out (Kd.R_types HO32.out BK9.out (by decide)) (Kd.R_types HO36.out BK9.out (by decide)) (Kd.R_mono HOC.out (fun _ hk => ⟨trivial, hk⟩)), HB.out⟩))
      ·have e3 : (((p.f2.length : Int)) != 0) = true := bne_iff_ne.mpr (by omega)
       have e3' : (p.f2.length != 0) = true := bne_iff_ne.mpr k3
       have e3'' : ((p.f2.length : Int) == 0) = false := beq_eq_false_iff_ne.mpr (by omega)
       have e3d : (p.f2.length == 0) = false := beq_eq_false_iff_ne.mpr k3
       have K3 := zA k3
       clear k3
       by_cases k4 : p.f2.length = p.f0.length + 1
       ·have e4 : (((p.f2.length : Int)) != ((p.f0.length + 1 : Nat) : Int)) = false := bne_eq_false_iff_eq.mpr (by omega)
        have e4' : (p.f2.length != p.f0.length + 1) = false := bne_eq_false_iff_eq.mpr k4
        have e4'' : (p.f2.length == p.f0.length + 1) = true := beq_iff_eq.mpr k4
        have e4x : (((p.f2.length : Int)) != (p.f0.length : Int) + 1) = false := bne_eq_false_iff_eq.mpr (by omega)
        have K4 := zA k4
        clear k4
        have RR := zA (show readF ps (n + 1) at_ = (match readK (readF ps n) p.f2 (at_ + 1) with | none => none | some (l, e) => some (⟨p.f0, p.f1, l⟩, e)) from by rw [readF, HP.out]; exact if_pos ⟨K1.out, K2.out, .inr K4.out⟩)
        go_wp2
        have HW2 := zA hw2
        clear hw2
        (try clear hw1); (try clear e1); (try clear e1'); (try clear e2); (try clear e2'); (try clear e2''); (try clear e3); (try clear e3'); (try clear e3''); (try clear e3d); (try clear e4); (try clear e4'); (try clear e4''); (try clear e4x); (try clear b1); (try clear b2); (try clear b3); (try clear b4); (try clear b5); (try clear b6); (try clear b7)
        go_loopg [10, 73] (p.f2.length + 1) (fun kq v10 v73 w' => ∃ (i nx : Nat) (kids : List S95) (vC : Value), v73 = .int .i64 (i : Int) ∧ v10 = .int .i64 (nx : Int) ∧ Aside0 (kq + i = p.f2.length + 1) ∧ Aside0 (i ≤ p.f2.length) ∧ Aside0 (readK (readF ps n) p.f2 (at_ + 1) = (match readK (readF ps n) (p.f2.drop i) nx with | none => none | some (l, e) => some (kids.map er95 ++ l, e))) ∧ Aside0 (kids.length = i) ∧ Aside0 (Kd.R Kd.string 9 w' w.heap.size (fun _ => True) (.slice A32 p.f0.length c32) p.f0) ∧ Aside0 (Kd.R Kd.string 9 w' w.heap.size (fun _ => True) (.slice A36 p.f1.length c36) p.f1) ∧ Aside0 (Kd.R k95p 54 w' w.heap.size (fun k => k ≠ gb9) vC kids) ∧ Aside0 (w'.heap[gb9]? = some (.cells #[.slice A32 p.f0.length c32, .slice A36 p.f1.length c36, vC] 95 (0, 0))) ∧ Aside0 (w'.heap[gb3]? = some (.cells #[.slice (some ad) ps.length c] 30 (0, 0))) ∧ Aside0 (Below w.heap.size w w'))
        case atStart => exact ⟨0, at_ + 1, [], .slice none 0 0, rfl, by first | rfl | (rw [HW2.out]; done), ⟨by omega⟩, ⟨by omega⟩, ⟨by rw [List.drop_zero]; cases readK (readF ps n) p.f2 (at_ + 1) with | none => rfl | some z => rfl⟩, ⟨rfl⟩, HO32, HO36, ⟨Kd.R_nil _ _ _ _ _⟩, BK9, BK3, HB⟩
        case round =>
         clear HO32 HO36 BK9 BK3 BK8 HB
         obtain ⟨i, nx, kids, vC, rfl, rfl, HK, HI, HRD, HKL, HO32, HO36, HOC, BK9, BK3, HB⟩ := hrel
         by_cases hi : i < p.f2.length
         ·obtain ⟨g1, rfl⟩ : ∃ g1, gk = g1 + 1 := ⟨gk - 1, by have := HK.out; omega⟩
          have q1 : ((i : Int) < (p.f2.length : Int)) = True := eq_true (by omega)
          have q2 : (i < p.f2.length) = True := eq_true hi
          have q3 : decide ((i : Int) < (p.f2.length : Int)) = true := decide_eq_true (by omega)
          obtain ⟨adk, ek, hk0⟩ := Kd.at_int HR2.out (i : Int) (by omega) (by omega)
          subst ek
          rw [Int.toNat_natCast] at hk0
          have hk1 := (HB.out.cell (zB w _ hk0)).trans hk0
          obtain ⟨kk, hkk⟩ : ∃ z, z = rd p.f2 (i : Int) := ⟨_, rfl⟩
          rw [← hkk] at hk0 hk1
          have ED : p.f2.drop i = kk :: p.f2.drop (i + 1) := by
           rw [List.drop_eq_getElem_cons hi, hkk]
           congr 1
           unfold rd
           rw [Int.toNat_natCast, List.getD_eq_getElem?_getD, List.getElem?_eq_getElem hi]; rfl
          have HED := zA ED
          have HKK := zA hkk
          clear ED hkk hk0
          by_cases ck : kk = (nx : Int)
          ·have c1 : (kk != (nx : Int)) = false := bne_eq_false_iff_eq.mpr ck
           have c2 : (kk == (nx : Int)) = true := beq_iff_eq.mpr ck
           have CK := zA ck
           have hI := ih nx (dp + 1) wr (by omega) (by omega) (Kd.C_below HC.out HB.out)
           have hw3 : wrap64 (dp + 1) = dp + 1 := by unfold wrap64; omega
           have hc3 : wr.cell? ⟨gb3, 0, none⟩ = some (.slice (some ad) ps.length c) := (zP BK3.out 0).trans rfl
           have HRK := zA (show readK (readF ps n) (p.f2.drop i) nx = (match readF ps n nx with | none => none | some (t, e) => (match readK (readF ps n) (p.f2.drop (i + 1)) e with | none => none | some (l, e') => some (t :: l, e'))) from by rw [HED.out, readK, if_pos CK.out]; rfl)
           cases hR : readF ps n nx with
           | none =>
            rw [hR] at hI HRK
            have HRR := zA (show readF ps (n + 1) at_ = none from by rw [RR.out, HRD.out, HRK.out])
            clear ck hR
            go_wp2_with (first | ((with_reducible refine gate_callee (f := 54) rfl ?_); refine goesL_ (some 85) rfl rfl Try.func54 (by kernel_rfl) rfl #[.agg #[.slice (some ad) ps.length c], .int .i64 (nx : Int), .int .i64 (dp + 1)] rfl (by (try simp only [zAA, zAB, zAC]); first | done | rfl) ?_; refine hI.mono ?_; rintro e w9 ⟨rfl, hb⟩; refine ⟨_, rfl, ?_⟩; have n0_ := zA (zAD HB.out hb); clear HB hb hc3; have HB := n0_; clear n0_))
            go_ret2
            exact (show Post95 (n + 1) w (readF ps (n + 1) at_) _ _ from (by rw [HRR.out]; exact ⟨by first | rfl | (simp <;> rfl), HB.out⟩))
           | some te =>
            obtain ⟨t, e1⟩ := te
            rw [hR] at hI HRK
            clear ck hR
            have c3 : decide ((e1 : Int) < 0) = false := decide_eq_false (by omega)
            go_wp2_with (first | ((with_reducible refine gate_callee (f := 54) rfl ?_); refine goesL_ (some 85) rfl rfl Try.func54 (by kernel_rfl) rfl #[.agg #[.slice (some ad) ps.length c], .int .i64 (nx : Int), .int .i64 (dp + 1)] rfl (by (try simp only [zAA, zAB, zAC]); first | done | rfl) ?_; refine hI.mono ?_; rintro e w9 ⟨x, rfl, hx1, hM, hb⟩; refine ⟨_, rfl, ?_⟩; have n0_ := zA (zAD HB.out hb); have n1_ := zA (blk_below BK3.out hb); have n2_ := zA (blk_below BK9.out hb); have n3_ := zA (Kd.R_below HO32.out hb); have n4_ := zA (Kd.R_below HO36.out hb); have n5_ := zA (Kd.R_below HOC.out hb); have HVL := zA (Kd.R_lt HOC.out); have HGL := zA (blk_lt BK9.out); have HWS := zA hb.size; have HWR := zA (zAE HB.out); have HXE := zA hx1; have HM := zA hM; clear HB BK3 BK9 HO32 HO36 HOC hb hc3 hx1 hM; have HB := n0_; have BK3 := n1_; have BK9 := n2_; have HO32 := n3_; have HO36 := n4_; have HOC := n5_; clear n0_ n1_ n2_ n3_ n4_ n5_; have hc9 : w9.cell? ⟨gb9, 2, none⟩ = some vC := (zP BK9.out 2).trans rfl) | ((with_reducible refine gate_builtin (b := .append) (xs := #[.tmp 94, .tmp 96]) rfl ?_); at_builtin; refine Kd.R_append k95p (w0 := w) w.heap.size rfl (.tmp 94) (.tmp 96) 93 54 (.pointer none) 8 rfl Try.underlying93 info54 rfl (by decide) (by omega) vC kids x [.pointer (some ⟨x.adr, 0, none⟩)] (fun k => k ≠ gb9) (fun k => True ∧ wr.heap.size ≤ k ∧ k < w9.heap.size ∧ ∃ q, q ∈ k95p.E ∧ ∃ cells, w9.heap[k]? = some (.cells cells q (0, 0))) rfl rfl ?aP ?aK ?aF ?aO ?aB ?aS ?aL ?_; (case aP => exact k95p.M_lower HWR.out (k95p.M_bound HM.out)); (case aK => exact (fun k hk => ⟨by have := HGL.out; omega, fun e => by have := HVL.out k e.symm; omega⟩)); (case aF => exact (fun k hk => by have := HGL.out; have := HWS.out; omega)); (case aO => exact HOC.out); (case aB => exact HB.out); (case aS => exact (zAE HB.out)); (case aL => have := HLN.out; have := HKL.out; omega); intro v97 w10 ho hb hg hat; obtain ⟨ys, hys⟩ : ∃ ys, ys = kids ++ [x] := ⟨_, rfl⟩; rw [← hys] at ho; have HYS := zA hys; clear hys; have n0_ := zA ho; have n1_ := zA hb; have n2_ := zA (blk_grown BK9.out hg (Kd.R_ne HOC.out BK9.out (by decide))); have n3_ := zA (blk_grown BK3.out hg (Kd.R_ne HOC.out BK3.out (by decide))); have n4_ := zA (Kd.R_mono (Kd.R_grown (R_apart HO32.out HOC.out (by decide)) hg (fun _ hk => hk.2)) (fun _ _ => trivial) : Kd.R Kd.string 9 w10 w.heap.size (fun _ => True) (.slice A32 p.f0.length c32) p.f0); have n5_ := zA (Kd.R_mono (Kd.R_grown (R_apart HO36.out HOC.out (by decide)) hg (fun _ hk => hk.2)) (fun _ _ => trivial) : Kd.R Kd.string 9 w10 w.heap.size (fun _ => True) (.slice A36 p.f1.length c36) p.f1); clear HB BK3 BK9 HO32 HO36 HOC hc9 ho hb hg hat; have HOC := n0_; have HB := n1_; have BK9 := n2_; have BK3 := n3_; have HO32 := n4_; have HO36 := n5_; clear n0_ n1_ n2_ n3_ n4_ n5_; have hc10 : w10.cell? ⟨gb9, 2, none⟩ = some vC := (zP BK9.out 2).trans rfl; have hf10 := zO BK9.out 2; obtain ⟨A97, c97, eo⟩ := Kd.R_slice HOC.out; subst eo))
            go_roundg g1
            case measure => omega
            case rel => exact ⟨i + 1, e1, ys, _, by rw [w64N i (by have := HLN.out; omega)], rfl, ⟨by have := HK.out; omega⟩, ⟨by omega⟩, ⟨by
              rw [HRD.out, HRK.out]
              cases readK (readF ps n) (p.f2.drop (i + 1)) e1 with
              | none => rfl
              | some z =>
               show some (kids.map er95 ++ (t :: z.1), z.2) = some (ys.map er95 ++ z.1, z.2)
               rw [HYS.out, List.map_append, List.append_assoc, ← HXE.out]; rfl⟩, ⟨by rw [HYS.out, List.length_append, HKL.out]; rfl⟩,
             ⟨Kd.R_set HO32.out BK9.out (by decide) 2 _⟩, ⟨Kd.R_set HO36.out BK9.out (by decide) 2 _⟩, ⟨Kd.R_far (p := ⟨gb9, 2, none⟩) HOC.out (fun _ hk => hk) _⟩, ⟨blk_put BK9.out 2 _ rfl⟩, ⟨blk_far BK3.out NB39.out _⟩, ⟨zI HB.out GW9.out⟩⟩
          ·have c1 : (kk != (nx : Int)) = true := bne_iff_ne.mpr ck
           have c2 : (kk == (nx : Int)) = false := beq_eq_false_iff_ne.mpr ck
           have CK := zA ck
           have HRR := zA (show readF ps (n + 1) at_ = none from by rw [RR.out, HRD.out, HED.out, readK, if_neg CK.out])
           clear ck
           go_wp2
           go_ret2
           exact (show Post95 (n + 1) w (readF ps (n + 1) at_) _ _ from (by rw [HRR.out]; exact ⟨by first | rfl | (simp <;> rfl), HB.out⟩))
         ·have q3 : decide ((i : Int) < (p.f2.length : Int)) = false := decide_eq_false (by omega)
          have HRR := zA (show readF ps (n + 1) at_ = some (⟨p.f0, p.f1, kids.map er95⟩, nx) from by
           rw [RR.out, HRD.out, List.drop_eq_nil_of_le (by have := HI.out; omega), readK]
           show some (T.mk p.f0 p.f1 (kids.map er95 ++ []), nx) = _
           rw [List.append_nil])
          obtain ⟨A99, c99, eo⟩ := Kd.R_slice HOC.out
          subst eo
          go_wp2
          go_ret2
          exact (show Post95 (n + 1) w (readF ps (n + 1) at_) _ _ from (by
           rw [HRR.out]
           exact ⟨⟨gb9, p.f0, p.f1, kids⟩, by first | rfl | (simp <;> rfl), er95_eq _, k95p_mkM trivial GW9.out BK9.out (Kd.R_types HO32.out BK9.out (by decide)) (Kd.R_types HO36.out BK9.out (by decide)) (Kd.R_mono HOC.out (fun _ hk => ⟨trivial, hk⟩)), HB.out⟩))
       ·have e4 : (((p.f2.length : Int)) != ((p.f0.length + 1 : Nat) : Int)) = true := bne_iff_ne.mpr (by omega)
        have e4' : (p.f2.length != p.f0.length + 1) = true := bne_iff_ne.mpr k4
        have e4'' : (p.f2.length == p.f0.length + 1) = false := beq_eq_false_iff_ne.mpr k4
        have e4x : (((p.f2.length : Int)) != (p.f0.length : Int) + 1) = true := bne_iff_ne.mpr (by omega)
        have K4 := zA k4
        clear k4
        have RR := zA (show readF ps (n + 1) at_ = none from by rw [readF, HP.out]; exact if_neg (fun z => z.2.2.elim K3.out K4.out))
        go_wp2
        go_ret2
        exact (show Post95 (n + 1) w (readF ps (n + 1) at_) _ _ from (by rw [RR.out]; exact ⟨by first | rfl | (simp <;> rfl), HB.out⟩))
     ·have e2 : (((p.f1.length : Int)) != (p.f0.length : Int)) = true := bne_iff_ne.mpr (by omega)
      have e2' : (p.f1.length != p.f0.length) = true := bne_iff_ne.mpr k2
      have e2'' : (p.f1.length == p.f0.length) = false := beq_eq_false_iff_ne.mpr k2
      have K2 := zA k2
      clear k2
      have RR := zA (show readF ps (n + 1) at_ = none from by rw [readF, HP.out]; exact if_neg (fun z => K2.out z.2.1))
      go_wp2
      go_ret2
      exact (show Post95 (n + 1) w (readF ps (n + 1) at_) _ _ from (by rw [RR.out]; exact ⟨by first | rfl | (simp <;> rfl), HB.out⟩))
    ·have e1 : decide ((4 : Int) < (p.f0.length : Int)) = true := decide_eq_true (by omega)
     have e1' : decide (4 < p.f0.length) = true := decide_eq_true (by omega)
     have K1 := zA k1
     clear k1
     have RR := zA (show readF ps (n + 1) at_ = none from by rw [readF, HP.out]; exact if_neg (fun z => K1.out z.1))
     go_wp2
     go_ret2
     exact (show Post95 (n + 1) w (readF ps (n + 1) at_) _ _ from (by rw [RR.out]; exact ⟨by first | rfl | (simp <;> rfl), HB.out⟩))
  ·have b1 : decide ((ps.length : Int) ≤ (at_ : Int)) = true := decide_eq_true (by omega)
   have R := zA (show readF ps (n + 1) at_ = none by unfold readF; rw [List.getElem?_eq_none (by omega)])
   go_enter Try.func54, Try.ntmps54
   go_wp2_with (first | ((with_reducible refine gate_dst (N := 3) rfl ?_); refine box_event ?hg (N := 3) ?hd (cs := #[.slice A ps.length c]) (t := 30) ?hr ?_; (case hd => rfl); (case hg => rfl); (case hr => first | (go_simp; done) | (go_simp; rfl)); intro gb3 hg w3 hbox hb; have n0_ := zA (zAD HB.out hb); have BK3 := zA hbox; have GW3 := zA (by rw [hg]; exact Nat.le_refl _ : w.heap.size ≤ gb3); clear HB; have HB := n0_; clear n0_ hb hbox hg; have hx3 : w3.cell? ⟨gb3, 0, none⟩ = some (.slice A ps.length c) := (zP BK3.out 0).trans rfl))
   go_ret2
   exact (show Post95 (n + 1) w (readF ps (n + 1) at_) _ _ from (by rw [R.out]; exact ⟨by first | rfl | (simp <;> rfl), HB.out⟩))
end Go.Proofs.Ytnplghcbdaiogaa.QX
end
section
namespace Go.Proofs.Ytnplghcbdaiogaa.QC
open Go.RowKit Go.Proofs.YtnplghcbdaiogaaW.PrintWords Go.Proofs.YtnplghcbdaiogaaW.PrintLast Go.Proofs.YtnplghcbdaiogaaW.PrintMore Go.Proofs.Ytnplghcbdaiogaa.PB Go.Proofs.Ytnplghcbdaiogaa.PW Go.Proofs.Ytnplghcbdaiogaa.QW Go.Proofs.Ytnplghcbdaiogaa.PA Go.Proofs.Ytnplghcbdaiogaa.QP Go.Proofs.Ytnplghcbdaiogaa.QO Go.Proofs.Ytnplghcbdaiogaa.QQ Go.Proofs.Ytnplghcbdaiogaa.QZ Go.Proofs.Ytnplghcbdaiogaa.QX
attribute [local go_sem] max2_int min2_int max_two min_two max_three min_three max_four min_four
set_option linter.unusedVariables false
set_option linter.unusedSimpArgs false
set_option maxHeartbeats 4000000
set_option maxRecDepth 100000
def PostOf (w : World) (R : Option T) (e : Ending) (w' : World) : Prop := match R with
 | none => e = .returned (.tuple #[.pointer none, .bool false]) ∧ Below w.heap.size w w'
 | some t => ∃ x : S95, e = .returned (.tuple #[.pointer (some ⟨x.adr, 0, none⟩), .bool true]) ∧ er95 x = t ∧ k95p.M w' w.heap.size (fun _ => True) x [.pointer (some ⟨x.adr, 0, none⟩)] ∧ Below w.heap.size w w'
def okAt (K V : List ByteArray) (i : Nat) : Prop := (keyB (tx K i) && valB (tx V i)) = true ∧ risesAt K i
theorem ok_all (K V : List ByteArray) (hl : V.length = K.length) (h40 : K.length ≤ 40) (h : ∀ i, i < K.length → okAt K V i) : pairsB K V = true := by
 refine (pairs_iff K V).2 ⟨h40, fun i hi => ?_, (all_at V valB).2 (fun i hi => ?_)⟩
 ·have := (h i hi).1
  rw [Bool.and_eq_true] at this
  exact ⟨this.1, (h i hi).2⟩
 ·have := (h i (by omega)).1
  rw [Bool.and_eq_true] at this
  exact this.2
theorem ok_of (K V : List ByteArray) (hl : V.length = K.length) (h : pairsB K V = true) (i : Nat) (hi : i < K.length) : okAt K V i := by
 obtain ⟨h1, h2, h3⟩ := (pairs_iff K V).1 h
 refine ⟨?_, (h2 i hi).2⟩
 rw [Bool.and_eq_true]
 exact ⟨(h2 i hi).1, (all_at V valB).1 h3 i (by omega)⟩
theorem ofS (ps : List S97) (hG : Sml ps) (A : Option Addr) (c : Nat) (hc : ps.length ≤ c) (w : World) (hC : Kd.C k97 w A ps.length ps) :
  Calls Try.prog 23 #[.agg #[.slice A ps.length c]] w fun e w' => PostOf w (treeG ps 10) e w' := by
 have HG := zA hG
 have HC := zA hC
 have HLC := zA hc
 have HB := zA (Below.refl w.heap.size w)
 have hu30 := Try.underlying30
 have hu95 := Try.underlying95
 clear hG hC hc
 cases hR : readF ps 10 0 with
 | none =>
  have HR := zA hR
  have RR := zA (show treeG ps 10 = none by unfold treeG; rw [hR])
  have b1 : ((-1 : Int) != (ps.length : Int)) = true := bne_iff_ne.mpr (by omega)
  have b2 : ((-1 : Int) == (ps.length : Int)) = false := beq_eq_false_iff_ne.mpr (by omega)
  clear hR
  go_enter Try.func23, Try.ntmps23
  go_wp2_with (first | ((with_reducible refine gate_dst (N := 1) rfl ?_); refine box_event ?hg (N := 1) ?hd (cs := #[.slice A ps.length c]) (t := 30) ?hr ?_; (case hd => rfl); (case hg => rfl); (case hr => first | (go_simp; done) | (go_simp; rfl)); intro gb1 hg w3 hbox hb; have n0_ := zA (zAD HB.out hb); have BK1 := zA hbox; have GW1 := zA (by rw [hg]; exact Nat.le_refl _ : w.heap.size ≤ gb1); clear HB; have HB := n0_; clear n0_ hb hbox hg; have hx1 : w3.cell? ⟨gb1, 0, none⟩ = some (.slice A ps.length c) := (zP BK1.out 0).trans rfl; have hI := readS ps HG.out A c HLC.out 10 0 1 w3 (by rfl) (by omega) (Kd.C_below HC.out HB.out); rw [HR.out] at hI) | ((with_reducible refine gate_callee (f := 54) rfl ?_); refine goesL_ (some 12) rfl rfl Try.func54 (by kernel_rfl) rfl #[.agg #[.slice A ps.length c], .int .i64 ((0 : Nat) : Int), .int .i64 1] rfl (by (try simp only [zAA, zAB, zAC]); first | done | rfl) ?_; refine hI.mono ?_; clear hI;  rintro e w4 ⟨rfl, hb⟩; refine ⟨_, rfl, ?_⟩; have n0_ := zA (zAD HB.out hb); have n1_ := zA (blk_below BK1.out hb); clear HB BK1 hb hx1; have HB := n0_; have BK1 := n1_; clear n0_ n1_; have hx2 : w4.cell? ⟨gb1, 0, none⟩ = some (.slice A ps.length c) := (zP BK1.out 0).trans rfl))
  go_ret2
  exact (show PostOf w (treeG ps 10) _ _ from (by rw [RR.out]; exact ⟨by first | rfl | (simp <;> rfl), by repeat (first | exact HB.out | apply zF)⟩))
 | some tn =>
  obtain ⟨t, nx⟩ := tn
  have HR := zA hR
  by_cases hn : nx = ps.length
  ·have b1 : ((nx : Int) != (ps.length : Int)) = false := bne_eq_false_iff_eq.mpr (by omega)
   have b2 : ((nx : Int) == (ps.length : Int)) = true := beq_iff_eq.mpr (by omega)
   have b3 : (nx != ps.length) = false := bne_eq_false_iff_eq.mpr hn
   have b4 : (nx == ps.length) = true := beq_iff_eq.mpr hn
   have b5 : decide ((nx : Int) < 0) = false := decide_eq_false (by omega)
   have HN := zA hn
   obtain ⟨hok, hh⟩ := readF_ok ps _ _ _ _ hR
   have hcnt := readF_cnt ps _ _ _ _ hR
   have HOK := zA hok
   have HH := zA hh
   have hlen := hok
   have HKV := zA (kv_len t hok)
   obtain ⟨K, hK⟩ : ∃ q, q = keysT t := ⟨_, rfl⟩
   obtain ⟨V, hV⟩ : ∃ q, q = valsT t := ⟨_, rfl⟩
   have HNK := zA (show K.length < 8796093022208 from by have := HG.out.1; rw [hK]; omega)
   have HNV := zA (show V.length = K.length from by rw [hK, hV]; exact HKV.out.symm)
   have HEK := zA hK
   have HEV := zA hV
   clear hn hR hok hh hcnt hK hV hlen
   go_enter Try.func23, Try.ntmps23
   go_wp2_with (first | ((with_reducible refine gate_dst (N := 1) rfl ?_); refine box_event ?hg (N := 1) ?hd (cs := #[.slice A ps.length c]) (t := 30) ?hr ?_; (case hd => rfl); (case hg => rfl); (case hr => first | (go_simp; done) | (go_simp; rfl)); intro gb1 hg w3 hbox hb; have n0_ := zA (zAD HB.out hb); have BK1 := zA hbox; have GW1 := zA (by rw [hg]; exact Nat.le_refl _ : w.heap.size ≤ gb1); clear HB; have HB := n0_; clear n0_ hb hbox hg; have hx1 : w3.cell? ⟨gb1, 0, none⟩ = some (.slice A ps.length c) := (zP BK1.out 0).trans rfl; have hI := readS ps HG.out A c HLC.out 10 0 1 w3 (by rfl) (by omega) (Kd.C_below HC.out HB.out); rw [HR.out] at hI) | ((with_reducible refine gate_callee (f := 54) rfl ?_); refine goesL_ (some 12) rfl rfl Try.func54 (by kernel_rfl) rfl #[.agg #[.slice A ps.length c], .int .i64 ((0 : Nat) : Int), .int .i64 1] rfl (by (try simp only [zAA, zAB, zAC]); first | done | rfl) ?_; refine hI.mono ?_; clear hI;  rintro e w4 ⟨x, rfl, hx, hM, hb⟩; refine ⟨_, rfl, ?_⟩; have n0_ := zA (zAD HB.out hb); have n1_ := zA (blk_below BK1.out hb); have HXE := zA hx; have n2_ := zA (k95p.M_lower (zAE HB.out) hM); clear HB BK1 hb hx1 hx hM; have HB := n0_; have BK1 := n1_; have HM := n2_; clear n0_ n1_ n2_; have hx2 : w4.cell? ⟨gb1, 0, none⟩ = some (.slice A ps.length c) := (zP BK1.out 0).trans rfl; obtain ⟨k, hall⟩ := Ev.rounds (allS x (by rw [HXE.out]; exact HOK.out) [] [] (by rw [HXE.out, ← HEK.out]; have := HNK.out; simp only [List.length_nil]; omega) (by rw [HXE.out, ← HEV.out, HNV.out]; have := HNK.out; simp only [List.length_nil]; omega)); rw [HXE.out, ← HEK.out, ← HEV.out, List.nil_append, List.nil_append] at hall; have HALL := zA hall; clear hall) | ((with_reducible refine gate_callee (f := 55) rfl ?_); refine goesL_ (some 26) rfl rfl Try.func55 (by kernel_rfl) rfl #[.pointer (some ⟨x.adr, 0, none⟩), .slice none 0 0, .slice none 0 0] rfl (by (try simp only [zAA, zAB, zAC]); first | done | rfl) ?_; refine (spec_l5T_all.calls k x (fun _ => False) (.slice none 0 0) [] (fun _ => False) (.slice none 0 0) [] K V w4 w4 (Below.refl _ _) (k95p.K_of_M HM.out) (Kd.R_nil _ _ _ _ _) (fun _ h => h.elim) (Kd.R_nil _ _ _ _ _) (fun _ h => h.elim) HALL.out).mono ?_; rintro e w5 ⟨vK, vV, rfl, hRK, hRV, hb, hkp⟩; clear hkp; refine ⟨_, rfl, ?_⟩; obtain ⟨AK, cK, eo, hlK, hCK⟩ := Kd.R_reads hRK; subst eo; obtain ⟨AV, cV, eo, hlV, hCV⟩ := Kd.R_reads hRV; subst eo; have n0_ := zA (zAD HB.out hb); have n2_ := zA (k95p.M_below HM.out hb); have HCK := zA hCK; have HCV := zA hCV; clear HB BK1 hb hx2 HM hRK hRV hCK hCV hlK hlV; have HB := n0_; have HM := n2_; clear n0_ n2_))
   go_loopg [31] (K.length + 1) (fun kq v31 w' => ∃ (z : Int) (i : Nat), v31 = .int .i64 z ∧ Aside0 (z = (i : Int)) ∧ Aside0 (kq + i = K.length + 1) ∧ Aside0 (i ≤ K.length) ∧ Aside0 (∀ j, j < i → okAt K V j) ∧ ∃ m, w' = w5.drewN m)
   case atStart => exact ⟨0, 0, rfl, ⟨rfl⟩, ⟨by omega⟩, ⟨by omega⟩, ⟨fun j h => by omega⟩, 0, rfl⟩
   case round =>
    (try clear b1); (try clear b2); (try clear b3); (try clear b4); (try clear b5)
    obtain ⟨z, i, rfl, HZ, HK, HI, HJ, m, rfl⟩ := hrel
    by_cases hi : i < K.length
    ·obtain ⟨g1, rfl⟩ : ∃ g1, gk = g1 + 1 := ⟨gk - 1, by have := HK.out; omega⟩
     have hz := HZ.out
     have hvl := HNV.out
     have q1 : (z < (K.length : Int)) = True := eq_true (by omega)
     have q2 : (z < (V.length : Int)) = True := eq_true (by omega)
     have q3 : decide (z < (K.length : Int)) = true := decide_eq_true (by omega)
     have q4 : decide (z < (V.length : Int)) = true := decide_eq_true (by omega)
     have q5 : (0 ≤ z) = True := eq_true (by omega)
     have q6 : decide (0 ≤ z) = true := decide_eq_true (by omega)
     obtain ⟨adk, ek, hk0⟩ := Kd.at_string HCK.out z (by omega) (by omega)
     obtain ⟨adv, ev, hv0⟩ := Kd.at_string HCV.out z (by omega) (by omega)
     subst ek
     subst ev
     rw [show rdOf ByteArray.empty K z = tx K i from by rw [hz]] at hk0
     rw [show rdOf ByteArray.empty V z = tx V i from by rw [hz]] at hv0
     have hw1 : wrap64 (z + 1) = ((i + 1 : Nat) : Int) := by have := HNK.out; unfold wrap64; omega
     have HZ1 := zA hw1
     clear hw1
     obtain ⟨s, hs⟩ : ∃ q, q = tx K i := ⟨_, rfl⟩
     obtain ⟨v, hv⟩ : ∃ q, q = tx V i := ⟨_, rfl⟩
     rw [← hs] at hk0
     rw [← hv] at hv0
     obtain ⟨r, hr⟩ : ∃ q, q = (keyB s && valB v) := ⟨_, rfl⟩
     have HP := zA (show spec_l5Pair.f s v = some r from by rw [hr]; exact pairS s v)
     have HS := zA hs
     have HV := zA hv
     have HRB := zA hr
     clear hs hv hr
     cases r with
     | false =>
      have HNO := zA (show pairsB K V = false from Bool.eq_false_iff.2 (fun h => by
       have := (ok_of K V HNV.out h i hi).1
       rw [← HS.out, ← HV.out, ← HRB.out] at this; cases this))
      have RR := zA (show treeG ps 10 = none by
       unfold treeG; rw [HR.out]; refine if_neg (fun q => ?_)
       have := q.2
       unfold goodB at this
       rw [← HEK.out, ← HEV.out, HNO.out, Bool.false_and] at this; cases this)
      clear hz hvl hi
      go_wp2_with (first | ((with_reducible refine gate_callee (f := 31) rfl ?_); (try (refine gate_guard (by rfl) ?_; dsimp only)); refine goesL_ (some 41) rfl rfl Try.func31 (by kernel_rfl) rfl #[.string s, .string v] rfl (by (try simp only [zAA, zAB, zAC]); first | done | rfl) ?_; refine (spec_l5Pair.calls s v _ _ HP.out).mono ?_; rintro e w8 ⟨rfl, m8, hw⟩; rw [hw]; clear hw w8; refine ⟨_, rfl, ?_⟩))
      go_ret2
      exact (show PostOf w (treeG ps 10) _ _ from (by rw [RR.out]; exact ⟨by first | rfl | (simp <;> rfl), by repeat (first | exact HB.out | apply zF)⟩))
     | true =>
      by_cases hp : 0 < i
      ·have q7 : decide (0 < z) = true := decide_eq_true (by omega)
       have q8 : (0 < z) = True := eq_true (by omega)
       have hw3 : wrap64 (z - 1) = z - 1 := by have := HNK.out; unfold wrap64; omega
       obtain ⟨zp, hzp⟩ : ∃ q, q = wrap64 (z - 1) := ⟨_, rfl⟩
       have hzq : zp = z - 1 := hzp.trans hw3
       have hw4 := hzp.symm
       clear hw3 hzp
       have q9 : (zp < (K.length : Int)) = True := eq_true (by omega)
       have q10 : decide (zp < (K.length : Int)) = true := decide_eq_true (by omega)
       have q11 : (0 ≤ zp) = True := eq_true (by omega)
       have q12 : decide (0 ≤ zp) = true := decide_eq_true (by omega)
       obtain ⟨adp, ep, hp0⟩ := Kd.at_string HCK.out zp (by omega) (by omega)
       injection ep with ep
       subst ep
       rw [show rdOf ByteArray.empty K zp = tx K (i - 1) from by rw [show zp = ((i - 1 : Nat) : Int) by omega]] at hp0
       obtain ⟨pv, hpv⟩ : ∃ q, q = tx K (i - 1) := ⟨_, rfl⟩
       rw [← hpv] at hp0
       have HPV := zA hpv
       have HPI := zA hp
       have HIK := zA hi
       clear hpv hz hvl hi hp hzq
       cases hbl : Op.bytesLess pv.toList s.toList with
       | true =>
        have HBL := zA hbl
        go_wp2_with (first | ((with_reducible refine gate_callee (f := 31) rfl ?_); (try (refine gate_guard (by rfl) ?_; dsimp only)); refine goesL_ (some 41) rfl rfl Try.func31 (by kernel_rfl) rfl #[.string s, .string v] rfl (by (try simp only [zAA, zAB, zAC]); first | done | rfl) ?_; refine (spec_l5Pair.calls s v _ _ HP.out).mono ?_; rintro e w8 ⟨rfl, m8, hw⟩; rw [hw]; clear hw w8; refine ⟨_, rfl, ?_⟩))
        go_roundg g1
        case measure => omega
        case rel => exact ⟨wrap64 (z + 1), i + 1, rfl, HZ1, ⟨by have := HK.out; omega⟩, ⟨by have := HIK.out; omega⟩, ⟨fun j h => by
         by_cases e : j = i
         ·subst e
          exact ⟨by rw [← HS.out, ← HV.out]; exact HRB.out.symm, fun _ => by rw [← HPV.out, ← HS.out]; exact HBL.out⟩
         ·exact HJ.out j (by omega)⟩, _, by first | rfl | rw [World.drewN_drewN]⟩
       | false =>
        have HNO := zA (show pairsB K V = false from Bool.eq_false_iff.2 (fun h => by
         have := (ok_of K V HNV.out h i HIK.out).2 HPI.out
         rw [← HPV.out, ← HS.out, hbl] at this; cases this))
        have RR := zA (show treeG ps 10 = none by
         unfold treeG; rw [HR.out]; refine if_neg (fun q => ?_)
         have := q.2
         unfold goodB at this
         rw [← HEK.out, ← HEV.out, HNO.out, Bool.false_and] at this; cases this)
        go_wp2_with (first | ((with_reducible refine gate_callee (f := 31) rfl ?_); (try (refine gate_guard (by rfl) ?_; dsimp only)); refine goesL_ (some 41) rfl rfl Try.func31 (by kernel_rfl) rfl #[.string s, .string v] rfl (by (try simp only [zAA, zAB, zAC]); first | done | rfl) ?_; refine (spec_l5Pair.calls s v _ _ HP.out).mono ?_; rintro e w8 ⟨rfl, m8, hw⟩; rw [hw]; clear hw w8; refine ⟨_, rfl, ?_⟩))
        go_ret2
        exact (show PostOf w (treeG ps 10) _ _ from (by rw [RR.out]; exact ⟨by first | rfl | (simp <;> rfl), by repeat (first | exact HB.out | apply zF)⟩))
      ·have q7 : decide (0 < z) = false := decide_eq_false (by omega)
       have HPI := zA hp
       have HIK := zA hi
       clear hz hvl hi hp
       go_wp2_with (first | ((with_reducible refine gate_callee (f := 31) rfl ?_); (try (refine gate_guard (by rfl) ?_; dsimp only)); refine goesL_ (some 41) rfl rfl Try.func31 (by kernel_rfl) rfl #[.string s, .string v] rfl (by (try simp only [zAA, zAB, zAC]); first | done | rfl) ?_; refine (spec_l5Pair.calls s v _ _ HP.out).mono ?_; rintro e w8 ⟨rfl, m8, hw⟩; rw [hw]; clear hw w8; refine ⟨_, rfl, ?_⟩))
       go_roundg g1
       case measure => omega
       case rel => exact ⟨wrap64 (z + 1), i + 1, rfl, HZ1, ⟨by have := HK.out; omega⟩, ⟨by have := HIK.out; omega⟩, ⟨fun j h => by
        by_cases e : j = i
        ·subst e
         exact ⟨by rw [← HS.out, ← HV.out]; exact HRB.out.symm, fun h => absurd h HPI.out⟩
        ·exact HJ.out j (by omega)⟩, _, by first | rfl | rw [World.drewN_drewN]⟩
    ·have hz := HZ.out
     have q3 : decide (z < (K.length : Int)) = false := decide_eq_false (by omega)
     have hik : i = K.length := by have := HI.out; omega
     have HALLJ := zA (show ∀ j, j < K.length → okAt K V j from fun j h => HJ.out j (by omega))
     obtain ⟨e0, e1, e2⟩ := er95_f x
     rw [HXE.out] at e0 e1 e2
     obtain ⟨An0, cn0, An1, cn1, An2, cn2, hc0, hc1, hc2, _, _, _, _, _, _⟩ := at_P95 (k95p.K_of_M HM.out)
     obtain ⟨k2, hev⟩ := Ev.rounds (evenS x (by rw [HXE.out]; have := HH.out; omega) (by rw [HXE.out]; exact HOK.out))
     rw [HXE.out] at hev
     have hlf : spec_l5T_leaf.f x = some ((x.f2.length : Int) == 0) := rfl
     have HLF := zA hlf
     have HE0 := zA e0
     have HE2 := zA e2
     clear hz hi hik HZ hlf e0 e1 e2 hc1 hc2
     cases hl : levT t with
     | none =>
      rw [hl] at hev
      have HEV2 := zA hev
      have RR := zA (show treeG ps 10 = none by
       unfold treeG; rw [HR.out]; refine if_neg (fun q => ?_)
       have := q.2
       unfold goodB at this
       rw [hl, Bool.and_eq_true, Bool.and_eq_true] at this
       exact absurd this.2.1 (by simp))
      clear hev hl
      go_wp2_with (first | ((with_reducible refine gate_callee (f := 56) rfl ?_); (try (refine gate_guard (by rfl) ?_; dsimp only)); refine goesL_ (some 58) rfl rfl Try.func56 (by kernel_rfl) rfl #[.pointer (some ⟨x.adr, 0, none⟩)] rfl (by (try simp only [zAA, zAB, zAC]); first | done | rfl) ?_; refine (spec_l5T_even.calls k2 x (-1) _ (k95p_drewN (k95p.K_of_M HM.out) m) HEV2.out).mono ?_; rintro e w8 ⟨rfl, m8, hw⟩; rw [hw]; clear hw w8; refine ⟨_, rfl, ?_⟩))
      go_ret2
      exact (show PostOf w (treeG ps 10) _ _ from (by rw [RR.out]; exact ⟨by first | rfl | (simp <;> rfl), by repeat (first | exact HB.out | apply zF)⟩))
     | some d =>
      rw [hl] at hev
      have HEV2 := zA (show spec_l5T_even.f k2 x = some (d : Int) from hev)
      have HLV := zA hl
      have b1 : decide ((d : Int) < 0) = false := decide_eq_false (by omega)
      clear hev hl
      by_cases cz : x.f2.length = 0
      ·have HF := zA (show spec_l5T_leaf.f x = some true from by rw [HLF.out, cz]; rfl)
       have HCZ := zA cz
       clear cz
       by_cases h40 : K.length ≤ 40
       ·have p1 : decide ((40 : Int) < (K.length : Int)) = false := decide_eq_false (by omega)
        have p2 : decide (40 < K.length) = false := decide_eq_false (by omega)
        have H40 := zA h40
        clear h40
        have RR := zA (show treeG ps 10 = some t by
         unfold treeG; rw [HR.out]; refine if_pos ⟨HN.out, ?_⟩
         have hp := ok_all K V HNV.out H40.out HALLJ.out
         rw [HEK.out, HEV.out] at hp
         unfold goodB
         rw [hp, HLV.out, Bool.true_and]
         show (true && _) = true
         rw [Bool.true_and]
         rw [HE2.out, List.eq_nil_of_length_eq_zero HCZ.out]; rfl)
        go_wp2_with (first | ((with_reducible refine gate_callee (f := 56) rfl ?_); (try (refine gate_guard (by rfl) ?_; dsimp only)); refine goesL_ (some 58) rfl rfl Try.func56 (by kernel_rfl) rfl #[.pointer (some ⟨x.adr, 0, none⟩)] rfl (by (try simp only [zAA, zAB, zAC]); first | done | rfl) ?_; refine (spec_l5T_even.calls k2 x (d : Int) _ (by repeat (first | exact k95p.K_of_M HM.out | apply k95p_drewN)) HEV2.out).mono ?_; rintro e w8 ⟨rfl, m8, hw⟩; rw [hw]; clear hw w8; refine ⟨_, rfl, ?_⟩) | ((with_reducible refine gate_callee (f := 57) rfl ?_); (try (refine gate_guard (by rfl) ?_; dsimp only)); refine goesL_ (some 62) rfl rfl Try.func57 (by kernel_rfl) rfl #[.pointer (some ⟨x.adr, 0, none⟩)] rfl (by (try simp only [zAA, zAB, zAC]); first | done | rfl) ?_; refine (spec_l5T_leaf.calls x true _ (by repeat (first | exact k95p.K_of_M HM.out | apply k95p_drewN)) HF.out).mono ?_; rintro e w8 ⟨rfl, m9, hw⟩; rw [hw]; clear hw w8; refine ⟨_, rfl, ?_⟩))
        go_ret2
        exact (show PostOf w (treeG ps 10) _ _ from (by rw [RR.out]; exact ⟨x, by first | rfl | (simp <;> rfl), HXE.out, k95p.M_below HM.out (by repeat (first | exact Below.refl _ _ | apply pw_below_drewN)), by repeat (first | exact HB.out | apply zF)⟩))
       ·have p1 : decide ((40 : Int) < (K.length : Int)) = true := decide_eq_true (by omega)
        have p2 : decide (40 < K.length) = true := decide_eq_true (by omega)
        have H40 := zA h40
        clear h40
        have RR := zA (show treeG ps 10 = none by
         unfold treeG; rw [HR.out]; refine if_neg (fun q => ?_)
         have := q.2
         unfold goodB at this
         rw [← HEK.out, ← HEV.out, Bool.and_eq_true] at this
         exact H40.out ((pairs_iff K V).1 this.1).1)
        go_wp2_with (first | ((with_reducible refine gate_callee (f := 56) rfl ?_); (try (refine gate_guard (by rfl) ?_; dsimp only)); refine goesL_ (some 58) rfl rfl Try.func56 (by kernel_rfl) rfl #[.pointer (some ⟨x.adr, 0, none⟩)] rfl (by (try simp only [zAA, zAB, zAC]); first | done | rfl) ?_; refine (spec_l5T_even.calls k2 x (d : Int) _ (by repeat (first | exact k95p.K_of_M HM.out | apply k95p_drewN)) HEV2.out).mono ?_; rintro e w8 ⟨rfl, m8, hw⟩; rw [hw]; clear hw w8; refine ⟨_, rfl, ?_⟩) | ((with_reducible refine gate_callee (f := 57) rfl ?_); (try (refine gate_guard (by rfl) ?_; dsimp only)); refine goesL_ (some 62) rfl rfl Try.func57 (by kernel_rfl) rfl #[.pointer (some ⟨x.adr, 0, none⟩)] rfl (by (try simp only [zAA, zAB, zAC]); first | done | rfl) ?_; refine (spec_l5T_leaf.calls x true _ (by repeat (first | exact k95p.K_of_M HM.out | apply k95p_drewN)) HF.out).mono ?_; rintro e w8 ⟨rfl, m9, hw⟩; rw [hw]; clear hw w8; refine ⟨_, rfl, ?_⟩))
        go_ret2
        exact (show PostOf w (treeG ps 10) _ _ from (by rw [RR.out]; exact ⟨by first | rfl | (simp <;> rfl), by repeat (first | exact HB.out | apply zF)⟩))
      ·have HF := zA (show spec_l5T_leaf.f x = some false from by rw [HLF.out, beq_eq_false_iff_ne.2 (by omega)])
       have HCZ := zA cz
       clear cz
       by_cases ck : x.f0.length = 0
       ·have p3 : ((x.f0.length : Int) == 0) = true := beq_iff_eq.mpr (by omega)
        have p4 : decide (x.f0.length = 0) = true := decide_eq_true ck
        have p5 : (x.f0.length == 0) = true := beq_iff_eq.mpr ck
        have HCK0 := zA ck
        clear ck
        have RR := zA (show treeG ps 10 = none by
         unfold treeG; rw [HR.out]; refine if_neg (fun q => ?_)
         have := q.2
         unfold goodB at this
         rw [Bool.and_eq_true, Bool.and_eq_true, HE0.out, HE2.out, HCK0.out] at this
         have h2 := this.2.2
         rw [show decide (0 < 0) = false from rfl, Bool.or_false, List.isEmpty_iff, List.map_eq_nil_iff] at h2
         exact HCZ.out (by rw [h2]; rfl))
        go_wp2_with (first | ((with_reducible refine gate_callee (f := 56) rfl ?_); (try (refine gate_guard (by rfl) ?_; dsimp only)); refine goesL_ (some 58) rfl rfl Try.func56 (by kernel_rfl) rfl #[.pointer (some ⟨x.adr, 0, none⟩)] rfl (by (try simp only [zAA, zAB, zAC]); first | done | rfl) ?_; refine (spec_l5T_even.calls k2 x (d : Int) _ (by repeat (first | exact k95p.K_of_M HM.out | apply k95p_drewN)) HEV2.out).mono ?_; rintro e w8 ⟨rfl, m8, hw⟩; rw [hw]; clear hw w8; refine ⟨_, rfl, ?_⟩) | ((with_reducible refine gate_callee (f := 57) rfl ?_); (try (refine gate_guard (by rfl) ?_; dsimp only)); refine goesL_ (some 62) rfl rfl Try.func57 (by kernel_rfl) rfl #[.pointer (some ⟨x.adr, 0, none⟩)] rfl (by (try simp only [zAA, zAB, zAC]); first | done | rfl) ?_; refine (spec_l5T_leaf.calls x false _ (by repeat (first | exact k95p.K_of_M HM.out | apply k95p_drewN)) HF.out).mono ?_; rintro e w8 ⟨rfl, m9, hw⟩; rw [hw]; clear hw w8; refine ⟨_, rfl, ?_⟩))
        go_ret2
        exact (show PostOf w (treeG ps 10) _ _ from (by rw [RR.out]; exact ⟨by first | rfl | (simp <;> rfl), by repeat (first | exact HB.out | apply zF)⟩))
       ·have p3 : ((x.f0.length : Int) == 0) = false := beq_eq_false_iff_ne.2 (by omega)
        have p4 : decide (x.f0.length = 0) = false := decide_eq_false ck
        have p5 : (x.f0.length == 0) = false := beq_eq_false_iff_ne.2 ck
        have HCK0 := zA ck
        clear ck
        by_cases h40 : K.length ≤ 40
        ·have p1 : decide ((40 : Int) < (K.length : Int)) = false := decide_eq_false (by omega)
         have p2 : decide (40 < K.length) = false := decide_eq_false (by omega)
         have H40 := zA h40
         clear h40
         have RR := zA (show treeG ps 10 = some t by
          unfold treeG; rw [HR.out]; refine if_pos ⟨HN.out, ?_⟩
          have hp := ok_all K V HNV.out H40.out HALLJ.out
          rw [HEK.out, HEV.out] at hp
          unfold goodB
          rw [hp, HLV.out, Bool.true_and]
          show (true && _) = true
          rw [Bool.true_and]
          rw [HE0.out, decide_eq_true (by have := HCK0.out; omega : 0 < x.f0.length), Bool.or_true])
         go_wp2_with (first | ((with_reducible refine gate_callee (f := 56) rfl ?_); (try (refine gate_guard (by rfl) ?_; dsimp only)); refine goesL_ (some 58) rfl rfl Try.func56 (by kernel_rfl) rfl #[.pointer (some ⟨x.adr, 0, none⟩)] rfl (by (try simp only [zAA, zAB, zAC]); first | done | rfl) ?_; refine (spec_l5T_even.calls k2 x (d : Int) _ (by repeat (first | exact k95p.K_of_M HM.out | apply k95p_drewN)) HEV2.out).mono ?_; rintro e w8 ⟨rfl, m8, hw⟩; rw [hw]; clear hw w8; refine ⟨_, rfl, ?_⟩) | ((with_reducible refine gate_callee (f := 57) rfl ?_); (try (refine gate_guard (by rfl) ?_; dsimp only)); refine goesL_ (some 62) rfl rfl Try.func57 (by kernel_rfl) rfl #[.pointer (some ⟨x.adr, 0, none⟩)] rfl (by (try simp only [zAA, zAB, zAC]); first | done | rfl) ?_; refine (spec_l5T_leaf.calls x false _ (by repeat (first | exact k95p.K_of_M HM.out | apply k95p_drewN)) HF.out).mono ?_; rintro e w8 ⟨rfl, m9, hw⟩; rw [hw]; clear hw w8; refine ⟨_, rfl, ?_⟩))
         go_ret2
         exact (show PostOf w (treeG ps 10) _ _ from (by rw [RR.out]; exact ⟨x, by first | rfl | (simp <;> rfl), HXE.out, k95p.M_below HM.out (by repeat (first | exact Below.refl _ _ | apply pw_below_drewN)), by repeat (first | exact HB.out | apply zF)⟩))
        ·have p1 : decide ((40 : Int) < (K.length : Int)) = true := decide_eq_true (by omega)
         have p2 : decide (40 < K.length) = true := decide_eq_true (by omega)
         have H40 := zA h40
         clear h40
         have RR := zA (show treeG ps 10 = none by
          unfold treeG; rw [HR.out]; refine if_neg (fun q => ?_)
          have := q.2
          unfold goodB at this
          rw [← HEK.out, ← HEV.out, Bool.and_eq_true] at this
          exact H40.out ((pairs_iff K V).1 this.1).1)
         go_wp2_with (first | ((with_reducible refine gate_callee (f := 56) rfl ?_); (try (refine gate_guard (by rfl) ?_; dsimp only)); refine goesL_ (some 58) rfl rfl Try.func56 (by kernel_rfl) rfl #[.pointer (some ⟨x.adr, 0, none⟩)] rfl (by (try simp only [zAA, zAB, zAC]); first | done | rfl) ?_; refine (spec_l5T_even.calls k2 x (d : Int) _ (by repeat (first | exact k95p.K_of_M HM.out | apply k95p_drewN)) HEV2.out).mono ?_; rintro e w8 ⟨rfl, m8, hw⟩; rw [hw]; clear hw w8; refine ⟨_, rfl, ?_⟩) | ((with_reducible refine gate_callee (f := 57) rfl ?_); (try (refine gate_guard (by rfl) ?_; dsimp only)); refine goesL_ (some 62) rfl rfl Try.func57 (by kernel_rfl) rfl #[.pointer (some ⟨x.adr, 0, none⟩)] rfl (by (try simp only [zAA, zAB, zAC]); first | done | rfl) ?_; refine (spec_l5T_leaf.calls x false _ (by repeat (first | exact k95p.K_of_M HM.out | apply k95p_drewN)) HF.out).mono ?_; rintro e w8 ⟨rfl, m9, hw⟩; rw [hw]; clear hw w8; refine ⟨_, rfl, ?_⟩))
         go_ret2
         exact (show PostOf w (treeG ps 10) _ _ from (by rw [RR.out]; exact ⟨by first | rfl | (simp <;> rfl), by repeat (first | exact HB.out | apply zF)⟩))
  ·have b1 : ((nx : Int) != (ps.length : Int)) = true := bne_iff_ne.mpr (by omega)
   have b2 : ((nx : Int) == (ps.length : Int)) = false := beq_eq_false_iff_ne.mpr (by omega)
   have b3 : (nx != ps.length) = true := bne_iff_ne.mpr hn
   have b4 : (nx == ps.length) = false := beq_eq_false_iff_ne.mpr hn
   have RR := zA (show treeG ps 10 = none by unfold treeG; rw [hR]; exact if_neg (fun q => hn q.1))
   clear hR hn
   go_enter Try.func23, Try.ntmps23
   go_wp2_with (first | ((with_reducible refine gate_dst (N := 1) rfl ?_); refine box_event ?hg (N := 1) ?hd (cs := #[.slice A ps.length c]) (t := 30) ?hr ?_; (case hd => rfl); (case hg => rfl); (case hr => first | (go_simp; done) | (go_simp; rfl)); intro gb1 hg w3 hbox hb; have n0_ := zA (zAD HB.out hb); have BK1 := zA hbox; have GW1 := zA (by rw [hg]; exact Nat.le_refl _ : w.heap.size ≤ gb1); clear HB; have HB := n0_; clear n0_ hb hbox hg; have hx1 : w3.cell? ⟨gb1, 0, none⟩ = some (.slice A ps.length c) := (zP BK1.out 0).trans rfl; have hI := readS ps HG.out A c HLC.out 10 0 1 w3 (by rfl) (by omega) (Kd.C_below HC.out HB.out); rw [HR.out] at hI) | ((with_reducible refine gate_callee (f := 54) rfl ?_); refine goesL_ (some 12) rfl rfl Try.func54 (by kernel_rfl) rfl #[.agg #[.slice A ps.length c], .int .i64 ((0 : Nat) : Int), .int .i64 1] rfl (by (try simp only [zAA, zAB, zAC]); first | done | rfl) ?_; refine hI.mono ?_; clear hI;  rintro e w4 ⟨x, rfl, _, _, hb⟩; refine ⟨_, rfl, ?_⟩; have n0_ := zA (zAD HB.out hb); have n1_ := zA (blk_below BK1.out hb); clear HB BK1 hb hx1; have HB := n0_; have BK1 := n1_; clear n0_ n1_; have hx2 : w4.cell? ⟨gb1, 0, none⟩ = some (.slice A ps.length c) := (zP BK1.out 0).trans rfl))
   go_ret2
   exact (show PostOf w (treeG ps 10) _ _ from (by rw [RR.out]; exact ⟨by first | rfl | (simp <;> rfl), by repeat (first | exact HB.out | apply zF)⟩))
end Go.Proofs.Ytnplghcbdaiogaa.QC
end
section
namespace Go.Proofs.Ytnplghcbdaiogaa.RI

end Go.Proofs.Ytnplghcbdaiogaa.RI
end
section
namespace Go.Proofs.Ytnplghcbdaiogaa.RT
open Go.RowKit Go.Proofs.YtnplghcbdaiogaaW.PrintWords Go.Proofs.YtnplghcbdaiogaaW.PrintLast Go.Proofs.YtnplghcbdaiogaaW.PrintMore Go.Proofs.Ytnplghcbdaiogaa.PB Go.Proofs.Ytnplghcbdaiogaa.PW Go.Proofs.Ytnplghcbdaiogaa.QW Go.Proofs.Ytnplghcbdaiogaa.PA Go.Proofs.Ytnplghcbdaiogaa.QP Go.Proofs.Ytnplghcbdaiogaa.QO Go.Proofs.Ytnplghcbdaiogaa.QQ Go.Proofs.Ytnplghcbdaiogaa.QZ Go.Proofs.Ytnplghcbdaiogaa.RH Go.Proofs.Ytnplghcbdaiogaa.RF Go.Proofs.Ytnplghcbdaiogaa.RL Go.Proofs.Ytnplghcbdaiogaa.RM Go.Proofs.Ytnplghcbdaiogaa.RN Go.Proofs.Ytnplghcbdaiogaa.RR Go.Proofs.Ytnplghcbdaiogaa.RS
open Go.Proofs.Ytnplghcbdaiogaa.RG (kept_set kept_more)
attribute [local go_sem] max2_int min2_int max_two min_two max_three min_three max_four min_four
set_option linter.unusedVariables false
set_option linter.unusedSimpArgs false
set_option maxHeartbeats 4000000
set_option maxRecDepth 100000
theorem sz1 (w : World) (o : Obj) : w.heap.size + 1 = (w.alloc o).heap.size := by simp only [World.alloc, Array.size_push]
def pcS.T7 : Bool × List (List Nat × List Nat) := (true, [([], []), ([0], [0]), ([], []), ([], []), ([], []), ([2, 3, 4], [2, 3, 4]), ([5], [5]), ([1, 6, 5], [1, 6]), ([0, 1, 2, 3, 4, 5, 6, 7], []), ([8, 7, 7, 0, 1, 2, 3, 4, 5, 6, 7], [7, 8])])
def pcS.B7 : List Nat := [0, 1, 0, 0, 0, 28, 60, 127, 255, 511]
theorem pcS.tab7 : rtab .any (opsOf Try.f42 7) = pcS.T7 := by kernel_rfl
theorem pcS.bits7 : waitsOk pcS.T7.2 pcS.B7 = true := by kernel_rfl
theorem piecesS (s e : ByteArray) : ∀ (n : Nat) (y : S95) (w : World), n ≤ 10 → hT (er95 y) ≤ n → Fine (er95 y) → k95p.K w y [.pointer (some ⟨y.adr, 0, none⟩)] →
  Calls Try.prog 42 #[.pointer (some ⟨y.adr, 0, none⟩), .string s, .string e] w fun er w' => PostPc n w (pcN s e n (er95 y)) er w' := by
 intro n
 induction n with
 | zero => intro y w _ h _ _; rw [hT_eq] at h; omega
 | succ n ih =>
  intro y w hn hh hF hK
  have HK := zA hK
  have HB := zA (Below.refl w.heap.size w)
  have hu95 := Try.underlying95
  have hu47 := Try.underlying47
  have hu43 := Try.underlying43
  obtain ⟨e0, e1, e2⟩ := er95_f y
  obtain ⟨o1, o2, o3, o4⟩ := (okT_eq _).1 hF.1
  obtain ⟨k2, hk2⟩ := Ev.rounds (shownS y hF.1 hF.2.1).1
  obtain ⟨C, hC⟩ : ∃ q, q = y.f2.map (fun z => digT (er95 z)) := ⟨_, rfl⟩
  rw [← hC] at hk2
  have HSH := zA hk2
  have hCl : C.length = y.f2.length := by rw [hC, List.length_map]
  rw [e0, e2, List.length_map] at o3
  rw [e0] at o1
  obtain ⟨f, hf⟩ : ∃ q : Nat → Pc, q = fun i => pcN s e n (kidAt (er95 y) i) := ⟨_, rfl⟩
  have HPC := zA (show pcN s e (n + 1) (er95 y) = ⟨y.f0, y.f1, C, 0, intsOf (idxT s e y.f0 y.f2.length), (idxT s e y.f0 y.f2.length).map f⟩ from by
   show (⟨(er95 y).f0, (er95 y).f1, (er95 y).f2.map digT, 0, intsOf (idxT s e (er95 y).f0 (er95 y).f2.length), (idxT s e (er95 y).f0 (er95 y).f2.length).map fun i => pcN s e n (kidAt (er95 y) i)⟩ : Pc) = _
   rw [e0, e1, e2, List.length_map, ← hf, List.map_map, hC]; rfl)
  have HKID := zA (fun j hj => by
   have hlen : (er95 y).f2.length = y.f2.length := by rw [e2, List.length_map]
   obtain ⟨hm, hke⟩ := kid_mem (t := er95 y) (i := j) (by omega)
   have he : er95 (rd_N95 y.f2 (j : Int)) = kidAt (er95 y) j := by
    rw [hke, rdS_at y.f2 j hj]; simp only [e2, List.getElem_map]
   have h2 := hL_mem _ _ hm
   rw [hT_eq] at hh
   exact ⟨by rw [he]; exact Fine_kid hF hm, by rw [he]; omega, by rw [hf, he], needS s e y.f0 y.f1 C 0 j (by omega) o1⟩ : ∀ (j : Nat) (hj : j < y.f2.length), Fine (er95 (rd_N95 y.f2 (j : Int))) ∧ hT (er95 (rd_N95 y.f2 (j : Int))) ≤ n ∧ f j = pcN s e n (er95 (rd_N95 y.f2 (j : Int))) ∧ spec_l7Needs.f y.f0 y.f1 C 0 (j : Int) s e = some (needB s e y.f0 j))
  have HFL := zA (show y.f2.length ≤ 5 from by omega)
  have HN := zA (show n ≤ 10 from by omega)
  obtain ⟨An0, cn0, An1, cn1, An2, cn2, hz0, hz1, hz2, _, _, _, _, _, hin2⟩ := at_P95 hK
  have HZ2 := zA hz2
  have HIN := zA hin2
  clear hC hCl hf e0 e1 e2 o1 o2 o3 o4 hn hh hF hK hz0 hz1 hz2 hin2 hk2
  go_enter Try.func42, Try.ntmps42
  go_wp2_with (first | ((with_reducible refine gate_dst (N := 6) rfl ?_); refine box_event ?hg (N := 6) ?hd (cs := #[.slice none 0 0, .slice none 0 0, .slice none 0 0, .int .i64 0, .slice none 0 0, .slice none 0 0]) (t := 47) ?hr ?_; (case hd => rfl); (case hg => rfl); (case hr => first | (go_simp; done) | (go_simp; rfl)); intro g6 hg w3 hbox hb; have n0_ := zA (zAD HB.out hb); have BK6 := zA hbox; have GW6 := zA (by rw [hg]; exact Nat.le_refl _ : w.heap.size ≤ g6); clear HB; have HB := n0_; clear n0_ hb hbox hg) | ((with_reducible refine gate_callee (f := 25) rfl ?_); refine goesL_ (some 11) rfl rfl Try.func25 (by kernel_rfl) rfl #[.pointer (some ⟨y.adr, 0, none⟩)] rfl (by (try simp only [zAA, zAB, zAC]); first | done | rfl) ?_; refine (spec_l6Shown.calls k2 y y.f0 y.f1 C 0 _ (k95p.K_below HB.out HK.out) HSH.out).mono ?_; rintro er w5 ⟨v0, v1, v2, rfl, r0, r1, r2, hb⟩; refine ⟨_, rfl, ?_⟩; obtain ⟨A0, c0, rfl⟩ := Kd.R_slice r0; obtain ⟨A1, c1, rfl⟩ := Kd.R_slice r1; obtain ⟨A2, c2, rfl⟩ := Kd.R_slice r2; have n0_ := zA (zAD HB.out hb); have HA := zA (⟨r0.1, r1.1⟩ : _ ∧ _); have H0 := zA (Kd.R_alloc (Kd.R_lower (Kd.R_tight rfl r0) (zAE HB.out)) (.cells #[.slice A0 y.f0.length c0, .slice A1 y.f1.length c1, .slice A2 C.length c2, .int .i64 0, .slice none 0 0, .slice none 0 0] 47)); have H1 := zA (Kd.R_alloc (Kd.R_lower (Kd.R_tight rfl r1) (zAE HB.out)) (.cells #[.slice A0 y.f0.length c0, .slice A1 y.f1.length c1, .slice A2 C.length c2, .int .i64 0, .slice none 0 0, .slice none 0 0] 47)); have H2 := zA (Kd.R_alloc (Kd.R_lower (Kd.R_tight rfl r2) (zAE HB.out)) (.cells #[.slice A0 y.f0.length c0, .slice A1 y.f1.length c1, .slice A2 C.length c2, .int .i64 0, .slice none 0 0, .slice none 0 0] 47)); have L0 := zA (Kd.R_base r0); have L1 := zA (Kd.R_base r1); have L2 := zA (Kd.R_base r2); have E05 := zA (Kd.R_lt r0); have E15 := zA (Kd.R_lt r1); have E25 := zA (Kd.R_lt r2); have L6 := zA (blk_lt BK6.out); have N65 := zA (Nat.lt_of_lt_of_le (blk_lt BK6.out) hb.size : g6 < w5.heap.size); have n1_ := zA (zM (blk_below BK6.out hb) (.cells #[.slice A0 y.f0.length c0, .slice A1 y.f1.length c1, .slice A2 C.length c2, .int .i64 0, .slice none 0 0, .slice none 0 0] 47)); have BK7' := zA (blk_new w5 (.cells #[.slice A0 y.f0.length c0, .slice A1 y.f1.length c1, .slice A2 C.length c2, .int .i64 0, .slice none 0 0, .slice none 0 0] 47)); clear BK6; have BK6 := n1_; have n2_ := zA (zH n0_.out (.cells #[.slice A0 y.f0.length c0, .slice A1 y.f1.length c1, .slice A2 C.length c2, .int .i64 0, .slice none 0 0, .slice none 0 0] 47)); clear HB; have HB := n2_; clear n0_ n1_ n2_ r0 r1 r2 hb; have hq2 := (HB.out.cell (zB w _ HZ2.out)).trans HZ2.out))
  go_loopg [18] (y.f2.length + 1) (fun kq v18 w' => ∃ (z : Int) (j : Nat) (O : List Int) (xs : List Pc) (A4 : Option Addr) (c4 : Nat) (VK : Option Addr) (ck : Nat), v18 = .int .i64 z ∧ Aside0 (z = (j : Int)) ∧ Aside0 (kq + j = y.f2.length + 1) ∧ Aside0 (j ≤ y.f2.length) ∧ Aside0 (O = intsOf (idxT s e y.f0 j)) ∧ Aside0 (xs = (idxT s e y.f0 j).map f) ∧ Aside0 (w'.heap[w5.heap.size]? = some (.cells #[.slice A0 y.f0.length c0, .slice A1 y.f1.length c1, .slice A2 C.length c2, .int .i64 0, .slice A4 O.length c4, .slice VK xs.length ck] 47 (0, 0))) ∧ Aside0 ((Kd.int .i64).R 3 w' (w5.alloc (.cells #[.slice A0 y.f0.length c0, .slice A1 y.f1.length c1, .slice A2 C.length c2, .int .i64 0, .slice none 0 0, .slice none 0 0] 47)).heap.size (fun _ => True) (.slice A4 O.length c4) O) ∧ Aside0 (Kd.S (kp n) 47 w' (w5.alloc (.cells #[.slice A0 y.f0.length c0, .slice A1 y.f1.length c1, .slice A2 C.length c2, .int .i64 0, .slice none 0 0, .slice none 0 0] 47)).heap.size (fun k_ => True ∧ some k_ ≠ (.slice A4 O.length c4 : Value).ownBlock) (.slice VK xs.length ck) xs) ∧ Aside0 (Kept (w5.alloc (.cells #[.slice A0 y.f0.length c0, .slice A1 y.f1.length c1, .slice A2 C.length c2, .int .i64 0, .slice none 0 0, .slice none 0 0] 47)) w' (fun k_ => k_ = w5.heap.size)) ∧ Aside0 (Below w.heap.size w w'))
  case atStart => exact ⟨0, 0, [], [], none, 0, none, 0, rfl, ⟨rfl⟩, ⟨by omega⟩, ⟨by omega⟩, ⟨rfl⟩, ⟨rfl⟩, BK7', ⟨Kd.R_nil _ _ _ _ _⟩, ⟨Kd.S_nil _ _ _ _ _⟩, zA (Kept.refl _ _), HB⟩
  case round =>
   clear BK7' hq2
   have HB5 := HB
   clear HB
   obtain ⟨z, j, O, xs, A4, c4, VK, ck, rfl, HZ, HKQ, HJ, HO, HXS, BK7, H4, HS, HKP, HB⟩ := hrel
   by_cases hj : j < y.f2.length
   ·obtain ⟨g1, rfl⟩ : ∃ g1, gk = g1 + 1 := ⟨gk - 1, by have := HKQ.out; omega⟩
    have hz := HZ.out
    have h5 := HFL.out
    have hil := idx_len s e y.f0 j
    obtain ⟨hk1, hk2, hk3, hk4⟩ := HKID.out j hj
    rw [← hz] at hk1 hk2 hk3 hk4
    obtain ⟨u, hu⟩ : ∃ q', q' = rd_N95 y.f2 z := ⟨_, rfl⟩
    rw [← hu] at hk1 hk2 hk3
    have p1 : 0 ≤ z := by omega
    have p2 : z < (y.f2.length : Int) := by omega
    obtain ⟨ad, ead, hw3⟩ := at_N95 HIN.out z p1 p2
    have HKU := zA (nd_el95 HIN.out z p1 p2)
    rw [← hu] at hw3 HKU
    subst ead
    have HW3 := zA hw3
    have hx6 := (HB.out.cell (zB w _ HW3.out)).trans HW3.out
    have q1 : decide (z < (y.f2.length : Int)) = true := decide_eq_true p2
    have q2 : (z < (y.f2.length : Int)) = True := eq_true p2
    have q3 : (0 ≤ z) = True := eq_true p1
    have q4 : decide (0 ≤ z) = true := decide_eq_true p1
    have HZ1 := zA (show wrap64 (z + 1) = ((j + 1 : Nat) : Int) from by unfold wrap64; omega)
    have HXL := zA (show xs.length ≤ 5 from by rw [HXS.out, List.length_map]; omega)
    have HOL := zA (show O.length ≤ 5 from by rw [HO.out]; unfold intsOf; rw [List.length_map]; omega)
    have HJO := zA hj
    have hnx := idx_next s e y.f0 j
    obtain ⟨b, hb⟩ : ∃ q', q' = needB s e y.f0 j := ⟨_, rfl⟩
    rw [← hb] at hk4 hnx
    have HNE := zA hk4
    have HU1 := zA hk1
    have HU2 := zA hk2
    have HU3 := zA hk3
    have HNX := zA hnx
    clear hz h5 hil hk1 hk2 hk3 hk4 hu p1 p2 hw3 hj hb hnx
    have hx0 : wr.cell? ⟨w5.heap.size, 0, none⟩ = some (.slice A0 y.f0.length c0) := (zP BK7.out 0).trans rfl
    have hx1 : wr.cell? ⟨w5.heap.size, 1, none⟩ = some (.slice A1 y.f1.length c1) := (zP BK7.out 1).trans rfl
    have hx2 : wr.cell? ⟨w5.heap.size, 2, none⟩ = some (.slice A2 C.length c2) := (zP BK7.out 2).trans rfl
    have hx3 : wr.cell? ⟨w5.heap.size, 3, none⟩ = some (.int .i64 0) := (zP BK7.out 3).trans rfl
    have hx4 := HZ1
    cases b with
    | false =>
     go_wp2_with (first | ((with_reducible refine gate_callee (f := 75) rfl ?_); refine goesL_ (some 28) rfl rfl Try.func75 (by kernel_rfl) rfl #[.agg #[.slice A0 y.f0.length c0, .slice A1 y.f1.length c1, .slice A2 C.length c2, .int .i64 0], .int .i64 z, .string s, .string e] rfl (by (try simp only [zAA, zAB, zAC]); first | done | rfl) ?_; refine (spec_l7Needs.calls A0 c0 y.f0 A1 c1 y.f1 A2 c2 C 0 z s e _ _ (Kd.R_reads' (Kd.R_kept H0.out HKP.out (fun k_ h1 h2 => by have h3_ := E05.out k_ h1.symm; have h4_ : k_ = w5.heap.size := h2; omega))).2.2 (Kd.R_reads' H0.out).2.1 (Kd.R_reads' (Kd.R_kept H1.out HKP.out (fun k_ h1 h2 => by have h3_ := E15.out k_ h1.symm; have h4_ : k_ = w5.heap.size := h2; omega))).2.2 (Kd.R_reads' H1.out).2.1 (Kd.R_reads' (Kd.R_kept H2.out HKP.out (fun k_ h1 h2 => by have h3_ := E25.out k_ h1.symm; have h4_ : k_ = w5.heap.size := h2; omega))).2.2 (Kd.R_reads' H2.out).2.1 HNE.out).mono ?_; rintro er w28 ⟨rfl, hb⟩; refine ⟨_, rfl, ?_⟩; have n0_ := zA (Kd.S_below HS.out hb); have n1_ := zA (blk_below BK7.out hb); have n2_ := zA (zAD HB.out hb); have n3_ := zA (HKP.out.below hb); have n4_ := zA (Kd.R_below H4.out hb); clear HS BK7 HB HKP H4 hb hx0 hx1 hx2 hx3 hx4; have HS := n0_; have BK7 := n1_; have HB := n2_; have HKP := n3_; have H4 := n4_; clear n0_ n1_ n2_ n3_ n4_))
     clear q1 q2 q3 q4 hx6
     go_roundg g1
     case measure => omega
     case rel => exact ⟨wrap64 (z + 1), j + 1, O, xs, A4, c4, VK, ck, rfl, HZ1, ⟨by have := HKQ.out; omega⟩, ⟨by have := HJO.out; omega⟩, ⟨by rw [HNX.out, HO.out]; rfl⟩, ⟨by rw [HNX.out, HXS.out]; rfl⟩, BK7, H4, HS, HKP, HB⟩
    | true =>
     go_wp2_with (first | ((with_reducible refine gate_callee (f := 75) rfl ?_); refine goesL_ (some 28) rfl rfl Try.func75 (by kernel_rfl) rfl #[.agg #[.slice A0 y.f0.length c0, .slice A1 y.f1.length c1, .slice A2 C.length c2, .int .i64 0], .int .i64 z, .string s, .string e] rfl (by (try simp only [zAA, zAB, zAC]); first | done | rfl) ?_; refine (spec_l7Needs.calls A0 c0 y.f0 A1 c1 y.f1 A2 c2 C 0 z s e _ _ (Kd.R_reads' (Kd.R_kept H0.out HKP.out (fun k_ h1 h2 => by have h3_ := E05.out k_ h1.symm; have h4_ : k_ = w5.heap.size := h2; omega))).2.2 (Kd.R_reads' H0.out).2.1 (Kd.R_reads' (Kd.R_kept H1.out HKP.out (fun k_ h1 h2 => by have h3_ := E15.out k_ h1.symm; have h4_ : k_ = w5.heap.size := h2; omega))).2.2 (Kd.R_reads' H1.out).2.1 (Kd.R_reads' (Kd.R_kept H2.out HKP.out (fun k_ h1 h2 => by have h3_ := E25.out k_ h1.symm; have h4_ : k_ = w5.heap.size := h2; omega))).2.2 (Kd.R_reads' H2.out).2.1 HNE.out).mono ?_; rintro er w28 ⟨rfl, hb⟩; refine ⟨_, rfl, ?_⟩; have n0_ := zA (Kd.S_below HS.out hb); have n1_ := zA (blk_below BK7.out hb); have n2_ := zA (zAD HB.out hb); have n3_ := zA (HKP.out.below hb); have n4_ := zA (Kd.R_below H4.out hb); clear HS BK7 HB HKP H4 hb hx0 hx1 hx2 hx3 hx4; have HS := n0_; have BK7 := n1_; have HB := n2_; have HKP := n3_; have H4 := n4_; clear n0_ n1_ n2_ n3_ n4_; have hx4 : w28.cell? ⟨w5.heap.size, 4, none⟩ = some (.slice A4 O.length c4) := (zP BK7.out 4).trans rfl; have hf4 := zO BK7.out 4) | ((with_reducible refine gate_builtin (b := .append) (xs := #[.tmp 30, .tmp 32]) rfl ?_); at_builtin; refine Kd.R_append (Kd.int .i64) (w0 := w28) (w5.alloc (.cells #[.slice A0 y.f0.length c0, .slice A1 y.f1.length c1, .slice A2 C.length c2, .int .i64 0, .slice none 0 0, .slice none 0 0] 47)).heap.size rfl (.tmp 30) (.tmp 32) 44 3 (.int .i64 0) 8 rfl Try.underlying44 info3 rfl (by decide) (by omega) (.slice A4 O.length c4) O z [.int .i64 z] (fun _ => True) (fun _ => False) rfl rfl rfl (fun _ hk => hk.elim) (fun _ _ => trivial) H4.out (Below.refl _ _) HKP.out.1 (by have := HOL.out; omega) ?_; intro v9 w33 ho hb hg hat; obtain ⟨O2, hO2⟩ : ∃ q', q' = O ++ [z] := ⟨_, rfl⟩; rw [← hO2] at ho; have HO2 := zA hO2; clear hO2; have HVB := zA (Kd.R_base H4.out); have n0_ := zA (Kd.S_after HS.out hg hat); obtain ⟨B4, d4, eo⟩ := Kd.R_slice ho; subst eo; have n1_ := zA ((hg.block w5.heap.size (Nat.lt_of_lt_of_le (Nat.lt_of_lt_of_le (Nat.lt_succ_self _) (Nat.le_of_eq (sz1 w5 (.cells #[.slice A0 y.f0.length c0, .slice A1 y.f1.length c1, .slice A2 C.length c2, .int .i64 0, .slice none 0 0, .slice none 0 0] 47)))) HKP.out.1) (fun e_ => by have h3_ := HVB.out _ e_.symm; have h4_ := sz1 w5 (.cells #[.slice A0 y.f0.length c0, .slice A1 y.f1.length c1, .slice A2 C.length c2, .int .i64 0, .slice none 0 0, .slice none 0 0] 47); omega)).trans BK7.out); have n2_ := zA (Below.trans HB.out (hb.mono (zAE HB5.out))); have n3_ := zA (⟨Nat.le_trans HKP.out.1 hb.size, fun i_ hi_ hn_ => (hb.block i_ hi_).trans (HKP.out.2 i_ hi_ hn_)⟩ : Kept (w5.alloc (.cells #[.slice A0 y.f0.length c0, .slice A1 y.f1.length c1, .slice A2 C.length c2, .int .i64 0, .slice none 0 0, .slice none 0 0] 47)) w33 (fun k_ => k_ = w5.heap.size)); have hs4 : w33.cell? ⟨w5.heap.size, 4, none⟩ = some (.slice A4 O.length c4) := (zP n1_.out 4).trans rfl; have hg4 := zO n1_.out 4; clear HS BK7 HB HKP H4 hx4 hf4 hb hg hat HVB; have H4 := zA ho; clear ho; have HS := n0_; have BK7 := n1_; have HB := n2_; have HKP := n3_; clear n0_ n1_ n2_ n3_))
     have n0_ := zA (Kd.S_drew (Kd.S_mono (Kd.S_far (p := ⟨w5.heap.size, 4, none⟩) (Kd.S_bound HS.out) (fun k_ hk_ => by have h3_ := hk_.2.1; have h4_ := sz1 w5 (.cells #[.slice A0 y.f0.length c0, .slice A1 y.f1.length c1, .slice A2 C.length c2, .int .i64 0, .slice none 0 0, .slice none 0 0] 47); show k_ ≠ w5.heap.size; omega) (.slice B4 O2.length d4)) (fun _ hk_ => hk_.1)))
     have n1_ := zA (zN (blk_put (cs' := #[.slice A0 y.f0.length c0, .slice A1 y.f1.length c1, .slice A2 C.length c2, .int .i64 0, .slice B4 O2.length d4, .slice VK xs.length ck]) BK7.out 4 (.slice B4 O2.length d4) rfl))
     have n2_ := zA (zG (Below.setCell (p := ⟨w5.heap.size, 4, none⟩) HB.out (Nat.le_trans GW6.out (Nat.le_of_lt N65.out)) (.slice B4 O2.length d4)))
     have n3_ := zA ((kept_set HKP.out rfl 4 (.slice B4 O2.length d4)).below (below_drew (Below.refl _ _)))
     have n4_ := zA (Kd.R_drew (Kd.R_mono (Kd.R_far (p := ⟨w5.heap.size, 4, none⟩) (Kd.R_bound H4.out) (fun k_ hk_ => by have h3_ := hk_.2.1; have h4_ := sz1 w5 (.cells #[.slice A0 y.f0.length c0, .slice A1 y.f1.length c1, .slice A2 C.length c2, .int .i64 0, .slice none 0 0, .slice none 0 0] 47); show k_ ≠ w5.heap.size; omega) (.slice B4 O2.length d4)) (fun _ _ => trivial)))
     clear HS BK7 HB HKP H4 hx6 hs4 hg4
     have HS := n0_; have BK7 := n1_; have HB := n2_; have HKP := n3_; have H4 := n4_
     clear n0_ n1_ n2_ n3_ n4_
     refine start_ (n := 10) (S := fun w' => w'.cell? ⟨w5.heap.size, 5, none⟩ = some (.slice VK xs.length ck)) (ds := [9]) (bA 10 0) (by kernel_rfl) rfl rfl ((zP BK7.out 5).trans rfl) (fun hHeld => ?_)
     refine with_tabW pcS.tab7 pcS.bits7 (fun HT_ HW_ => ?_)
     generalize (w33.setCell ⟨w5.heap.size, 4, none⟩ (.slice B4 O2.length d4)).drew = w24 at HS BK7 HB HKP H4 hHeld ⊢
     refine wzP 0 35 (bA 10 1) HT_ ?_
     refine wzP 2 37 (bA 10 5) HT_ ?_
     refine wzP 3 38 (bA 10 13) HT_ ?_
     refine wzP 4 39 (bA 10 29) HT_ ?_
     refine wzT 1 36 (bA 10 31) HT_ HW_ hHeld ?_
     refine one_ (i := 5) (N := some 40) (bA 10 63) rfl rfl (one_of HT_.out (by kernel_rfl)) (by decide) (fun K hK => ?_); refine goes_ Try.func42 (by kernel_rfl) rfl #[.pointer (some ⟨u.adr, 0, none⟩), .string s, .string e] (by rfl) rfl rfl (by (try simp only [zAA, zAB, zAC]); first | done | rfl) ?_
     refine (ih u _ HN.out HU2.out HU1.out (k95p.K_below HB.out HKU.out)).mono ?_
     rintro er w25 hpost
     obtain ⟨x, hx⟩ : ∃ q', q' = pcN s e n (er95 u) := ⟨_, rfl⟩
     rw [← hx] at hpost
     have HX := zA (HU3.out.trans hx.symm : f j = x)
     clear hx
     obtain ⟨B0, d0, B1, d1, B2, d2, B4_, d4_, B5, d5, rfl, hM, hb⟩ := hpost
     refine ⟨_, rfl, ?_⟩
     have HB24 := HB
     have HKP24 := HKP
     have HV4 := zA (Kd.R_lt H4.out)
     have n0_ := zA (Kd.S_mono (Kd.S_below (Kd.S_bound HS.out) hb) (fun k_ hk_ => ⟨hk_.1, fun h_ => by have h3_ := hk_.2.2.1; omega⟩) : Kd.S (kp n) 47 w25 (w5.alloc (.cells #[.slice A0 y.f0.length c0, .slice A1 y.f1.length c1, .slice A2 C.length c2, .int .i64 0, .slice none 0 0, .slice none 0 0] 47)).heap.size (fun k_ => (True ∧ some k_ ≠ (.slice B4 O2.length d4 : Value).ownBlock) ∧ ¬ (w24.heap.size ≤ k_)) (.slice VK xs.length ck) xs)
     have HVB := zA (Kd.R_base (Kd.S_R HS.out))
     have HVL := zA (Kd.R_lt (Kd.S_R HS.out))
     have n1_ := zA (blk_below BK7.out hb)
     have n2_ := zA (zAD HB.out hb)
     have n3_ := zA (Nat.le_trans HKP.out.1 hb.size : (w5.alloc (.cells #[.slice A0 y.f0.length c0, .slice A1 y.f1.length c1, .slice A2 C.length c2, .int .i64 0, .slice none 0 0, .slice none 0 0] 47)).heap.size ≤ w25.heap.size)
     have n4_ := zA (hb.size : w24.heap.size ≤ w25.heap.size)
     have n5_ := zA (Kd.R_below H4.out hb)
     have HMX := zA ((kp n).M_mono (fun k_ hk_ => hk_.2.1) ((kp n).M_bound hM) : (kp n).M w25 w24.heap.size (fun k_ => w24.heap.size ≤ k_) x _)
     have h2425 := zA (hb.mono HKP.out.1 : Below (w5.alloc (.cells #[.slice A0 y.f0.length c0, .slice A1 y.f1.length c1, .slice A2 C.length c2, .int .i64 0, .slice none 0 0, .slice none 0 0] 47)).heap.size w24 w25)
     clear HS BK7 HB HKP H4 hM hb hHeld
     have HS := n0_; have BK7 := n1_; have HB := n2_; have HS25 := n3_; have HS24 := n4_; have H4 := n5_
     clear n0_ n1_ n2_ n3_ n4_ n5_
     refine hK.out _ _ ((zP BK7.out 5).trans rfl) (fun hHeld => ?_); clear hK K; refine wzN 40 ?_
     refine one_ (i := 6) (N := some 41) (bA 10 127) rfl rfl (one_of HT_.out (by kernel_rfl)) (by decide) (fun K hK => ?_); refine value_ (w1 := ?_) (v := ?_) (by rfl) rfl ?_ ?_; rotate_left 2
     ·go_simp
      constructor
      ·rfl
      ·rfl
     refine hK.out _ _ ((zP (zM BK7.out _) 5).trans rfl) (fun hHeld => ?_); clear hK K; refine wzN 41 ?_
     refine one_ (i := 7) (N := some 42) (bA 10 255) rfl rfl (one_of HT_.out (by kernel_rfl)) (by decide) (fun K hK => ?_)
     refine Kd.S_append_step (kp n) (w0 := w24) (w5.alloc (.cells #[.slice A0 y.f0.length c0, .slice A1 y.f1.length c1, .slice A2 C.length c2, .int .i64 0, .slice none 0 0, .slice none 0 0] 47)).heap.size (by rfl) (.tmp 36) (.tmp 41) 45 47 (.agg #[(.slice none 0 0), (.slice none 0 0), (.slice none 0 0), (.int .i64 0), (.slice none 0 0), (.slice none 0 0)]) 128 rfl Try.underlying45 (by rw [kp_sz]; exact info47) (by rw [kp_sz]; rfl) (by rw [kp_sz]; omega) (by omega) (.slice VK xs.length ck) xs x [.slice B0 x.K.length d0, .slice B1 x.V.length d1, .slice B2 x.C.length d2, .int .i64 x.g, .slice B4_ x.O.length d4_, .slice B5 x.L.length d5] (fun k_ => True ∧ some k_ ≠ (.slice B4 O2.length d4 : Value).ownBlock) (fun k_ => w24.heap.size ≤ k_) rfl rfl ((kp n).M_lower HKP24.out.1 HMX.out) (fun k_ hk_ => ⟨⟨trivial, fun e_ => by have h3_ := HV4.out k_ e_.symm; omega⟩, fun e_ => by have h3_ := HVL.out k_ e_.symm; omega⟩) (fun k_ hk_ => ⟨trivial, fun e_ => by have h3_ := HV4.out k_ e_.symm; have h4_ := HS24.out; omega⟩) HS.out h2425.out HS25.out (by have := HXL.out; omega) ?_
     intro v9 w26 ho hb9 hg hat
     have n1_ := zA ((hg.block w5.heap.size (Nat.lt_of_lt_of_le (Nat.lt_of_lt_of_le (Nat.lt_succ_self _) (Nat.le_of_eq (sz1 w5 (.cells #[.slice A0 y.f0.length c0, .slice A1 y.f1.length c1, .slice A2 C.length c2, .int .i64 0, .slice none 0 0, .slice none 0 0] 47)))) HS25.out) (fun e_ => by have h3_ := HVB.out _ e_.symm; have h4_ := sz1 w5 (.cells #[.slice A0 y.f0.length c0, .slice A1 y.f1.length c1, .slice A2 C.length c2, .int .i64 0, .slice none 0 0, .slice none 0 0] 47); omega)).trans BK7.out)
     have n2_ := zA (Below.trans HB24.out (hb9.mono (zAE HB5.out)))
     have n3_ := zA (⟨Nat.le_trans HKP24.out.1 hb9.size, fun i_ hi_ hn_ => (hb9.block i_ hi_).trans (HKP24.out.2 i_ hi_ hn_)⟩ : Kept (w5.alloc (.cells #[.slice A0 y.f0.length c0, .slice A1 y.f1.length c1, .slice A2 C.length c2, .int .i64 0, .slice none 0 0, .slice none 0 0] 47)) w26 (fun k_ => k_ = w5.heap.size))
     have n4_ := zA (Kd.R_over' H4.out (Kd.S_typed HS.out) (by decide) hg)
     clear BK7 HS HB HKP24 H4 hg hat hb9 hHeld
     have BK7 := n1_; have HB := n2_; have HKP := n3_; have H4 := n4_
     clear n1_ n2_ n3_ n4_
     obtain ⟨ys, hys⟩ : ∃ q', q' = xs ++ [x] := ⟨_, rfl⟩
     rw [← hys] at ho
     have HYS := zA hys
     clear hys
     obtain ⟨VK2, ck2, eo⟩ := Kd.S_slice ho
     subst eo
     have HS := zA ho
     clear ho
     refine hK.out _ _ ((zP BK7.out 5).trans rfl) (fun hHeld => ?_); clear hK K; refine wzN 42 ?_
     refine wzP 8 43 (bA 10 511) HT_ ?_
     refine last_ (i := 9) (N := none) (bA 10 1023) rfl rfl (one_of HT_.out (by kernel_rfl)) (by decide) (fun K hK => ?_); have hs5 : w26.cell? ⟨w5.heap.size, 5, none⟩ = some (.slice VK xs.length ck) := (zP BK7.out 5).trans rfl; have hf5 := zO BK7.out 5; refine skip_ (w1 := ?_) (by rfl) rfl ?_ ?_; rotate_left
     ·go_simp
      rfl
     refine hK.out _ _ ?_; clear hK K; refine done_ (done_of HT_.out (by kernel_rfl)) ?_
     try go_wp2
     clear q1 q2 q3 q4 hs5 hf5 hHeld
     have HBK := zA (blk_put (cs' := #[.slice A0 y.f0.length c0, .slice A1 y.f1.length c1, .slice A2 C.length c2, .int .i64 0, .slice B4 O2.length d4, .slice VK2 ys.length ck2]) BK7.out 5 (.slice VK2 ys.length ck2) rfl)
     have HSF := zA (Kd.S_mono (Kd.S_far (p := ⟨w5.heap.size, 5, none⟩) (Kd.S_bound HS.out) (fun k_ hk_ => by have h3_ := hk_.2.1; have h4_ := sz1 w5 (.cells #[.slice A0 y.f0.length c0, .slice A1 y.f1.length c1, .slice A2 C.length c2, .int .i64 0, .slice none 0 0, .slice none 0 0] 47); show k_ ≠ w5.heap.size; omega) (.slice VK2 ys.length ck2)) (fun _ hk_ => hk_.1))
     have HRF := zA (Kd.R_mono (Kd.R_far (p := ⟨w5.heap.size, 5, none⟩) (Kd.R_bound H4.out) (fun k_ hk_ => by have h3_ := hk_.2.1; have h4_ := sz1 w5 (.cells #[.slice A0 y.f0.length c0, .slice A1 y.f1.length c1, .slice A2 C.length c2, .int .i64 0, .slice none 0 0, .slice none 0 0] 47); show k_ ≠ w5.heap.size; omega) (.slice VK2 ys.length ck2)) (fun _ _ => trivial))
     go_roundg g1
     case measure => omega
     case rel => exact ⟨wrap64 (z + 1), j + 1, O2, ys, B4, d4, VK2, ck2, rfl, HZ1, ⟨by have := HKQ.out; omega⟩, ⟨by have := HJO.out; omega⟩, ⟨by rw [HNX.out, if_pos trivial, HO2.out, HO.out, HZ.out]; unfold intsOf; rw [List.map_append]; rfl⟩, ⟨by rw [HNX.out, if_pos trivial, HYS.out, HXS.out, List.map_append, List.map_cons, HX.out]; rfl⟩, HBK, HRF, HSF, zA (kept_set HKP.out rfl 5 _), zA (Below.setCell HB.out (Nat.le_trans GW6.out (Nat.le_of_lt N65.out)) _)⟩
   ·have hz := HZ.out
    have q1 : decide (z < (y.f2.length : Int)) = false := decide_eq_false (by omega)
    have hjl : j = y.f2.length := by have := HJ.out; omega
    have BK6w := zA (blk_kept BK6.out HKP.out (fun h_ => by have h3_ := N65.out; have h4_ : g6 = w5.heap.size := h_; omega))
    have HNB := zA (Nat.ne_of_lt N65.out)
    have HPQ := zA (show pcN s e (n + 1) (er95 y) = ⟨y.f0, y.f1, C, 0, O, xs⟩ from by rw [HPC.out, HO.out, HXS.out, hjl])
    clear hz hj hjl
    obtain ⟨hc7_0, hc7_1, hc7_2, hc7_3, hc7_4, hc7_5⟩ := cell6 BK7.out; have hf7 := zO BK7.out
    obtain ⟨hc6_0, hc6_1, hc6_2, hc6_3, hc6_4, hc6_5⟩ := cell6 BK6w.out; have hf6 := zO BK6w.out
    have hn1 := HNB.out
    have hn2 := HNB.out.symm
    go_wp2
    refine bodyPost_ret (results_cell_row rfl _ _ g6 47 #[.slice A0 y.f0.length c0, .slice A1 y.f1.length c1, .slice A2 C.length c2, .int .i64 0, .slice A4 O.length c4, .slice VK xs.length ck] (0, 0) _ rfl (by refine blk_put (cs := #[.slice A0 y.f0.length c0, .slice A1 y.f1.length c1, .slice A2 C.length c2, .int .i64 0, .slice A4 O.length c4, .slice none 0 0]) ?_ 5 _ rfl; refine blk_put (cs := #[.slice A0 y.f0.length c0, .slice A1 y.f1.length c1, .slice A2 C.length c2, .int .i64 0, .slice none 0 0, .slice none 0 0]) ?_ 4 _ rfl; refine blk_put (cs := #[.slice A0 y.f0.length c0, .slice A1 y.f1.length c1, .slice A2 C.length c2, .int .i64 0, .slice none 0 0, .slice none 0 0]) ?_ 3 _ rfl; refine blk_put (cs := #[.slice A0 y.f0.length c0, .slice A1 y.f1.length c1, .slice none 0 0, .int .i64 0, .slice none 0 0, .slice none 0 0]) ?_ 2 _ rfl; refine blk_put (cs := #[.slice A0 y.f0.length c0, .slice none 0 0, .slice none 0 0, .int .i64 0, .slice none 0 0, .slice none 0 0]) ?_ 1 _ rfl; refine blk_put (cs := #[.slice none 0 0, .slice none 0 0, .slice none 0 0, .int .i64 0, .slice none 0 0, .slice none 0 0]) ?_ 0 _ rfl; exact BK6w.out) Try.underlying47 rfl (by kernel_rfl)) rfl ?_
    rw [HPQ.out]
    refine ⟨A0, c0, A1, c1, A2, c2, A4, c4, VK, ck, rfl, ?_, ?_⟩
    ·have hKf : Kept wr (((((((wr).setCell ⟨g6, 0, none⟩ (.slice A0 y.f0.length c0)).setCell ⟨g6, 1, none⟩ (.slice A1 y.f1.length c1)).setCell ⟨g6, 2, none⟩ (.slice A2 C.length c2)).setCell ⟨g6, 3, none⟩ (.int .i64 0)).setCell ⟨g6, 4, none⟩ (.slice A4 O.length c4)).setCell ⟨g6, 5, none⟩ (.slice VK xs.length ck)) (fun k_ => k_ = g6) := kept_set (kept_set (kept_set (kept_set (kept_set (kept_set (Kept.refl wr (fun k_ => k_ = g6)) rfl 0 (.slice A0 y.f0.length c0)) rfl 1 (.slice A1 y.f1.length c1)) rfl 2 (.slice A2 C.length c2)) rfl 3 (.int .i64 0)) rfl 4 (.slice A4 O.length c4)) rfl 5 (.slice VK xs.length ck)
     have hlow := Nat.le_trans (zAE HB5.out) (Nat.le_refl _)
     have hsz := sz1 w5 (.cells #[.slice A0 y.f0.length c0, .slice A1 y.f1.length c1, .slice A2 C.length c2, .int .i64 0, .slice none 0 0, .slice none 0 0] 47)
     have t0 := Kd.R_kept (Kd.R_kept H0.out HKP.out (fun k_ h1 h2 => by have h3_ := E05.out k_ h1.symm; have h4_ : k_ = w5.heap.size := h2; omega)) hKf (fun k_ h1 h2 => by have h3_ := L0.out k_ h1.symm; have h5_ := L6.out; have h4_ : k_ = g6 := h2; omega)
     have t1 := Kd.R_kept (Kd.R_kept H1.out HKP.out (fun k_ h1 h2 => by have h3_ := E15.out k_ h1.symm; have h4_ : k_ = w5.heap.size := h2; omega)) hKf (fun k_ h1 h2 => by have h3_ := L1.out k_ h1.symm; have h5_ := L6.out; have h4_ : k_ = g6 := h2; omega)
     have t2 := Kd.R_kept (Kd.R_kept H2.out HKP.out (fun k_ h1 h2 => by have h3_ := E25.out k_ h1.symm; have h4_ : k_ = w5.heap.size := h2; omega)) hKf (fun k_ h1 h2 => by have h3_ := L2.out k_ h1.symm; have h5_ := L6.out; have h4_ : k_ = g6 := h2; omega)
     have t4 := Kd.R_kept (Kd.R_bound H4.out) hKf (fun k_ h1 h2 => by have h3_ := h1.2.1; have h5_ := N65.out; have h4_ : k_ = g6 := h2; omega)
     have t5 := Kd.S_kept (Kd.S_bound HS.out) hKf (fun k_ h1 h2 => by have h3_ := h1.2.1; have h5_ := N65.out; have h4_ : k_ = g6 := h2; omega)
     refine pc_mkM (n := n) (x := ⟨y.f0, y.f1, C, 0, O, xs⟩) (Kd.R_mono t0 (fun _ _ => trivial)) (Kd.R_mono t1 (fun _ _ => trivial)) (Kd.R_mono t2 (fun _ _ => trivial)) (Kd.R_lower (Kd.R_mono t4 (fun _ _ => trivial)) hlow) (Kd.S_lower t5 hlow) ⟨fun k_ hk_ => ⟨fun e_ => (HA.out.1 k_ hk_).1 e_.symm, fun e_ => (HA.out.1 k_ hk_).2 e_.symm⟩, fun k_ hk_ e_ => (HA.out.2 k_ hk_).2 e_.symm⟩ (fun k_ hk_ => ⟨trivial, fun e_ => ?_, fun e_ => ?_, fun e_ => ?_, hk_.1.2⟩)
     ·have h1_ := E05.out k_ e_.symm; have h2_ := hk_.2.1; omega
     ·have h1_ := E15.out k_ e_.symm; have h2_ := hk_.2.1; omega
     ·have h1_ := E25.out k_ e_.symm; have h2_ := hk_.2.1; omega
    ·exact Below.setCell (p := ⟨g6, 5, none⟩) (Below.setCell (p := ⟨g6, 4, none⟩) (Below.setCell (p := ⟨g6, 3, none⟩) (Below.setCell (p := ⟨g6, 2, none⟩) (Below.setCell (p := ⟨g6, 1, none⟩) (Below.setCell (p := ⟨g6, 0, none⟩) (HB.out) GW6.out (.slice A0 y.f0.length c0)) GW6.out (.slice A1 y.f1.length c1)) GW6.out (.slice A2 C.length c2)) GW6.out (.int .i64 0)) GW6.out (.slice A4 O.length c4)) GW6.out (.slice VK xs.length ck)
end Go.Proofs.Ytnplghcbdaiogaa.RT
end
section
namespace Go.Proofs.Ytnplghcbdaiogaa.RU
open Go.RowKit Go.Proofs.YtnplghcbdaiogaaW.PrintWords Go.Proofs.YtnplghcbdaiogaaW.PrintLast Go.Proofs.YtnplghcbdaiogaaW.PrintMore Go.Proofs.Ytnplghcbdaiogaa.PB Go.Proofs.Ytnplghcbdaiogaa.PW Go.Proofs.Ytnplghcbdaiogaa.QW Go.Proofs.Ytnplghcbdaiogaa.PA Go.Proofs.Ytnplghcbdaiogaa.QP Go.Proofs.Ytnplghcbdaiogaa.QO Go.Proofs.Ytnplghcbdaiogaa.QQ Go.Proofs.Ytnplghcbdaiogaa.QZ Go.Proofs.Ytnplghcbdaiogaa.QC Go.Proofs.Ytnplghcbdaiogaa.PR Go.Proofs.Ytnplghcbdaiogaa.RH Go.Proofs.Ytnplghcbdaiogaa.RF Go.Proofs.Ytnplghcbdaiogaa.RL Go.Proofs.Ytnplghcbdaiogaa.RM Go.Proofs.Ytnplghcbdaiogaa.RN Go.Proofs.Ytnplghcbdaiogaa.RR Go.Proofs.Ytnplghcbdaiogaa.RS Go.Proofs.Ytnplghcbdaiogaa.RT
open Go.Proofs.Ytnplghcbdaiogaa.RG (kept_set kept_more)
attribute [local go_sem] max2_int min2_int max_two min_two max_three min_three max_four min_four
set_option linter.unusedVariables false
set_option linter.unusedSimpArgs false
set_option maxHeartbeats 4000000
set_option maxRecDepth 100000
def PostOfP (w : World) (x : Pc) (b : Bool) (e : Ending) (w' : World) : Prop := ∃ A0 c0 A1 c1 A2 c2 A4 c4 A5 c5, e = .returned (.tuple #[.agg #[.slice A0 x.K.length c0, .slice A1 x.V.length c1, .slice A2 x.C.length c2, .int .i64 x.g, .slice A4 x.O.length c4, .slice A5 x.L.length c5], .bool b]) ∧ (kp 10).M w' w.heap.size (fun _ => True) x [.slice A0 x.K.length c0, .slice A1 x.V.length c1, .slice A2 x.C.length c2, .int .i64 x.g, .slice A4 x.O.length c4, .slice A5 x.L.length c5] ∧ Below w.heap.size w w'
theorem piecesOfS (ps : List S97) (hG : Sml ps) (A : Option Addr) (c : Nat) (hc : ps.length ≤ c) (s e : ByteArray) (w : World) (hC : Kd.C k97 w A ps.length ps) :
  Calls Try.prog 17 #[.agg #[.slice A ps.length c], .string s, .string e] w fun er w' => PostOfP w (piecesF ps s e).1 (piecesF ps s e).2 er w' := by
 have HG := zA hG
 have HC := zA hC
 have HLC := zA hc
 have HB := zA (Below.refl w.heap.size w)
 have hu30 := Try.underlying30
 have hu47 := Try.underlying47
 clear hG hC hc
 cases hR : treeG ps 10 with
 | none =>
  have HR := zA (show treeG ps 10 = none by exact hR)
  have RR := zA (show piecesF ps s e = (zPc, false) by unfold piecesF; rw [hR])
  clear hR
  rw [RR.out]
  go_enter Try.func17, Try.ntmps17
  go_wp2_with (first | ((with_reducible refine gate_dst (N := 3) rfl ?_); refine box_event ?hg (N := 3) ?hd (cs := #[.slice A ps.length c]) (t := 30) ?hr ?_; (case hd => rfl); (case hg => rfl); (case hr => first | (go_simp; done) | (go_simp; rfl)); intro gb1 hg w3 hbox hb; have n0_ := zA (zAD HB.out hb); have BK1 := zA hbox; clear HB; have HB := n0_; clear n0_ hb hbox hg) | ((with_reducible refine gate_dst (N := 6) rfl ?_); refine box_event ?hg (N := 6) ?hd (cs := #[.slice none 0 0, .slice none 0 0, .slice none 0 0, .int .i64 0, .slice none 0 0, .slice none 0 0]) (t := 47) ?hr ?_; (case hd => rfl); (case hg => rfl); (case hr => first | (go_simp; done) | (go_simp; rfl)); intro g6 hg w6 hbox hb; have GW6 := zA (by rw [hg]; exact zAE HB.out : w.heap.size ≤ g6); have n0_ := zA (zAD HB.out hb); have n1_ := zA (blk_below BK1.out hb); have BK6 := zA hbox; clear HB BK1; have HB := n0_; have BK1 := n1_; clear n0_ n1_ hb hbox hg; have hx1 : w6.cell? ⟨gb1, 0, none⟩ = some (.slice A ps.length c) := (zP BK1.out 0).trans rfl; have hI := ofS ps HG.out A c HLC.out w6 (Kd.C_below HC.out HB.out); rw [HR.out] at hI) | ((with_reducible refine gate_callee (f := 23) rfl ?_); refine goesL_ (some 12) rfl rfl Try.func23 (by kernel_rfl) rfl #[.agg #[.slice A ps.length c]] rfl (by (try simp only [zAA, zAB, zAC]); first | done | rfl) ?_; refine hI.mono ?_; clear hI; rintro er w4 ⟨rfl, hb⟩; refine ⟨_, rfl, ?_⟩; have n1_ := zA (blk_below BK6.out hb); have n0_ := zA (zAD HB.out hb); clear HB BK1 BK6 hb hx1; have HB := n0_; have BK6 := n1_; clear n0_ n1_; obtain ⟨hc6_0, hc6_1, hc6_2, hc6_3, hc6_4, hc6_5⟩ := cell6 BK6.out; have hf6 := zO BK6.out))
  refine bodyPost_ret (results_ct rfl _ _ g6 47 #[.slice none 0 0, .slice none 0 0, .slice none 0 0, .int .i64 0, .slice none 0 0, .slice none 0 0] (0, 0) _ rfl (by refine blk_put (cs := #[.slice none 0 0, .slice none 0 0, .slice none 0 0, .int .i64 0, .slice none 0 0, .slice none 0 0]) ?_ 5 _ rfl; refine blk_put (cs := #[.slice none 0 0, .slice none 0 0, .slice none 0 0, .int .i64 0, .slice none 0 0, .slice none 0 0]) ?_ 4 _ rfl; refine blk_put (cs := #[.slice none 0 0, .slice none 0 0, .slice none 0 0, .int .i64 0, .slice none 0 0, .slice none 0 0]) ?_ 3 _ rfl; refine blk_put (cs := #[.slice none 0 0, .slice none 0 0, .slice none 0 0, .int .i64 0, .slice none 0 0, .slice none 0 0]) ?_ 2 _ rfl; refine blk_put (cs := #[.slice none 0 0, .slice none 0 0, .slice none 0 0, .int .i64 0, .slice none 0 0, .slice none 0 0]) ?_ 1 _ rfl; refine blk_put (cs := #[.slice none 0 0, .slice none 0 0, .slice none 0 0, .int .i64 0, .slice none 0 0, .slice none 0 0]) ?_ 0 _ rfl; exact BK6.out) Try.underlying47 rfl (by kernel_rfl)) rfl ?_
  exact ⟨none, 0, none, 0, none, 0, none, 0, none, 0, rfl, pc_mkM (n := 9) (x := zPc) (Kd.R_nil _ _ _ _ _) (Kd.R_nil _ _ _ _ _) (Kd.R_nil _ _ _ _ _) (Kd.R_nil _ _ _ _ _) (ok5 := fun _ => False) (Kd.S_nil _ _ _ _ _) ap3_nil (fun _ h_ => h_.elim), Below.setCell (p := ⟨g6, 5, none⟩) (Below.setCell (p := ⟨g6, 4, none⟩) (Below.setCell (p := ⟨g6, 3, none⟩) (Below.setCell (p := ⟨g6, 2, none⟩) (Below.setCell (p := ⟨g6, 1, none⟩) (Below.setCell (p := ⟨g6, 0, none⟩) (HB.out) GW6.out (.slice none 0 0)) GW6.out (.slice none 0 0)) GW6.out (.slice none 0 0)) GW6.out (.int .i64 0)) GW6.out (.slice none 0 0)) GW6.out (.slice none 0 0)⟩
 | some t =>
  have HR := zA (show treeG ps 10 = some t by exact hR)
  obtain ⟨hf, hh⟩ := fine_of hR
  obtain ⟨b, hb⟩ : ∃ q, q = rangeB s e := ⟨_, rfl⟩
  have HPR := zA (show spec_l7Range.f s e = some b from by rw [hb]; exact rangeS s e)
  have HF := zA hf
  have HH := zA hh
  clear hf hh
  cases b with
  | false =>
   have RR := zA (show piecesF ps s e = (zPc, false) by unfold piecesF; rw [hR, ← hb]; rfl)
   clear hR hb
   rw [RR.out]
   go_enter Try.func17, Try.ntmps17
   go_wp2_with (first | ((with_reducible refine gate_dst (N := 3) rfl ?_); refine box_event ?hg (N := 3) ?hd (cs := #[.slice A ps.length c]) (t := 30) ?hr ?_; (case hd => rfl); (case hg => rfl); (case hr => first | (go_simp; done) | (go_simp; rfl)); intro gb1 hg w3 hbox hb; have n0_ := zA (zAD HB.out hb); have BK1 := zA hbox; clear HB; have HB := n0_; clear n0_ hb hbox hg) | ((with_reducible refine gate_dst (N := 6) rfl ?_); refine box_event ?hg (N := 6) ?hd (cs := #[.slice none 0 0, .slice none 0 0, .slice none 0 0, .int .i64 0, .slice none 0 0, .slice none 0 0]) (t := 47) ?hr ?_; (case hd => rfl); (case hg => rfl); (case hr => first | (go_simp; done) | (go_simp; rfl)); intro g6 hg w6 hbox hb; have GW6 := zA (by rw [hg]; exact zAE HB.out : w.heap.size ≤ g6); have n0_ := zA (zAD HB.out hb); have n1_ := zA (blk_below BK1.out hb); have BK6 := zA hbox; clear HB BK1; have HB := n0_; have BK1 := n1_; clear n0_ n1_ hb hbox hg; have hx1 : w6.cell? ⟨gb1, 0, none⟩ = some (.slice A ps.length c) := (zP BK1.out 0).trans rfl; have hI := ofS ps HG.out A c HLC.out w6 (Kd.C_below HC.out HB.out); rw [HR.out] at hI) | ((with_reducible refine gate_callee (f := 23) rfl ?_); refine goesL_ (some 12) rfl rfl Try.func23 (by kernel_rfl) rfl #[.agg #[.slice A ps.length c]] rfl (by (try simp only [zAA, zAB, zAC]); first | done | rfl) ?_; refine hI.mono ?_; clear hI; rintro er w4 ⟨y, rfl, hx, hM, hb⟩; refine ⟨_, rfl, ?_⟩; have n1_ := zA (blk_below BK6.out hb); have n0_ := zA (zAD HB.out hb); have HXE := zA hx; have HM := zA (k95p.K_of_M hM); clear HB BK1 BK6 hb hx1 hx hM; have HB := n0_; have BK6 := n1_; clear n0_ n1_; obtain ⟨hc6_0, hc6_1, hc6_2, hc6_3, hc6_4, hc6_5⟩ := cell6 BK6.out; have hf6 := zO BK6.out) | ((with_reducible refine gate_callee (f := 41) rfl ?_); (try (refine gate_guard (by rfl) ?_; dsimp only)); refine goesL_ (some 20) rfl rfl Try.func41 (by kernel_rfl) rfl #[.string s, .string e] rfl (by (try simp only [zAA, zAB, zAC]); first | done | rfl) ?_; refine (spec_l7Range.calls s e _ _ HPR.out).mono ?_; rintro er w5 ⟨rfl, m5, hw⟩; rw [hw]; clear hw w5; refine ⟨_, rfl, ?_⟩))
   repeat (go_quiet (fail); try go_wp2_with (first | ((with_reducible refine gate_callee (f := 41) rfl ?_); (try (refine gate_guard (by rfl) ?_; dsimp only)); refine goesL_ (some 20) rfl rfl Try.func41 (by kernel_rfl) rfl #[.string s, .string e] rfl (by (try simp only [zAA, zAB, zAC]); first | done | rfl) ?_; refine (spec_l7Range.calls s e _ _ HPR.out).mono ?_; rintro er w5 ⟨rfl, m5, hw⟩; rw [hw]; clear hw w5; refine ⟨_, rfl, ?_⟩)))
   refine bodyPost_ret (results_ct rfl _ _ g6 47 #[.slice none 0 0, .slice none 0 0, .slice none 0 0, .int .i64 0, .slice none 0 0, .slice none 0 0] (0, 0) _ rfl (by refine blk_put (cs := #[.slice none 0 0, .slice none 0 0, .slice none 0 0, .int .i64 0, .slice none 0 0, .slice none 0 0]) ?_ 5 _ rfl; refine blk_put (cs := #[.slice none 0 0, .slice none 0 0, .slice none 0 0, .int .i64 0, .slice none 0 0, .slice none 0 0]) ?_ 4 _ rfl; refine blk_put (cs := #[.slice none 0 0, .slice none 0 0, .slice none 0 0, .int .i64 0, .slice none 0 0, .slice none 0 0]) ?_ 3 _ rfl; refine blk_put (cs := #[.slice none 0 0, .slice none 0 0, .slice none 0 0, .int .i64 0, .slice none 0 0, .slice none 0 0]) ?_ 2 _ rfl; refine blk_put (cs := #[.slice none 0 0, .slice none 0 0, .slice none 0 0, .int .i64 0, .slice none 0 0, .slice none 0 0]) ?_ 1 _ rfl; refine blk_put (cs := #[.slice none 0 0, .slice none 0 0, .slice none 0 0, .int .i64 0, .slice none 0 0, .slice none 0 0]) ?_ 0 _ rfl; exact BK6.out) Try.underlying47 rfl (by kernel_rfl)) rfl ?_
   exact ⟨none, 0, none, 0, none, 0, none, 0, none, 0, rfl, pc_mkM (n := 9) (x := zPc) (Kd.R_nil _ _ _ _ _) (Kd.R_nil _ _ _ _ _) (Kd.R_nil _ _ _ _ _) (Kd.R_nil _ _ _ _ _) (ok5 := fun _ => False) (Kd.S_nil _ _ _ _ _) ap3_nil (fun _ h_ => h_.elim), Below.setCell (p := ⟨g6, 5, none⟩) (Below.setCell (p := ⟨g6, 4, none⟩) (Below.setCell (p := ⟨g6, 3, none⟩) (Below.setCell (p := ⟨g6, 2, none⟩) (Below.setCell (p := ⟨g6, 1, none⟩) (Below.setCell (p := ⟨g6, 0, none⟩) ((zF HB.out m5)) GW6.out (.slice none 0 0)) GW6.out (.slice none 0 0)) GW6.out (.slice none 0 0)) GW6.out (.int .i64 0)) GW6.out (.slice none 0 0)) GW6.out (.slice none 0 0)⟩
  | true =>
   have RR := zA (show piecesF ps s e = (pcN s e 10 t, true) by unfold piecesF; rw [hR, ← hb]; rfl)
   clear hR hb
   rw [RR.out]
   go_enter Try.func17, Try.ntmps17
   go_wp2_with (first | ((with_reducible refine gate_dst (N := 3) rfl ?_); refine box_event ?hg (N := 3) ?hd (cs := #[.slice A ps.length c]) (t := 30) ?hr ?_; (case hd => rfl); (case hg => rfl); (case hr => first | (go_simp; done) | (go_simp; rfl)); intro gb1 hg w3 hbox hb; have n0_ := zA (zAD HB.out hb); have BK1 := zA hbox; clear HB; have HB := n0_; clear n0_ hb hbox hg) | ((with_reducible refine gate_dst (N := 6) rfl ?_); refine box_event ?hg (N := 6) ?hd (cs := #[.slice none 0 0, .slice none 0 0, .slice none 0 0, .int .i64 0, .slice none 0 0, .slice none 0 0]) (t := 47) ?hr ?_; (case hd => rfl); (case hg => rfl); (case hr => first | (go_simp; done) | (go_simp; rfl)); intro g6 hg w6 hbox hb; have GW6 := zA (by rw [hg]; exact zAE HB.out : w.heap.size ≤ g6); have n0_ := zA (zAD HB.out hb); have n1_ := zA (blk_below BK1.out hb); have BK6 := zA hbox; clear HB BK1; have HB := n0_; have BK1 := n1_; clear n0_ n1_ hb hbox hg; have hx1 : w6.cell? ⟨gb1, 0, none⟩ = some (.slice A ps.length c) := (zP BK1.out 0).trans rfl; have hI := ofS ps HG.out A c HLC.out w6 (Kd.C_below HC.out HB.out); rw [HR.out] at hI) | ((with_reducible refine gate_callee (f := 23) rfl ?_); refine goesL_ (some 12) rfl rfl Try.func23 (by kernel_rfl) rfl #[.agg #[.slice A ps.length c]] rfl (by (try simp only [zAA, zAB, zAC]); first | done | rfl) ?_; refine hI.mono ?_; clear hI; rintro er w4 ⟨y, rfl, hx, hM, hb⟩; refine ⟨_, rfl, ?_⟩; have n1_ := zA (blk_below BK6.out hb); have n0_ := zA (zAD HB.out hb); have HXE := zA hx; have HM := zA (k95p.K_of_M hM); clear HB BK1 BK6 hb hx1 hx hM; have HB := n0_; have BK6 := n1_; clear n0_ n1_; obtain ⟨hc6_0, hc6_1, hc6_2, hc6_3, hc6_4, hc6_5⟩ := cell6 BK6.out; have hf6 := zO BK6.out) | ((with_reducible refine gate_callee (f := 41) rfl ?_); (try (refine gate_guard (by rfl) ?_; dsimp only)); refine goesL_ (some 20) rfl rfl Try.func41 (by kernel_rfl) rfl #[.string s, .string e] rfl (by (try simp only [zAA, zAB, zAC]); first | done | rfl) ?_; refine (spec_l7Range.calls s e _ _ HPR.out).mono ?_; rintro er w5 ⟨rfl, m5, hw⟩; rw [hw]; clear hw w5; refine ⟨_, rfl, ?_⟩) | ((with_reducible refine gate_callee (f := 42) rfl ?_); refine goesL_ (some 27) rfl rfl Try.func42 (by kernel_rfl) rfl #[.pointer (some ⟨y.adr, 0, none⟩), .string s, .string e] rfl (by (try simp only [zAA, zAB, zAC]); first | done | rfl) ?_; refine (piecesS s e 10 y _ (Nat.le_refl _) (by rw [HXE.out]; exact HH.out) (by rw [HXE.out]; exact HF.out) (by repeat (first | exact HM.out | apply k95p_drewN | apply k95p_drew))).mono ?_; rintro er w27 hpost; rw [HXE.out] at hpost; obtain ⟨x, hx⟩ : ∃ q', q' = pcN s e 10 t := ⟨_, rfl⟩; rw [← hx] at hpost; have HX := zA hx; clear hx; obtain ⟨A0, c0, A1, c1, A2, c2, A4, c4, A5, c5, rfl, hM2, hb⟩ := hpost; refine ⟨_, rfl, ?_⟩; have HPM := zA hM2; have L6 := zA (blk_lt BK6.out); have n0_ := zA (zAD (zF HB.out m5) hb : Below w.heap.size w w27); have n1_ := zA (blk_below (blk_drewN BK6.out m5) hb); have HW4 := zA (zAE HB.out); clear HB BK6 hM2 hb hc6_0 hc6_1 hc6_2 hc6_3 hc6_4 hc6_5 hf6; have HB := n0_; have BK6 := n1_; clear n0_ n1_; obtain ⟨hc6_0, hc6_1, hc6_2, hc6_3, hc6_4, hc6_5⟩ := cell6 BK6.out; have hf6 := zO BK6.out))
   repeat (go_quiet (fail); try go_wp2_with (first | ((with_reducible refine gate_callee (f := 41) rfl ?_); (try (refine gate_guard (by rfl) ?_; dsimp only)); refine goesL_ (some 20) rfl rfl Try.func41 (by kernel_rfl) rfl #[.string s, .string e] rfl (by (try simp only [zAA, zAB, zAC]); first | done | rfl) ?_; refine (spec_l7Range.calls s e _ _ HPR.out).mono ?_; rintro er w5 ⟨rfl, m5, hw⟩; rw [hw]; clear hw w5; refine ⟨_, rfl, ?_⟩) | ((with_reducible refine gate_callee (f := 42) rfl ?_); refine goesL_ (some 27) rfl rfl Try.func42 (by kernel_rfl) rfl #[.pointer (some ⟨y.adr, 0, none⟩), .string s, .string e] rfl (by (try simp only [zAA, zAB, zAC]); first | done | rfl) ?_; refine (piecesS s e 10 y _ (Nat.le_refl _) (by rw [HXE.out]; exact HH.out) (by rw [HXE.out]; exact HF.out) (by repeat (first | exact HM.out | apply k95p_drewN | apply k95p_drew))).mono ?_; rintro er w27 hpost; rw [HXE.out] at hpost; obtain ⟨x, hx⟩ : ∃ q', q' = pcN s e 10 t := ⟨_, rfl⟩; rw [← hx] at hpost; have HX := zA hx; clear hx; obtain ⟨A0, c0, A1, c1, A2, c2, A4, c4, A5, c5, rfl, hM2, hb⟩ := hpost; refine ⟨_, rfl, ?_⟩; have HPM := zA hM2; have L6 := zA (blk_lt BK6.out); have n0_ := zA (zAD (zF HB.out m5) hb : Below w.heap.size w w27); have n1_ := zA (blk_below (blk_drewN BK6.out m5) hb); have HW4 := zA (zAE HB.out); clear HB BK6 hM2 hb hc6_0 hc6_1 hc6_2 hc6_3 hc6_4 hc6_5 hf6; have HB := n0_; have BK6 := n1_; clear n0_ n1_; obtain ⟨hc6_0, hc6_1, hc6_2, hc6_3, hc6_4, hc6_5⟩ := cell6 BK6.out; have hf6 := zO BK6.out)))
   refine bodyPost_ret (results_ct rfl _ _ g6 47 #[.slice A0 x.K.length c0, .slice A1 x.V.length c1, .slice A2 x.C.length c2, .int .i64 x.g, .slice A4 x.O.length c4, .slice A5 x.L.length c5] (0, 0) _ rfl (by refine blk_put (cs := #[.slice A0 x.K.length c0, .slice A1 x.V.length c1, .slice A2 x.C.length c2, .int .i64 x.g, .slice A4 x.O.length c4, .slice none 0 0]) ?_ 5 _ rfl; refine blk_put (cs := #[.slice A0 x.K.length c0, .slice A1 x.V.length c1, .slice A2 x.C.length c2, .int .i64 x.g, .slice none 0 0, .slice none 0 0]) ?_ 4 _ rfl; refine blk_put (cs := #[.slice A0 x.K.length c0, .slice A1 x.V.length c1, .slice A2 x.C.length c2, .int .i64 0, .slice none 0 0, .slice none 0 0]) ?_ 3 _ rfl; refine blk_put (cs := #[.slice A0 x.K.length c0, .slice A1 x.V.length c1, .slice none 0 0, .int .i64 0, .slice none 0 0, .slice none 0 0]) ?_ 2 _ rfl; refine blk_put (cs := #[.slice A0 x.K.length c0, .slice none 0 0, .slice none 0 0, .int .i64 0, .slice none 0 0, .slice none 0 0]) ?_ 1 _ rfl; refine blk_put (cs := #[.slice none 0 0, .slice none 0 0, .slice none 0 0, .int .i64 0, .slice none 0 0, .slice none 0 0]) ?_ 0 _ rfl; exact BK6.out) Try.underlying47 rfl (by kernel_rfl)) rfl ?_
   rw [← HX.out]
   have hKf : Kept w27 (((((((w27).setCell ⟨g6, 0, none⟩ (.slice A0 x.K.length c0)).setCell ⟨g6, 1, none⟩ (.slice A1 x.V.length c1)).setCell ⟨g6, 2, none⟩ (.slice A2 x.C.length c2)).setCell ⟨g6, 3, none⟩ (.int .i64 x.g)).setCell ⟨g6, 4, none⟩ (.slice A4 x.O.length c4)).setCell ⟨g6, 5, none⟩ (.slice A5 x.L.length c5)) (fun k_ => k_ = g6) := kept_set (kept_set (kept_set (kept_set (kept_set (kept_set (Kept.refl w27 (fun k_ => k_ = g6)) rfl 0 (.slice A0 x.K.length c0)) rfl 1 (.slice A1 x.V.length c1)) rfl 2 (.slice A2 x.C.length c2)) rfl 3 (.int .i64 x.g)) rfl 4 (.slice A4 x.O.length c4)) rfl 5 (.slice A5 x.L.length c5)
   exact ⟨A0, c0, A1, c1, A2, c2, A4, c4, A5, c5, rfl, (kp 10).M_mono (fun _ _ => trivial) ((kp 10).M_lower HW4.out (Kd.M_kept ((kp 10).M_bound HPM.out) hKf (fun k_ h1 h2 => by have h3_ : w4.heap.size ≤ k_ := h1.2.1; have h4_ : k_ = g6 := h2; have h5_ := L6.out; omega))), Below.setCell (p := ⟨g6, 5, none⟩) (Below.setCell (p := ⟨g6, 4, none⟩) (Below.setCell (p := ⟨g6, 3, none⟩) (Below.setCell (p := ⟨g6, 2, none⟩) (Below.setCell (p := ⟨g6, 1, none⟩) (Below.setCell (p := ⟨g6, 0, none⟩) (HB.out) GW6.out (.slice A0 x.K.length c0)) GW6.out (.slice A1 x.V.length c1)) GW6.out (.slice A2 x.C.length c2)) GW6.out (.int .i64 x.g)) GW6.out (.slice A4 x.O.length c4)) GW6.out (.slice A5 x.L.length c5)⟩
theorem piecesOfI (ps : List S97) (hG : Sml ps) (A : Option Addr) (c : Nat) (hc : ps.length ≤ c) (s e : ByteArray) (w : World) (hC : Kd.C k97 w A ps.length ps) :
  Calls Try.prog 18 #[.agg #[.slice A ps.length c], .string s, .string e] w fun er w' => PostOfP w (piecesF ps s e).1 (piecesF ps s e).2 er w' := by
 have HG := zA hG
 have HC := zA hC
 have HLC := zA hc
 have HB := zA (Below.refl w.heap.size w)
 have hu30 := Try.underlying30
 have hu47 := Try.underlying47
 clear hG hC hc
 cases hR : treeG ps 10 with
 | none =>
  have HR := zA (show treeG ps ps.length = none by rw [treeG_len, hR])
  have RR := zA (show piecesF ps s e = (zPc, false) by unfold piecesF; rw [hR])
  clear hR
  rw [RR.out]
  go_enter Try.func18, Try.ntmps18
  go_wp2_with (first | ((with_reducible refine gate_dst (N := 3) rfl ?_); refine box_event ?hg (N := 3) ?hd (cs := #[.slice A ps.length c]) (t := 30) ?hr ?_; (case hd => rfl); (case hg => rfl); (case hr => first | (go_simp; done) | (go_simp; rfl)); intro gb1 hg w3 hbox hb; have n0_ := zA (zAD HB.out hb); have BK1 := zA hbox; clear HB; have HB := n0_; clear n0_ hb hbox hg) | ((with_reducible refine gate_dst (N := 6) rfl ?_); refine box_event ?hg (N := 6) ?hd (cs := #[.slice none 0 0, .slice none 0 0, .slice none 0 0, .int .i64 0, .slice none 0 0, .slice none 0 0]) (t := 47) ?hr ?_; (case hd => rfl); (case hg => rfl); (case hr => first | (go_simp; done) | (go_simp; rfl)); intro g6 hg w6 hbox hb; have GW6 := zA (by rw [hg]; exact zAE HB.out : w.heap.size ≤ g6); have n0_ := zA (zAD HB.out hb); have n1_ := zA (blk_below BK1.out hb); have BK6 := zA hbox; clear HB BK1; have HB := n0_; have BK1 := n1_; clear n0_ n1_ hb hbox hg; have hx1 : w6.cell? ⟨gb1, 0, none⟩ = some (.slice A ps.length c) := (zP BK1.out 0).trans rfl; have hI := rootI0 ps HG.out A c HLC.out w6 (Kd.C_below HC.out HB.out); rw [HR.out] at hI) | ((with_reducible refine gate_callee (f := 27) rfl ?_); refine goesL_ (some 12) rfl rfl Try.func27 (by kernel_rfl) rfl #[.agg #[.slice A ps.length c]] rfl (by (try simp only [zAA, zAB, zAC]); first | done | rfl) ?_; refine hI.mono ?_; clear hI; rintro er w4 ⟨rfl, hb⟩; refine ⟨_, rfl, ?_⟩; have n1_ := zA (blk_below BK6.out hb); have n0_ := zA (zAD HB.out hb); clear HB BK1 BK6 hb hx1; have HB := n0_; have BK6 := n1_; clear n0_ n1_; obtain ⟨hc6_0, hc6_1, hc6_2, hc6_3, hc6_4, hc6_5⟩ := cell6 BK6.out; have hf6 := zO BK6.out))
  refine bodyPost_ret (results_ct rfl _ _ g6 47 #[.slice none 0 0, .slice none 0 0, .slice none 0 0, .int .i64 0, .slice none 0 0, .slice none 0 0] (0, 0) _ rfl (by refine blk_put (cs := #[.slice none 0 0, .slice none 0 0, .slice none 0 0, .int .i64 0, .slice none 0 0, .slice none 0 0]) ?_ 5 _ rfl; refine blk_put (cs := #[.slice none 0 0, .slice none 0 0, .slice none 0 0, .int .i64 0, .slice none 0 0, .slice none 0 0]) ?_ 4 _ rfl; refine blk_put (cs := #[.slice none 0 0, .slice none 0 0, .slice none 0 0, .int .i64 0, .slice none 0 0, .slice none 0 0]) ?_ 3 _ rfl; refine blk_put (cs := #[.slice none 0 0, .slice none 0 0, .slice none 0 0, .int .i64 0, .slice none 0 0, .slice none 0 0]) ?_ 2 _ rfl; refine blk_put (cs := #[.slice none 0 0, .slice none 0 0, .slice none 0 0, .int .i64 0, .slice none 0 0, .slice none 0 0]) ?_ 1 _ rfl; refine blk_put (cs := #[.slice none 0 0, .slice none 0 0, .slice none 0 0, .int .i64 0, .slice none 0 0, .slice none 0 0]) ?_ 0 _ rfl; exact BK6.out) Try.underlying47 rfl (by kernel_rfl)) rfl ?_
  exact ⟨none, 0, none, 0, none, 0, none, 0, none, 0, rfl, pc_mkM (n := 9) (x := zPc) (Kd.R_nil _ _ _ _ _) (Kd.R_nil _ _ _ _ _) (Kd.R_nil _ _ _ _ _) (Kd.R_nil _ _ _ _ _) (ok5 := fun _ => False) (Kd.S_nil _ _ _ _ _) ap3_nil (fun _ h_ => h_.elim), Below.setCell (p := ⟨g6, 5, none⟩) (Below.setCell (p := ⟨g6, 4, none⟩) (Below.setCell (p := ⟨g6, 3, none⟩) (Below.setCell (p := ⟨g6, 2, none⟩) (Below.setCell (p := ⟨g6, 1, none⟩) (Below.setCell (p := ⟨g6, 0, none⟩) (HB.out) GW6.out (.slice none 0 0)) GW6.out (.slice none 0 0)) GW6.out (.slice none 0 0)) GW6.out (.int .i64 0)) GW6.out (.slice none 0 0)) GW6.out (.slice none 0 0)⟩
 | some t =>
  have HR := zA (show treeG ps ps.length = some t by rw [treeG_len, hR])
  obtain ⟨hf, hh⟩ := fine_of hR
  obtain ⟨b, hb⟩ : ∃ q, q = rangeB s e := ⟨_, rfl⟩
  have HPR := zA (show impl_isRange.f s e = some b from by rw [hb]; exact rangeI s e)
  have HF := zA hf
  have HH := zA hh
  clear hf hh
  cases b with
  | false =>
   have RR := zA (show piecesF ps s e = (zPc, false) by unfold piecesF; rw [hR, ← hb]; rfl)
   clear hR hb
   rw [RR.out]
   go_enter Try.func18, Try.ntmps18
   go_wp2_with (first | ((with_reducible refine gate_dst (N := 3) rfl ?_); refine box_event ?hg (N := 3) ?hd (cs := #[.slice A ps.length c]) (t := 30) ?hr ?_; (case hd => rfl); (case hg => rfl); (case hr => first | (go_simp; done) | (go_simp; rfl)); intro gb1 hg w3 hbox hb; have n0_ := zA (zAD HB.out hb); have BK1 := zA hbox; clear HB; have HB := n0_; clear n0_ hb hbox hg) | ((with_reducible refine gate_dst (N := 6) rfl ?_); refine box_event ?hg (N := 6) ?hd (cs := #[.slice none 0 0, .slice none 0 0, .slice none 0 0, .int .i64 0, .slice none 0 0, .slice none 0 0]) (t := 47) ?hr ?_; (case hd => rfl); (case hg => rfl); (case hr => first | (go_simp; done) | (go_simp; rfl)); intro g6 hg w6 hbox hb; have GW6 := zA (by rw [hg]; exact zAE HB.out : w.heap.size ≤ g6); have n0_ := zA (zAD HB.out hb); have n1_ := zA (blk_below BK1.out hb); have BK6 := zA hbox; clear HB BK1; have HB := n0_; have BK1 := n1_; clear n0_ n1_ hb hbox hg; have hx1 : w6.cell? ⟨gb1, 0, none⟩ = some (.slice A ps.length c) := (zP BK1.out 0).trans rfl; have hI := rootI0 ps HG.out A c HLC.out w6 (Kd.C_below HC.out HB.out); rw [HR.out] at hI) | ((with_reducible refine gate_callee (f := 27) rfl ?_); refine goesL_ (some 12) rfl rfl Try.func27 (by kernel_rfl) rfl #[.agg #[.slice A ps.length c]] rfl (by (try simp only [zAA, zAB, zAC]); first | done | rfl) ?_; refine hI.mono ?_; clear hI; rintro er w4 ⟨y, rfl, hx, hM, hb⟩; refine ⟨_, rfl, ?_⟩; have n1_ := zA (blk_below BK6.out hb); have n0_ := zA (zAD HB.out hb); have HXE := zA hx; have HM := zA (k74p.K_of_M hM); clear HB BK1 BK6 hb hx1 hx hM; have HB := n0_; have BK6 := n1_; clear n0_ n1_; obtain ⟨hc6_0, hc6_1, hc6_2, hc6_3, hc6_4, hc6_5⟩ := cell6 BK6.out; have hf6 := zO BK6.out) | ((with_reducible refine gate_callee (f := 43) rfl ?_); (try (refine gate_guard (by rfl) ?_; dsimp only)); refine goesL_ (some 20) rfl rfl Try.func43 (by kernel_rfl) rfl #[.string s, .string e] rfl (by (try simp only [zAA, zAB, zAC]); first | done | rfl) ?_; refine (impl_isRange.calls s e _ _ HPR.out).mono ?_; rintro er w5 ⟨rfl, m5, hw⟩; rw [hw]; clear hw w5; refine ⟨_, rfl, ?_⟩))
   repeat (go_quiet (fail); try go_wp2_with (first | ((with_reducible refine gate_callee (f := 43) rfl ?_); (try (refine gate_guard (by rfl) ?_; dsimp only)); refine goesL_ (some 20) rfl rfl Try.func43 (by kernel_rfl) rfl #[.string s, .string e] rfl (by (try simp only [zAA, zAB, zAC]); first | done | rfl) ?_; refine (impl_isRange.calls s e _ _ HPR.out).mono ?_; rintro er w5 ⟨rfl, m5, hw⟩; rw [hw]; clear hw w5; refine ⟨_, rfl, ?_⟩)))
   refine bodyPost_ret (results_ct rfl _ _ g6 47 #[.slice none 0 0, .slice none 0 0, .slice none 0 0, .int .i64 0, .slice none 0 0, .slice none 0 0] (0, 0) _ rfl (by refine blk_put (cs := #[.slice none 0 0, .slice none 0 0, .slice none 0 0, .int .i64 0, .slice none 0 0, .slice none 0 0]) ?_ 5 _ rfl; refine blk_put (cs := #[.slice none 0 0, .slice none 0 0, .slice none 0 0, .int .i64 0, .slice none 0 0, .slice none 0 0]) ?_ 4 _ rfl; refine blk_put (cs := #[.slice none 0 0, .slice none 0 0, .slice none 0 0, .int .i64 0, .slice none 0 0, .slice none 0 0]) ?_ 3 _ rfl; refine blk_put (cs := #[.slice none 0 0, .slice none 0 0, .slice none 0 0, .int .i64 0, .slice none 0 0, .slice none 0 0]) ?_ 2 _ rfl; refine blk_put (cs := #[.slice none 0 0, .slice none 0 0, .slice none 0 0, .int .i64 0, .slice none 0 0, .slice none 0 0]) ?_ 1 _ rfl; refine blk_put (cs := #[.slice none 0 0, .slice none 0 0, .slice none 0 0, .int .i64 0, .slice none 0 0, .slice none 0 0]) ?_ 0 _ rfl; exact BK6.out) Try.underlying47 rfl (by kernel_rfl)) rfl ?_
   exact ⟨none, 0, none, 0, none, 0, none, 0, none, 0, rfl, pc_mkM (n := 9) (x := zPc) (Kd.R_nil _ _ _ _ _) (Kd.R_nil _ _ _ _ _) (Kd.R_nil _ _ _ _ _) (Kd.R_nil _ _ _ _ _) (ok5 := fun _ => False) (Kd.S_nil _ _ _ _ _) ap3_nil (fun _ h_ => h_.elim), Below.setCell (p := ⟨g6, 5, none⟩) (Below.setCell (p := ⟨g6, 4, none⟩) (Below.setCell (p := ⟨g6, 3, none⟩) (Below.setCell (p := ⟨g6, 2, none⟩) (Below.setCell (p := ⟨g6, 1, none⟩) (Below.setCell (p := ⟨g6, 0, none⟩) ((zF HB.out m5)) GW6.out (.slice none 0 0)) GW6.out (.slice none 0 0)) GW6.out (.slice none 0 0)) GW6.out (.int .i64 0)) GW6.out (.slice none 0 0)) GW6.out (.slice none 0 0)⟩
  | true =>
   have RR := zA (show piecesF ps s e = (pcN s e 10 t, true) by unfold piecesF; rw [hR, ← hb]; rfl)
   clear hR hb
   rw [RR.out]
   go_enter Try.func18, Try.ntmps18
   go_wp2_with (first | ((with_reducible refine gate_dst (N := 3) rfl ?_); refine box_event ?hg (N := 3) ?hd (cs := #[.slice A ps.length c]) (t := 30) ?hr ?_; (case hd => rfl); (case hg => rfl); (case hr => first | (go_simp; done) | (go_simp; rfl)); intro gb1 hg w3 hbox hb; have n0_ := zA (zAD HB.out hb); have BK1 := zA hbox; clear HB; have HB := n0_; clear n0_ hb hbox hg) | ((with_reducible refine gate_dst (N := 6) rfl ?_); refine box_event ?hg (N := 6) ?hd (cs := #[.slice none 0 0, .slice none 0 0, .slice none 0 0, .int .i64 0, .slice none 0 0, .slice none 0 0]) (t := 47) ?hr ?_; (case hd => rfl); (case hg => rfl); (case hr => first | (go_simp; done) | (go_simp; rfl)); intro g6 hg w6 hbox hb; have GW6 := zA (by rw [hg]; exact zAE HB.out : w.heap.size ≤ g6); have n0_ := zA (zAD HB.out hb); have n1_ := zA (blk_below BK1.out hb); have BK6 := zA hbox; clear HB BK1; have HB := n0_; have BK1 := n1_; clear n0_ n1_ hb hbox hg; have hx1 : w6.cell? ⟨gb1, 0, none⟩ = some (.slice A ps.length c) := (zP BK1.out 0).trans rfl; have hI := rootI0 ps HG.out A c HLC.out w6 (Kd.C_below HC.out HB.out); rw [HR.out] at hI) | ((with_reducible refine gate_callee (f := 27) rfl ?_); refine goesL_ (some 12) rfl rfl Try.func27 (by kernel_rfl) rfl #[.agg #[.slice A ps.length c]] rfl (by (try simp only [zAA, zAB, zAC]); first | done | rfl) ?_; refine hI.mono ?_; clear hI; rintro er w4 ⟨y, rfl, hx, hM, hb⟩; refine ⟨_, rfl, ?_⟩; have n1_ := zA (blk_below BK6.out hb); have n0_ := zA (zAD HB.out hb); have HXE := zA hx; have HM := zA (k74p.K_of_M hM); clear HB BK1 BK6 hb hx1 hx hM; have HB := n0_; have BK6 := n1_; clear n0_ n1_; obtain ⟨hc6_0, hc6_1, hc6_2, hc6_3, hc6_4, hc6_5⟩ := cell6 BK6.out; have hf6 := zO BK6.out) | ((with_reducible refine gate_callee (f := 43) rfl ?_); (try (refine gate_guard (by rfl) ?_; dsimp only)); refine goesL_ (some 20) rfl rfl Try.func43 (by kernel_rfl) rfl #[.string s, .string e] rfl (by (try simp only [zAA, zAB, zAC]); first | done | rfl) ?_; refine (impl_isRange.calls s e _ _ HPR.out).mono ?_; rintro er w5 ⟨rfl, m5, hw⟩; rw [hw]; clear hw w5; refine ⟨_, rfl, ?_⟩) | ((with_reducible refine gate_callee (f := 44) rfl ?_); refine goesL_ (some 27) rfl rfl Try.func44 (by kernel_rfl) rfl #[.pointer (some ⟨y.adr, 0, none⟩), .string s, .string e] rfl (by (try simp only [zAA, zAB, zAC]); first | done | rfl) ?_; refine (pieceI s e 10 y _ (Nat.le_refl _) (by rw [HXE.out]; exact HH.out) (by rw [HXE.out]; exact HF.out) (by repeat (first | exact HM.out | apply k74p_drewN | apply k74p_drew))).mono ?_; rintro er w27 hpost; rw [HXE.out] at hpost; obtain ⟨x, hx⟩ : ∃ q', q' = pcN s e 10 t := ⟨_, rfl⟩; rw [← hx] at hpost; have HX := zA hx; clear hx; obtain ⟨A0, c0, A1, c1, A2, c2, A4, c4, A5, c5, rfl, hM2, hb⟩ := hpost; refine ⟨_, rfl, ?_⟩; have HPM := zA hM2; have L6 := zA (blk_lt BK6.out); have n0_ := zA (zAD (zF HB.out m5) hb : Below w.heap.size w w27); have n1_ := zA (blk_below (blk_drewN BK6.out m5) hb); have HW4 := zA (zAE HB.out); clear HB BK6 hM2 hb hc6_0 hc6_1 hc6_2 hc6_3 hc6_4 hc6_5 hf6; have HB := n0_; have BK6 := n1_; clear n0_ n1_; obtain ⟨hc6_0, hc6_1, hc6_2, hc6_3, hc6_4, hc6_5⟩ := cell6 BK6.out; have hf6 := zO BK6.out))
   repeat (go_quiet (fail); try go_wp2_with (first | ((with_reducible refine gate_callee (f := 43) rfl ?_); (try (refine gate_guard (by rfl) ?_; dsimp only)); refine goesL_ (some 20) rfl rfl Try.func43 (by kernel_rfl) rfl #[.string s, .string e] rfl (by (try simp only [zAA, zAB, zAC]); first | done | rfl) ?_; refine (impl_isRange.calls s e _ _ HPR.out).mono ?_; rintro er w5 ⟨rfl, m5, hw⟩; rw [hw]; clear hw w5; refine ⟨_, rfl, ?_⟩) | ((with_reducible refine gate_callee (f := 44) rfl ?_); refine goesL_ (some 27) rfl rfl Try.func44 (by kernel_rfl) rfl #[.pointer (some ⟨y.adr, 0, none⟩), .string s, .string e] rfl (by (try simp only [zAA, zAB, zAC]); first | done | rfl) ?_; refine (pieceI s e 10 y _ (Nat.le_refl _) (by rw [HXE.out]; exact HH.out) (by rw [HXE.out]; exact HF.out) (by repeat (first | exact HM.out | apply k74p_drewN | apply k74p_drew))).mono ?_; rintro er w27 hpost; rw [HXE.out] at hpost; obtain ⟨x, hx⟩ : ∃ q', q' = pcN s e 10 t := ⟨_, rfl⟩; rw [← hx] at hpost; have HX := zA hx; clear hx; obtain ⟨A0, c0, A1, c1, A2, c2, A4, c4, A5, c5, rfl, hM2, hb⟩ := hpost; refine ⟨_, rfl, ?_⟩; have HPM := zA hM2; have L6 := zA (blk_lt BK6.out); have n0_ := zA (zAD (zF HB.out m5) hb : Below w.heap.size w w27); have n1_ := zA (blk_below (blk_drewN BK6.out m5) hb); have HW4 := zA (zAE HB.out); clear HB BK6 hM2 hb hc6_0 hc6_1 hc6_2 hc6_3 hc6_4 hc6_5 hf6; have HB := n0_; have BK6 := n1_; clear n0_ n1_; obtain ⟨hc6_0, hc6_1, hc6_2, hc6_3, hc6_4, hc6_5⟩ := cell6 BK6.out; have hf6 := zO BK6.out)))
   refine bodyPost_ret (results_ct rfl _ _ g6 47 #[.slice A0 x.K.length c0, .slice A1 x.V.length c1, .slice A2 x.C.length c2, .int .i64 x.g, .slice A4 x.O.length c4, .slice A5 x.L.length c5] (0, 0) _ rfl (by refine blk_put (cs := #[.slice A0 x.K.length c0, .slice A1 x.V.length c1, .slice A2 x.C.length c2, .int .i64 x.g, .slice A4 x.O.length c4, .slice none 0 0]) ?_ 5 _ rfl; refine blk_put (cs := #[.slice A0 x.K.length c0, .slice A1 x.V.length c1, .slice A2 x.C.length c2, .int .i64 x.g, .slice none 0 0, .slice none 0 0]) ?_ 4 _ rfl; refine blk_put (cs := #[.slice A0 x.K.length c0, .slice A1 x.V.length c1, .slice A2 x.C.length c2, .int .i64 0, .slice none 0 0, .slice none 0 0]) ?_ 3 _ rfl; refine blk_put (cs := #[.slice A0 x.K.length c0, .slice A1 x.V.length c1, .slice none 0 0, .int .i64 0, .slice none 0 0, .slice none 0 0]) ?_ 2 _ rfl; refine blk_put (cs := #[.slice A0 x.K.length c0, .slice none 0 0, .slice none 0 0, .int .i64 0, .slice none 0 0, .slice none 0 0]) ?_ 1 _ rfl; refine blk_put (cs := #[.slice none 0 0, .slice none 0 0, .slice none 0 0, .int .i64 0, .slice none 0 0, .slice none 0 0]) ?_ 0 _ rfl; exact BK6.out) Try.underlying47 rfl (by kernel_rfl)) rfl ?_
   rw [← HX.out]
   have hKf : Kept w27 (((((((w27).setCell ⟨g6, 0, none⟩ (.slice A0 x.K.length c0)).setCell ⟨g6, 1, none⟩ (.slice A1 x.V.length c1)).setCell ⟨g6, 2, none⟩ (.slice A2 x.C.length c2)).setCell ⟨g6, 3, none⟩ (.int .i64 x.g)).setCell ⟨g6, 4, none⟩ (.slice A4 x.O.length c4)).setCell ⟨g6, 5, none⟩ (.slice A5 x.L.length c5)) (fun k_ => k_ = g6) := kept_set (kept_set (kept_set (kept_set (kept_set (kept_set (Kept.refl w27 (fun k_ => k_ = g6)) rfl 0 (.slice A0 x.K.length c0)) rfl 1 (.slice A1 x.V.length c1)) rfl 2 (.slice A2 x.C.length c2)) rfl 3 (.int .i64 x.g)) rfl 4 (.slice A4 x.O.length c4)) rfl 5 (.slice A5 x.L.length c5)
   exact ⟨A0, c0, A1, c1, A2, c2, A4, c4, A5, c5, rfl, (kp 10).M_mono (fun _ _ => trivial) ((kp 10).M_lower HW4.out (Kd.M_kept ((kp 10).M_bound HPM.out) hKf (fun k_ h1 h2 => by have h3_ : w4.heap.size ≤ k_ := h1.2.1; have h4_ : k_ = g6 := h2; have h5_ := L6.out; omega))), Below.setCell (p := ⟨g6, 5, none⟩) (Below.setCell (p := ⟨g6, 4, none⟩) (Below.setCell (p := ⟨g6, 3, none⟩) (Below.setCell (p := ⟨g6, 2, none⟩) (Below.setCell (p := ⟨g6, 1, none⟩) (Below.setCell (p := ⟨g6, 0, none⟩) (HB.out) GW6.out (.slice A0 x.K.length c0)) GW6.out (.slice A1 x.V.length c1)) GW6.out (.slice A2 x.C.length c2)) GW6.out (.int .i64 x.g)) GW6.out (.slice A4 x.O.length c4)) GW6.out (.slice A5 x.L.length c5)⟩
end Go.Proofs.Ytnplghcbdaiogaa.RU
end
section
namespace Go.Proofs.Ytnplghcbdaiogaa.RV
open Go.RowKit Go.Proofs.YtnplghcbdaiogaaW.PrintWords Go.Proofs.YtnplghcbdaiogaaW.PrintLast Go.Proofs.YtnplghcbdaiogaaW.PrintMore Go.Proofs.Ytnplghcbdaiogaa.PA Go.Proofs.Ytnplghcbdaiogaa.PL Go.Proofs.Ytnplghcbdaiogaa.QW Go.Proofs.Ytnplghcbdaiogaa.QZ Go.Proofs.Ytnplghcbdaiogaa.RF Go.Proofs.Ytnplghcbdaiogaa.RH Go.Proofs.Ytnplghcbdaiogaa.RL Go.Proofs.Ytnplghcbdaiogaa.RM Go.Proofs.Ytnplghcbdaiogaa.RN Go.Proofs.Ytnplghcbdaiogaa.RR
attribute [local go_sem] max2_int min2_int max_two min_two max_three min_three max_four min_four
set_option linter.unusedVariables false
set_option linter.unusedSimpArgs false
set_option maxHeartbeats 4000000
set_option maxRecDepth 100000
def lawF (k : Nat) (l0 : List S87) (s e : ByteArray) : Option Bool :=
 if (1048576 : Int) < (s.size : Int) then some true else
 if (1048576 : Int) < (e.size : Int) then some true else
 (laws_szTree.f k l0 1048576).bind fun n1 => if n1 < 0 then some true else
 (laws_toTree.f k l0).bind fun ps => (RG.markPF k ps 1).bind fun m1 =>
 if smlB ps = true ∧ laws_eqTree.f k ps ps = some true ∧ 0 ≤ m1.1 then some true else none
theorem heldX (x : Pc) (w : World) (m0 : Int) (hm0 : m0 = 1) {G0 G1 G2 G4 G5 : Option Addr} {cg0 cg1 cg2 cg4 cg5 : Nat} (hA : (kp 10).K w (mkT 9 1 x) [.slice G0 x.K.length cg0, .slice G1 x.V.length cg1, .slice G2 x.C.length cg2, .int .i64 x.g, .slice G4 x.O.length cg4, .slice G5 x.L.length cg5]) (hs : SmP 10 x) (ha : szT 9 x ≤ 70000000) (mT : Int) (hT : mT = ((1 + szT 9 x : Nat) : Int)) :
  Calls Try.prog 21 #[.agg #[.slice G0 x.K.length cg0, .slice G1 x.V.length cg1, .slice G2 x.C.length cg2, .int .i64 x.g, .slice G4 x.O.length cg4, .slice G5 x.L.length cg5], .int .i64 m0] w fun e w' => e = .returned (.int .i64 mT) ∧ Below w.heap.size w w' := by
 have e0 : (mkT 9 1 x).K.length = x.K.length := marks_length _ _
 have e1 : (mkT 9 1 x).V.length = x.V.length := marks_length _ _
 have e2 : (mkT 9 1 x).C.length = x.C.length := marks_length _ _
 have e4 : (mkT 9 1 x).O.length = x.O.length := mkN_length _ _
 have e5 : (mkT 9 1 x).L.length = x.L.length := mkLof_length _ _ _ _
 have h := RQ.heldT (n := 9) x 1 w (mkT 9 1 x) rfl (A0 := G0) (c0 := cg0) (A1 := G1) (c1 := cg1) (A2 := G2) (c2 := cg2) (A4 := G4) (c4 := cg4) (A5 := G5) (c5 := cg5) (by rw [e0, e1, e2, e4, e5]; exact hA) hs (by omega)
 rw [e0, e1, e2, e4, e5] at h
 rw [hT, hm0]
 exact h
theorem markX (x : Pc) (P : Nat → Prop) (w0 w : World) (m0 : Int) (hm0 : m0 = 1) {G0 G1 G2 G4 G5 : Option Addr} {cg0 cg1 cg2 cg4 cg5 : Nat} (hB : Below w0.heap.size w0 w) (hM : (kp 10).M w w0.heap.size P x [.slice G0 x.K.length cg0, .slice G1 x.V.length cg1, .slice G2 x.C.length cg2, .int .i64 x.g, .slice G4 x.O.length cg4, .slice G5 x.L.length cg5]) (hs : SmP 10 x) (ha : szT 9 x ≤ 70000000) (mT : Int) (hT : mT = ((1 + szT 9 x : Nat) : Int)) :
  Calls Try.prog 20 #[.agg #[.slice G0 x.K.length cg0, .slice G1 x.V.length cg1, .slice G2 x.C.length cg2, .int .i64 x.g, .slice G4 x.O.length cg4, .slice G5 x.L.length cg5], .int .i64 m0] w fun e w' => e = .returned (.int .i64 mT) ∧ (kp 10).M w' w0.heap.size P (mkT 9 1 x) [.slice G0 x.K.length cg0, .slice G1 x.V.length cg1, .slice G2 x.C.length cg2, .int .i64 x.g, .slice G4 x.O.length cg4, .slice G5 x.L.length cg5] ∧ Below w0.heap.size w0 w' ∧ Kept w w' P := by
 rw [hT, hm0]
 exact RQ.markT (n := 9) x 1 P w0 w hB hM hs (by omega)
theorem lawC (k : Nat) (A0 : Option Addr) (c0 : Nat) (l0 : List S87) (s e : ByteArray) (r : Bool) (w : World) (hr0 : Kd.C k87 w A0 l0.length l0) (hc0 : l0.length ≤ c0) (h : lawF k l0 s e = some r) (hr_ : Aside0 (r = true)) :
  Calls Try.prog 5 #[.agg #[.slice A0 l0.length c0], .string s, .string e] w fun er w' => er = .returned (.bool r) ∧ Below w.heap.size w w' := by
 obtain rfl := hr_.out
 clear hr_
 have hu24 := Try.underlying24
 have hu30 := Try.underlying30
 have hu47 := Try.underlying47
 have HR0 := zA hr0
 have HC0 := zA hc0
 have HB := zA (Below.refl w.heap.size w)
 clear hr0 hc0
 rw [lawF] at h
 by_cases c1 : (1048576 : Int) < (s.size : Int)
 ·have d1 : decide ((1048576 : Int) < (s.size : Int)) = true := decide_eq_true c1
  clear h c1
  go_enter Try.func5, Try.ntmps5
  go_wp2
  go_ret
  exact ⟨by first | rfl | (simp <;> rfl), by repeat (first | exact HB.out | apply zF | apply zG | apply zH)⟩
 rw [if_neg c1] at h
 have d1 : decide ((1048576 : Int) < (s.size : Int)) = false := decide_eq_false c1
 clear c1
 by_cases c1 : (1048576 : Int) < (e.size : Int)
 ·have d2 : decide ((1048576 : Int) < (e.size : Int)) = true := decide_eq_true c1
  clear h c1
  go_enter Try.func5, Try.ntmps5
  go_wp2
  go_ret
  exact ⟨by first | rfl | (simp <;> rfl), by repeat (first | exact HB.out | apply zF | apply zG | apply zH)⟩
 rw [if_neg c1] at h
 have d2 : decide ((1048576 : Int) < (e.size : Int)) = false := decide_eq_false c1
 clear c1
 replace h := zAF h
 obtain ⟨n1, e1, h⟩ := h
 have E1 := zA e1
 clear e1
 by_cases c2_ : n1 < 0
 ·have d3 : decide (n1 < 0) = true := decide_eq_true c2_
  clear h c2_
  go_enter Try.func5, Try.ntmps5
  go_wp2_with (first | ((with_reducible refine gate_dst (N := 3) rfl ?_); refine box_event ?hg (N := 3) ?hd (cs := #[.slice A0 l0.length c0]) (t := 24) ?hr ?_; (case hd => rfl); (case hg => rfl); (case hr => first | (go_simp; done) | (go_simp; rfl)); intro gb1 hg w3 hbox hb; have n0_ := zA (zAD HB.out hb); have BK := zA hbox; clear HB; have HB := n0_; clear n0_ hb hbox hg; have hc1_0 := (blk_cell BK.out 0).trans (show _ = some (.slice A0 l0.length c0) from rfl)) | ((with_reducible refine gate_dst (N := 26) rfl ?_); (try (refine gate_guard (by rfl) ?_; dsimp only)); refine goesL_ (some 26) rfl rfl Try.func6 (by kernel_rfl) rfl #[.agg #[.slice A0 l0.length c0], .int .i64 1048576] rfl (by (try simp only [zAA, zAB, zAC]); first | done | rfl) ?_; refine (laws_szTree.calls k A0 c0 l0 1048576 n1 _ (Kd.C_below HR0.out HB.out) HC0.out E1.out).mono ?_; rintro er w26 ⟨rfl, hb⟩; refine ⟨_, rfl, ?_⟩; have n0_ := zA (zAD HB.out hb); have n1_ := zA (blk_below BK.out hb); clear HB BK; have HB := n0_; clear n0_; have BK := n1_; clear n1_; clear hc1_0; have hc1_0 := (blk_cell BK.out 0).trans (show _ = some (.slice A0 l0.length c0) from rfl); (try clear hb)))
  go_ret
  exact ⟨by first | rfl | (simp <;> rfl), HB.out⟩
 rw [if_neg c2_] at h
 have d3 : decide (n1 < 0) = false := decide_eq_false c2_
 clear c2_
 replace h := zAF h; obtain ⟨ps, e2, h⟩ := h
 obtain ⟨hsm, hsz⟩ := pieces_sm ps s e
 obtain ⟨x, hx⟩ : ∃ q, q = (piecesF ps s e).1 := ⟨_, rfl⟩
 obtain ⟨gb, hQ⟩ : ∃ q, q = (piecesF ps s e).2 := ⟨_, rfl⟩
 rw [← hx] at hsm hsz
 replace h := zAF h; obtain ⟨⟨m1, ps2⟩, e5, h⟩ := h
 dsimp only at h
 by_cases c4 : smlB ps = true ∧ laws_eqTree.f k ps ps = some true ∧ 0 ≤ m1
 rotate_left
 ·rw [if_neg c4] at h; cases h
 clear h
 obtain ⟨hsb, e4, p1⟩ := c4
 have HKS := zA (fun A c hc w hC => by have := RU.piecesOfS ps ((smlB_iff ps).1 hsb) A c hc s e w hC; rw [← hx, ← hQ] at this; exact this : ∀ (A : Option Addr) (c : Nat) (hc : ps.length ≤ c) (w : World) (hC : Kd.C k97 w A ps.length ps), Calls Try.prog 17 #[.agg #[.slice A ps.length c], .string s, .string e] w fun er w' => RU.PostOfP w x gb er w')
 have HKI := zA (fun A c hc w hC => by have := RU.piecesOfI ps ((smlB_iff ps).1 hsb) A c hc s e w hC; rw [← hx, ← hQ] at this; exact this : ∀ (A : Option Addr) (c : Nat) (hc : ps.length ≤ c) (w : World) (hC : Kd.C k97 w A ps.length ps), Calls Try.prog 18 #[.agg #[.slice A ps.length c], .string s, .string e] w fun er w' => RU.PostOfP w x gb er w')
 have E2 := zA e2
 have E4 := zA e4
 have E5 := zA e5
 have HSM := zA hsm
 have HSZ := zA hsz
 obtain ⟨m0, hm0⟩ : ∃ q : Int, q = 1 := ⟨_, rfl⟩
 obtain ⟨mT, hmT⟩ : ∃ q, q = ((1 + szT 9 x : Nat) : Int) := ⟨_, rfl⟩
 have HM0 := zA hm0
 have HMT := zA hmT
 have d5 : decide (m1 < 0) = false := decide_eq_false (by omega)
 have d6 : decide (mT < 0) = false := decide_eq_false (by omega)
 clear e2 e4 e5 p1 hx hQ hsm hsz hsb hmT hm0
 go_enter Try.func5, Try.ntmps5
 go_wp2_with (first | ((with_reducible refine gate_dst (N := 3) rfl ?_); refine box_event ?hg (N := 3) ?hd (cs := #[.slice A0 l0.length c0]) (t := 24) ?hr ?_; (case hd => rfl); (case hg => rfl); (case hr => first | (go_simp; done) | (go_simp; rfl)); intro gb1 hg w3 hbox hb; have n0_ := zA (zAD HB.out hb); have BK := zA hbox; clear HB; have HB := n0_; clear n0_ hb hbox hg; have hc1_0 := (blk_cell BK.out 0).trans (show _ = some (.slice A0 l0.length c0) from rfl)) | ((with_reducible refine gate_dst (N := 26) rfl ?_); (try (refine gate_guard (by rfl) ?_; dsimp only)); refine goesL_ (some 26) rfl rfl Try.func6 (by kernel_rfl) rfl #[.agg #[.slice A0 l0.length c0], .int .i64 1048576] rfl (by (try simp only [zAA, zAB, zAC]); first | done | rfl) ?_; refine (laws_szTree.calls k A0 c0 l0 1048576 n1 _ (Kd.C_below HR0.out HB.out) HC0.out E1.out).mono ?_; rintro er w26 ⟨rfl, hb⟩; refine ⟨_, rfl, ?_⟩; have n0_ := zA (zAD HB.out hb); have n1_ := zA (blk_below BK.out hb); clear HB BK; have HB := n0_; clear n0_; have BK := n1_; clear n1_; clear hc1_0; have hc1_0 := (blk_cell BK.out 0).trans (show _ = some (.slice A0 l0.length c0) from rfl); (try clear hb)) | ((with_reducible refine gate_dst (N := 31) rfl ?_); (try (refine gate_guard (by rfl) ?_; dsimp only)); refine goesL_ (some 31) rfl rfl Try.func8 (by kernel_rfl) rfl #[.agg #[.slice A0 l0.length c0]] rfl (by (try simp only [zAA, zAB, zAC]); first | done | rfl) ?_; refine (toTree_calls k A0 c0 l0 ps _ (Kd.C_below HR0.out HB.out) HC0.out E2.out).mono ?_; rintro er w31 ⟨v31, rfl, hS, hb⟩; refine ⟨_, rfl, ?_⟩; have n0_ := zA (zAD HB.out hb); have n1_ := zA (blk_below BK.out hb); obtain ⟨X31, cx31, rfl⟩ := Kd.S_slice hS; have n3_ := zA (hS); clear hS; clear HB BK; have HB := n0_; clear n0_; have BK := n1_; clear n1_; have HT := n3_; clear n3_; clear hc1_0; have hc1_0 := (blk_cell BK.out 0).trans (show _ = some (.slice A0 l0.length c0) from rfl); (try clear hb)) | ((with_reducible refine gate_dst (N := 34) rfl ?_); (try (refine gate_guard (by rfl) ?_; dsimp only)); refine goesL_ (some 34) rfl rfl Try.func17 (by kernel_rfl) rfl #[.agg #[.slice X31 ps.length cx31], .string s, .string e] rfl (by (try simp only [zAA, zAB, zAC]); first | done | rfl) ?_; refine (HKS.out X31 cx31 (Kd.S_reads' HT.out).2.1 _ (aps_C (Kd.S_reads' HT.out).2.2)).mono ?_; rintro er w34 ⟨W0, cw0, W1, cw1, W2, cw2, W4, cw4, W5, cw5, rfl, hM, hb⟩; refine ⟨_, rfl, ?_⟩; have n0_ := zA (zAD HB.out hb); have n1_ := zA (blk_below BK.out hb); have n2_ := zA ((kp 10).K_of_M hM); have n3_ := zA (Below.refl w34.heap.size w34); have HB34 := n0_; have NG34 := zA (blk_lt n1_.out); clear hM HT; clear HB BK; have HB := n0_; clear n0_; have BK := n1_; clear n1_; have HW := n2_; clear n2_; have HB7 := n3_; clear n3_; clear hc1_0; have hc1_0 := (blk_cell BK.out 0).trans (show _ = some (.slice A0 l0.length c0) from rfl); (try clear hb); clear hc1_0; have hc1_0 := (blk_cell (blk_alloc BK.out (.cells #[.slice W0 x.K.length cw0, .slice W1 x.V.length cw1, .slice W2 x.C.length cw2, .int .i64 x.g, .slice W4 x.O.length cw4, .slice W5 x.L.length cw5] 47)) 0).trans (show _ = some (.slice A0 l0.length c0) from rfl)) | ((with_reducible refine gate_dst (N := 38) rfl ?_); (try (refine gate_guard (by rfl) ?_; dsimp only)); refine goesL_ (some 38) rfl rfl Try.func8 (by kernel_rfl) rfl #[.agg #[.slice A0 l0.length c0]] rfl (by (try simp only [zAA, zAB, zAC]); first | done | rfl) ?_; refine (toTree_calls k A0 c0 l0 ps _ (Kd.C_alloc (Kd.C_below HR0.out HB.out) _) HC0.out E2.out).mono ?_; rintro er w38 ⟨v38, rfl, hS, hb⟩; refine ⟨_, rfl, ?_⟩; have hb0 := hb; replace hb := zAD (below_alloc (Below.refl w34.heap.size w34) (.cells #[.slice W0 x.K.length cw0, .slice W1 x.V.length cw1, .slice W2 x.C.length cw2, .int .i64 x.g, .slice W4 x.O.length cw4, .slice W5 x.L.length cw5] 47)) hb; have BW := zA (blk_below (blk_new w34 (.cells #[.slice W0 x.K.length cw0, .slice W1 x.V.length cw1, .slice W2 x.C.length cw2, .int .i64 x.g, .slice W4 x.O.length cw4, .slice W5 x.L.length cw5] 47)) hb0); have n3_ := zA (zAD HB.out hb); have n4_ := zA (zAD HB7.out hb); have n5_ := zA (blk_below BK.out hb); obtain ⟨X38, cx38, rfl⟩ := Kd.S_slice hS; obtain ⟨PHX, hPX⟩ : ∃ P : Nat → Prop, P = fun k_ => w34.heap.size + 1 ≤ k_ ∧ k_ < w38.heap.size := ⟨_, rfl⟩; have n8_ := zA ((by rw [hPX]; exact Kd.S_lower (Kd.S_mono (Kd.S_bound hS) (fun k_ hk => ⟨Nat.le_trans (Nat.le_of_eq (RT.sz1 _ _)) hk.2.1, hk.2.2.1⟩)) (Nat.le_trans (Nat.le_succ _) (Nat.le_of_eq (RT.sz1 _ _))) : Kd.S a97 97 w38 w34.heap.size PHX _ ps)); have n9_ := zA ((fun k_ h_ => by rw [hPX] at h_; exact h_ : ∀ k_, PHX k_ → w34.heap.size + 1 ≤ k_ ∧ k_ < w38.heap.size)); have n10_ := zA ((Nat.le_trans (Nat.le_of_eq (RT.sz1 _ _)) hb0.size : w34.heap.size + 1 ≤ w38.heap.size)); have n11_ := zA (NG34.out); clear hS hPX hb0; clear HB HB7 BK; have HB := n3_; clear n3_; have HB7 := n4_; clear n4_; have BK := n5_; clear n5_; have HX := n8_; clear n8_; have N38 := n9_; clear n9_; have NB := n10_; clear n10_; have NG := n11_; clear n11_; clear hc1_0; have hc1_0 := (blk_cell BK.out 0).trans (show _ = some (.slice A0 l0.length c0) from rfl); obtain ⟨hcw_0, hcw_1, hcw_2, hcw_3, hcw_4, hcw_5⟩ := cell6 BW.out; (try clear hb); clear hc1_0 hcw_0 hcw_1 hcw_2 hcw_3 hcw_4 hcw_5; have hc1_0 := (blk_cell (blk_alloc BK.out (.cells #[.slice X38 ps.length cx38] 30)) 0).trans (show _ = some (.slice A0 l0.length c0) from rfl); obtain ⟨hcw_0, hcw_1, hcw_2, hcw_3, hcw_4, hcw_5⟩ := cell6 (blk_alloc BW.out (.cells #[.slice X38 ps.length cx38] 30))) | ((with_reducible refine gate_dst (N := 43) rfl ?_); (try (refine gate_guard (by rfl) ?_; dsimp only)); refine goesL_ (some 43) rfl rfl Try.func18 (by kernel_rfl) rfl #[.agg #[.slice X38 ps.length cx38], .string s, .string e] rfl (by (try simp only [zAA, zAB, zAC]); first | done | rfl) ?_; refine (HKI.out X38 cx38 (Kd.S_reads' HX.out).2.1 _ (Kd.C_alloc (aps_C (Kd.S_reads' HX.out).2.2) _)).mono ?_; rintro er w43 ⟨G0, cg0, G1, cg1, G2, cg2, G4, cg4, G5, cg5, rfl, hM, hb⟩; refine ⟨_, rfl, ?_⟩; have hb0 := hb; replace hb := zAD (below_alloc (Below.refl w38.heap.size w38) (.cells #[.slice X38 ps.length cx38] 30)) hb; have BX := zA (blk_below (blk_new w38 (.cells #[.slice X38 ps.length cx38] 30)) hb0); have n3_ := zA (zAD HB.out hb); have n4_ := zA (zAD HB7.out hb); have n5_ := zA (blk_below BK.out hb); have n6_ := zA (blk_below BW.out hb); have n7_ := zA (Kd.S_below HX.out hb); obtain ⟨PHG, hPG⟩ : ∃ P : Nat → Prop, P = fun k_ => w38.heap.size + 1 ≤ k_ ∧ k_ < w43.heap.size := ⟨_, rfl⟩; have n9_ := zA ((by rw [hPG]; exact (kp 10).M_lower (by have h1_ := NB.out; have h2_ := RT.sz1 w38 (.cells #[.slice X38 ps.length cx38] 30); omega) ((kp 10).M_mono (fun k_ hk => ⟨Nat.le_trans (Nat.le_of_eq (RT.sz1 _ _)) hk.2.1, hk.2.2.1⟩) ((kp 10).M_bound hM)) : (kp 10).M w43 w34.heap.size PHG x _)); have n10_ := zA ((fun k_ h_ => by rw [hPG] at h_; exact h_ : ∀ k_, PHG k_ → w38.heap.size + 1 ≤ k_ ∧ k_ < w43.heap.size)); have n11_ := zA ((Nat.le_trans (Nat.le_of_eq (RT.sz1 _ _)) hb0.size : w38.heap.size + 1 ≤ w43.heap.size)); clear hM hPG hb0; clear HB HB7 BK BW HX; have HB := n3_; clear n3_; have HB7 := n4_; clear n4_; have BK := n5_; clear n5_; have BW := n6_; clear n6_; have HX := n7_; clear n7_; have HG := n9_; clear n9_; have N43 := n10_; clear n10_; have NC := n11_; clear n11_; clear hc1_0 hcw_0 hcw_1 hcw_2 hcw_3 hcw_4 hcw_5; have hc1_0 := (blk_cell BK.out 0).trans (show _ = some (.slice A0 l0.length c0) from rfl); have hc2_0 := (blk_cell BX.out 0).trans (show _ = some (.slice X38 ps.length cx38) from rfl); obtain ⟨hcw_0, hcw_1, hcw_2, hcw_3, hcw_4, hcw_5⟩ := cell6 BW.out; (try clear hb); clear hc1_0 hc2_0 hcw_0 hcw_1 hcw_2 hcw_3 hcw_4 hcw_5; have hc1_0 := (blk_cell (blk_alloc BK.out (.cells #[.slice G0 x.K.length cg0, .slice G1 x.V.length cg1, .slice G2 x.C.length cg2, .int .i64 x.g, .slice G4 x.O.length cg4, .slice G5 x.L.length cg5] 47)) 0).trans (show _ = some (.slice A0 l0.length c0) from rfl); have hc2_0 := (blk_cell (blk_alloc BX.out (.cells #[.slice G0 x.K.length cg0, .slice G1 x.V.length cg1, .slice G2 x.C.length cg2, .int .i64 x.g, .slice G4 x.O.length cg4, .slice G5 x.L.length cg5] 47)) 0).trans (show _ = some (.slice X38 ps.length cx38) from rfl); obtain ⟨hcw_0, hcw_1, hcw_2, hcw_3, hcw_4, hcw_5⟩ := cell6 (blk_alloc BW.out (.cells #[.slice G0 x.K.length cg0, .slice G1 x.V.length cg1, .slice G2 x.C.length cg2, .int .i64 x.g, .slice G4 x.O.length cg4, .slice G5 x.L.length cg5] 47)); obtain ⟨hcg_0, hcg_1, hcg_2, hcg_3, hcg_4, hcg_5⟩ := cell6 (blk_new w43 (.cells #[.slice G0 x.K.length cg0, .slice G1 x.V.length cg1, .slice G2 x.C.length cg2, .int .i64 x.g, .slice G4 x.O.length cg4, .slice G5 x.L.length cg5] 47))) | ((with_reducible refine gate_dst (N := 48) rfl ?_); (try (refine gate_guard (by rfl) ?_; dsimp only)); refine goesL_ (some 48) rfl rfl Try.func19 (by kernel_rfl) rfl #[.agg #[.slice G0 x.K.length cg0, .slice G1 x.V.length cg1, .slice G2 x.C.length cg2, .int .i64 x.g, .slice G4 x.O.length cg4, .slice G5 x.L.length cg5], .agg #[.slice W0 x.K.length cw0, .slice W1 x.V.length cw1, .slice W2 x.C.length cw2, .int .i64 x.g, .slice W4 x.O.length cw4, .slice W5 x.L.length cw5]] rfl (by (try simp only [zAA, zAB, zAC]); first | done | rfl) ?_; refine (RM.eqPc (n := 9) (RM.eqPcS 9) x _ ((kp 10).K_below (below_alloc (Below.refl _ _) (.cells #[.slice G0 x.K.length cg0, .slice G1 x.V.length cg1, .slice G2 x.C.length cg2, .int .i64 x.g, .slice G4 x.O.length cg4, .slice G5 x.L.length cg5] 47)) ((kp 10).K_of_M HG.out)) ((kp 10).K_below (zH HB7.out (.cells #[.slice G0 x.K.length cg0, .slice G1 x.V.length cg1, .slice G2 x.C.length cg2, .int .i64 x.g, .slice G4 x.O.length cg4, .slice G5 x.L.length cg5] 47)) HW.out) HSM.out).mono ?_; rintro er w48 ⟨rfl, hb⟩; refine ⟨_, rfl, ?_⟩; have hb0 := hb; replace hb := zAD (below_alloc (Below.refl w43.heap.size w43) (.cells #[.slice G0 x.K.length cg0, .slice G1 x.V.length cg1, .slice G2 x.C.length cg2, .int .i64 x.g, .slice G4 x.O.length cg4, .slice G5 x.L.length cg5] 47)) hb; have BG := zA (blk_below (blk_new w43 (.cells #[.slice G0 x.K.length cg0, .slice G1 x.V.length cg1, .slice G2 x.C.length cg2, .int .i64 x.g, .slice G4 x.O.length cg4, .slice G5 x.L.length cg5] 47)) hb0); have n3_ := zA (zAD HB.out hb); have n4_ := zA (zAD HB7.out hb); have n5_ := zA (blk_below BK.out hb); have n6_ := zA (blk_below BX.out hb); have n7_ := zA (blk_below BW.out hb); have n8_ := zA (Kd.S_below HX.out hb); have n9_ := zA (Kd.M_below HG.out hb); clear hb0; clear HB HB7 BK BX BW HX HG; have HB := n3_; clear n3_; have HB7 := n4_; clear n4_; have BK := n5_; clear n5_; have BX := n6_; clear n6_; have BW := n7_; clear n7_; have HX := n8_; clear n8_; have HG := n9_; clear n9_; clear hc1_0 hc2_0 hcw_0 hcw_1 hcw_2 hcw_3 hcw_4 hcw_5 hcg_0 hcg_1 hcg_2 hcg_3 hcg_4 hcg_5; have hc1_0 := (blk_cell BK.out 0).trans (show _ = some (.slice A0 l0.length c0) from rfl); have hc2_0 := (blk_cell BX.out 0).trans (show _ = some (.slice X38 ps.length cx38) from rfl); obtain ⟨hcw_0, hcw_1, hcw_2, hcw_3, hcw_4, hcw_5⟩ := cell6 BW.out; obtain ⟨hcg_0, hcg_1, hcg_2, hcg_3, hcg_4, hcg_5⟩ := cell6 BG.out; (try clear hb)))
 have n0_ := zA (Kd.S_drew HX.out); have n1_ := zA (Kd.M_below HG.out (below_drew (Below.refl _ _))); have n2_ := zA (zN BK.out); have n3_ := zA (zN BX.out); have n4_ := zA (zN BW.out); have n5_ := zA (zN BG.out); have n6_ := zA (zG HB.out); have n7_ := zA (zG HB7.out); clear HX HG BK BX BW BG HB HB7 hc1_0 hc2_0 hcw_0 hcw_1 hcw_2 hcw_3 hcw_4 hcw_5 hcg_0 hcg_1 hcg_2 hcg_3 hcg_4 hcg_5; have HX := n0_; have HG := n1_; have BK := n2_; have BX := n3_; have BW := n4_; have BG := n5_; have HB := n6_; have HB7 := n7_; clear n0_ n1_ n2_ n3_ n4_ n5_ n6_ n7_
 refine start_ (n := 5) (S := (fun w' => w'.cell? ⟨w38.heap.size, 0, none⟩ = some (.slice X38 ps.length cx38) ∧ w'.cell? ⟨gb1, 0, none⟩ = some (.slice A0 l0.length c0))) (ds := []) #[false, false, false, false, false] (by kernel_rfl) rfl rfl ⟨(zP BX.out 0).trans rfl, (zP BK.out 0).trans rfl⟩ (fun hHeld => ?_); generalize w48.drew = w49 at HX HG BK BX BW BG HB HB7 hHeld ⊢
 refine take_ (i := 0) (N := some 55) (v := ?_) (a' := ?_) #[true, false, false, false, false] rfl rfl (by kernel_rfl) (fun _ _ _ h => h) (Or.inl ⟨by rfl, ?_⟩) hHeld ?_ ?_; rotate_left
 ·rintro w' ⟨s0, s1⟩
  go_simp
  with_reducible rfl
 rotate_left
 ·simp only [Act.put, zC, zD, zE, i64_w]
  rfl
 refine take_ (i := 1) (N := some 56) (v := ?_) (a' := ?_) #[true, true, false, false, false] rfl rfl (by kernel_rfl) (fun _ _ _ h => h) (Or.inl ⟨by rfl, ?_⟩) hHeld ?_ ?_; rotate_left
 ·rintro w' ⟨s0, s1⟩
  go_simp
  with_reducible rfl
 rotate_left
 ·simp only [Act.put, zC, zD, zE, i64_w]
  rfl
 refine one_ (i := 2) (N := some 57) #[true, true, true, false, false] rfl rfl (by kernel_rfl) (by decide) (fun K hK => ?_); refine goes_ Try.func8 (by kernel_rfl) rfl #[.agg #[.slice A0 l0.length c0]] (by rfl) rfl rfl (by (try simp only [zAA, zAB, zAC]); first | done | rfl | (simp only [zZ, zY]; rfl)) ?_
 refine (toTree_calls k A0 c0 l0 ps _ (Kd.C_below HR0.out HB.out) HC0.out E2.out).mono ?_; rintro er w57 ⟨v57, rfl, hS, hb⟩; refine ⟨_, rfl, ?_⟩; have n0_ := zA (zAD HB.out hb); have n1_ := zA (zAD HB7.out hb); have n2_ := zA (blk_below BK.out hb); have n3_ := zA (blk_below BX.out hb); have n4_ := zA (blk_below BW.out hb); have n5_ := zA (blk_below BG.out hb); have n6_ := zA (Kd.S_below HX.out hb); have n7_ := zA (Kd.M_below HG.out hb); obtain ⟨X57, cx57, rfl⟩ := Kd.S_slice hS; have n9_ := zA (hS); clear hS; clear HB HB7 BK BX BW BG HX HG; have HB := n0_; clear n0_; have HB7 := n1_; clear n1_; have BK := n2_; clear n2_; have BX := n3_; clear n3_; have BW := n4_; clear n4_; have BG := n5_; clear n5_; have HX := n6_; clear n6_; have HG := n7_; clear n7_; have HT := n9_; clear n9_; (try clear hb)
 refine hK.out _ _ ⟨(zP BX.out 0).trans rfl, (zP BK.out 0).trans rfl⟩ (fun hHeld => ?_); clear hK K; refine norm_ (a' := ?_) ?_ ?_; rotate_left
 ·show Act.put _ (some 57) _ = _
  simp only [Act.put, zC, zD, zE, i64_w]; rfl
 refine one_ (i := 3) (N := some 58) #[true, true, true, true, false] rfl rfl (by kernel_rfl) (by decide) (fun K hK => ?_); refine goes_ Try.func10 (by kernel_rfl) rfl #[.agg #[.slice X38 ps.length cx38], .agg #[.slice X57 ps.length cx57]] (by rfl) rfl rfl (by (try simp only [zAA, zAB, zAC]); first | done | rfl | (simp only [zZ, zY]; rfl)) ?_
 refine (laws_eqTree.calls k X38 cx38 ps X57 cx57 ps true _ (aps_C (Kd.S_reads' HX.out).2.2) (Kd.S_reads' HX.out).2.1 (aps_C (Kd.S_reads' HT.out).2.2) (Kd.S_reads' HT.out).2.1 E4.out ⟨rfl⟩).mono ?_; rintro er w58 ⟨rfl, hb⟩; refine ⟨_, rfl, ?_⟩; have n0_ := zA (zAD HB.out hb); have n1_ := zA (zAD HB7.out hb); have n2_ := zA (blk_below BK.out hb); have n3_ := zA (blk_below BX.out hb); have n4_ := zA (blk_below BW.out hb); have n5_ := zA (blk_below BG.out hb); have n6_ := zA (Kd.S_below HX.out hb); have n7_ := zA (Kd.M_below HG.out hb); clear HT; clear HB HB7 BK BX BW BG HX HG; have HB := n0_; clear n0_; have HB7 := n1_; clear n1_; have BK := n2_; clear n2_; have BX := n3_; clear n3_; have BW := n4_; clear n4_; have BG := n5_; clear n5_; have HX := n6_; clear n6_; have HG := n7_; clear n7_; (try clear hb)
 refine hK.out _ _ ⟨(zP BX.out 0).trans rfl, (zP BK.out 0).trans rfl⟩ (fun hHeld => ?_); clear hK K; refine norm_ (a' := ?_) ?_ ?_; rotate_left
 ·show Act.put _ (some 58) _ = _
  simp only [Act.put, zC, zD, zE, i64_w]; rfl
 refine pure_ (i := 4) (N := some 59) (v := ?_) (a' := ?_) #[true, true, true, true, true] rfl rfl (by kernel_rfl) (fun _ _ _ h => h) (Or.inl ⟨by rfl, ?_⟩) ?_ ?_; rotate_left
 ·intro w'
  go_simp
  with_reducible rfl
 rotate_left
 ·simp only [Act.put, zC, zD, zE, i64_w]
  rfl
 refine done_ (by kernel_rfl) ?_
 have hc1_0 := (blk_cell BK.out 0).trans (show _ = some (.slice A0 l0.length c0) from rfl)
 have hc2_0 := (blk_cell BX.out 0).trans (show _ = some (.slice X38 ps.length cx38) from rfl)
 obtain ⟨hcw_0, hcw_1, hcw_2, hcw_3, hcw_4, hcw_5⟩ := cell6 BW.out
 obtain ⟨hcg_0, hcg_1, hcg_2, hcg_3, hcg_4, hcg_5⟩ := cell6 BG.out
 go_wp2_with (first | ((with_reducible refine gate_dst (N := 62) rfl ?_); (try (refine gate_guard (by rfl) ?_; dsimp only)); refine goesL_ (some 62) rfl rfl Try.func14 (by kernel_rfl) rfl #[.agg #[.slice X38 ps.length cx38], .int .i64 1] rfl (by (try simp only [zAA, zAB, zAC]); first | done | rfl) ?_; refine (RG.markTB k PHX (.slice X38 ps.length cx38) ps 1 m1 ps2 w34 _ HB7.out HX.out E5.out).mono ?_; rintro er w62 ⟨rfl, hx, hb, hk⟩; refine ⟨_, rfl, ?_⟩; have n0_ := zA (zAD HB34.out hb); have n1_ := zA (hb); have n2_ := zA (Kd.M_kept HG.out hk (fun k_ h1 h2 => by have := N43.out k_ h1; have := N38.out k_ h2; omega)); have n3_ := zA (blk_kept BK.out hk (fun h_ => by have h1_ := N38.out _ h_; have h2_ := NB.out; have h3_ := NC.out; have h4_ := NG.out; omega)); have n4_ := zA (blk_kept BX.out hk (fun h_ => by have h1_ := N38.out _ h_; have h2_ := NB.out; have h3_ := NC.out; have h4_ := NG.out; omega)); have n5_ := zA (blk_kept BW.out hk (fun h_ => by have h1_ := N38.out _ h_; have h2_ := NB.out; have h3_ := NC.out; have h4_ := NG.out; omega)); have n6_ := zA (blk_kept BG.out hk (fun h_ => by have h1_ := N38.out _ h_; have h2_ := NB.out; have h3_ := NC.out; have h4_ := NG.out; omega)); clear hx hk HX; clear HB HB7 HG BK BX BW BG; have HB := n0_; clear n0_; have HB7 := n1_; clear n1_; have HG := n2_; clear n2_; have BK := n3_; clear n3_; have BX := n4_; clear n4_; have BW := n5_; clear n5_; have BG := n6_; clear n6_; clear hc1_0 hc2_0 hcw_0 hcw_1 hcw_2 hcw_3 hcw_4 hcw_5 hcg_0 hcg_1 hcg_2 hcg_3 hcg_4 hcg_5; have hc1_0 := (blk_cell BK.out 0).trans (show _ = some (.slice A0 l0.length c0) from rfl); have hc2_0 := (blk_cell BX.out 0).trans (show _ = some (.slice X38 ps.length cx38) from rfl); obtain ⟨hcw_0, hcw_1, hcw_2, hcw_3, hcw_4, hcw_5⟩ := cell6 BW.out; obtain ⟨hcg_0, hcg_1, hcg_2, hcg_3, hcg_4, hcg_5⟩ := cell6 BG.out; (try clear hb)) | ((with_reducible refine gate_dst (N := 68) rfl ?_); (try (refine gate_guard (by rfl) ?_; dsimp only)); refine goesL_ (some 68) rfl rfl Try.func19 (by kernel_rfl) rfl #[.agg #[.slice G0 x.K.length cg0, .slice G1 x.V.length cg1, .slice G2 x.C.length cg2, .int .i64 x.g, .slice G4 x.O.length cg4, .slice G5 x.L.length cg5], .agg #[.slice W0 x.K.length cw0, .slice W1 x.V.length cw1, .slice W2 x.C.length cw2, .int .i64 x.g, .slice W4 x.O.length cw4, .slice W5 x.L.length cw5]] rfl (by (try simp only [zAA, zAB, zAC]); first | done | rfl) ?_; refine (RM.eqPc (n := 9) (RM.eqPcS 9) x _ ((kp 10).K_of_M HG.out) ((kp 10).K_below HB7.out HW.out) HSM.out).mono ?_; rintro er w68 ⟨rfl, hb⟩; refine ⟨_, rfl, ?_⟩; have n0_ := zA (zAD HB.out hb); have n1_ := zA (zAD HB7.out hb); have n2_ := zA (blk_below BK.out hb); have n3_ := zA (blk_below BX.out hb); have n4_ := zA (blk_below BW.out hb); have n5_ := zA (blk_below BG.out hb); have n6_ := zA (Kd.M_below HG.out hb); clear HB HB7 BK BX BW BG HG; have HB := n0_; clear n0_; have HB7 := n1_; clear n1_; have BK := n2_; clear n2_; have BX := n3_; clear n3_; have BW := n4_; clear n4_; have BG := n5_; clear n5_; have HG := n6_; clear n6_; clear hc1_0 hc2_0 hcw_0 hcw_1 hcw_2 hcw_3 hcw_4 hcw_5 hcg_0 hcg_1 hcg_2 hcg_3 hcg_4 hcg_5; have hc1_0 := (blk_cell BK.out 0).trans (show _ = some (.slice A0 l0.length c0) from rfl); have hc2_0 := (blk_cell BX.out 0).trans (show _ = some (.slice X38 ps.length cx38) from rfl); obtain ⟨hcw_0, hcw_1, hcw_2, hcw_3, hcw_4, hcw_5⟩ := cell6 BW.out; obtain ⟨hcg_0, hcg_1, hcg_2, hcg_3, hcg_4, hcg_5⟩ := cell6 BG.out; (try clear hb)) | ((with_reducible refine gate_dst (N := 78) rfl ?_); (try (refine gate_guard (by rfl) ?_; dsimp only)); refine goesL_ (some 78) rfl rfl Try.func20 (by kernel_rfl) rfl #[.agg #[.slice G0 x.K.length cg0, .slice G1 x.V.length cg1, .slice G2 x.C.length cg2, .int .i64 x.g, .slice G4 x.O.length cg4, .slice G5 x.L.length cg5], .int .i64 1] rfl (by (try simp only [zAA, zAB, zAC]); first | done | rfl) ?_; refine (markX x PHG w34 _ 1 rfl HB7.out HG.out HSM.out HSZ.out mT HMT.out).mono ?_; rintro er w78 ⟨rfl, hM2, hb, hk⟩; refine ⟨_, rfl, ?_⟩; have n0_ := zA (zAD HB34.out hb); have n1_ := zA (hb); have n2_ := zA (blk_kept BK.out hk (fun h_ => by have h1_ := N43.out _ h_; have h2_ := NB.out; have h3_ := NC.out; have h4_ := NG.out; omega)); have n3_ := zA (blk_kept BX.out hk (fun h_ => by have h1_ := N43.out _ h_; have h2_ := NB.out; have h3_ := NC.out; have h4_ := NG.out; omega)); have n4_ := zA (blk_kept BW.out hk (fun h_ => by have h1_ := N43.out _ h_; have h2_ := NB.out; have h3_ := NC.out; have h4_ := NG.out; omega)); have n5_ := zA (blk_kept BG.out hk (fun h_ => by have h1_ := N43.out _ h_; have h2_ := NB.out; have h3_ := NC.out; have h4_ := NG.out; omega)); have n6_ := zA (hM2); clear hM2 hk; clear HB HB7 BK BX BW BG HG; have HB := n0_; clear n0_; have HB7 := n1_; clear n1_; have BK := n2_; clear n2_; have BX := n3_; clear n3_; have BW := n4_; clear n4_; have BG := n5_; clear n5_; have HG := n6_; clear n6_; clear hc1_0 hc2_0 hcw_0 hcw_1 hcw_2 hcw_3 hcw_4 hcw_5 hcg_0 hcg_1 hcg_2 hcg_3 hcg_4 hcg_5; have hc1_0 := (blk_cell BK.out 0).trans (show _ = some (.slice A0 l0.length c0) from rfl); have hc2_0 := (blk_cell BX.out 0).trans (show _ = some (.slice X38 ps.length cx38) from rfl); obtain ⟨hcw_0, hcw_1, hcw_2, hcw_3, hcw_4, hcw_5⟩ := cell6 BW.out; obtain ⟨hcg_0, hcg_1, hcg_2, hcg_3, hcg_4, hcg_5⟩ := cell6 BG.out; (try clear hb)) | ((with_reducible refine gate_dst (N := 81) rfl ?_); (try (refine gate_guard (by rfl) ?_; dsimp only)); refine goesL_ (some 81) rfl rfl Try.func21 (by kernel_rfl) rfl #[.agg #[.slice G0 x.K.length cg0, .slice G1 x.V.length cg1, .slice G2 x.C.length cg2, .int .i64 x.g, .slice G4 x.O.length cg4, .slice G5 x.L.length cg5], .int .i64 1] rfl (by (try simp only [zAA, zAB, zAC]); first | done | rfl) ?_; refine (heldX x _ 1 rfl ((kp 10).K_of_M HG.out) HSM.out HSZ.out mT HMT.out).mono ?_; rintro er w81 ⟨rfl, hb⟩; refine ⟨_, rfl, ?_⟩; have n0_ := zA (zAD HB.out hb); have n1_ := zA (zAD HB7.out hb); have n2_ := zA (blk_below BK.out hb); have n3_ := zA (blk_below BX.out hb); have n4_ := zA (blk_below BW.out hb); have n5_ := zA (blk_below BG.out hb); have n6_ := zA (Kd.M_below HG.out hb); clear HB HB7 BK BX BW BG HG; have HB := n0_; clear n0_; have HB7 := n1_; clear n1_; have BK := n2_; clear n2_; have BX := n3_; clear n3_; have BW := n4_; clear n4_; have BG := n5_; clear n5_; have HG := n6_; clear n6_; clear hc1_0 hc2_0 hcw_0 hcw_1 hcw_2 hcw_3 hcw_4 hcw_5 hcg_0 hcg_1 hcg_2 hcg_3 hcg_4 hcg_5; have hc1_0 := (blk_cell BK.out 0).trans (show _ = some (.slice A0 l0.length c0) from rfl); have hc2_0 := (blk_cell BX.out 0).trans (show _ = some (.slice X38 ps.length cx38) from rfl); obtain ⟨hcw_0, hcw_1, hcw_2, hcw_3, hcw_4, hcw_5⟩ := cell6 BW.out; obtain ⟨hcg_0, hcg_1, hcg_2, hcg_3, hcg_4, hcg_5⟩ := cell6 BG.out; (try clear hb)) | ((with_reducible refine gate_dst (N := 89) rfl ?_); (try (refine gate_guard (by rfl) ?_; dsimp only)); refine goesL_ (some 89) rfl rfl Try.func8 (by kernel_rfl) rfl #[.agg #[.slice A0 l0.length c0]] rfl (by (try simp only [zAA, zAB, zAC]); first | done | rfl) ?_; refine (toTree_calls k A0 c0 l0 ps _ (Kd.C_below HR0.out HB.out) HC0.out E2.out).mono ?_; rintro er w89 ⟨v89, rfl, hS, hb⟩; refine ⟨_, rfl, ?_⟩; have n0_ := zA (zAD HB.out hb); have n1_ := zA (zAD HB7.out hb); have n2_ := zA (blk_below BK.out hb); have n3_ := zA (blk_below BX.out hb); have n4_ := zA (blk_below BW.out hb); have n5_ := zA (blk_below BG.out hb); have n6_ := zA (Kd.M_below HG.out hb); obtain ⟨X89, cx89, rfl⟩ := Kd.S_slice hS; have n8_ := zA (hS); clear hS; clear HB HB7 BK BX BW BG HG; have HB := n0_; clear n0_; have HB7 := n1_; clear n1_; have BK := n2_; clear n2_; have BX := n3_; clear n3_; have BW := n4_; clear n4_; have BG := n5_; clear n5_; have HG := n6_; clear n6_; have HT := n8_; clear n8_; clear hc1_0 hc2_0 hcw_0 hcw_1 hcw_2 hcw_3 hcw_4 hcw_5 hcg_0 hcg_1 hcg_2 hcg_3 hcg_4 hcg_5; have hc1_0 := (blk_cell BK.out 0).trans (show _ = some (.slice A0 l0.length c0) from rfl); have hc2_0 := (blk_cell BX.out 0).trans (show _ = some (.slice X38 ps.length cx38) from rfl); obtain ⟨hcw_0, hcw_1, hcw_2, hcw_3, hcw_4, hcw_5⟩ := cell6 BW.out; obtain ⟨hcg_0, hcg_1, hcg_2, hcg_3, hcg_4, hcg_5⟩ := cell6 BG.out; (try clear hb)) | ((with_reducible refine gate_dst (N := 92) rfl ?_); (try (refine gate_guard (by rfl) ?_; dsimp only)); refine goesL_ (some 92) rfl rfl Try.func18 (by kernel_rfl) rfl #[.agg #[.slice X89 ps.length cx89], .string s, .string e] rfl (by (try simp only [zAA, zAB, zAC]); first | done | rfl) ?_; refine (HKI.out X89 cx89 (Kd.S_reads' HT.out).2.1 _ (aps_C (Kd.S_reads' HT.out).2.2)).mono ?_; rintro er w92 ⟨H0, ch0, H1, ch1, H2, ch2, H4, ch4, H5, ch5, rfl, hM, hb⟩; refine ⟨_, rfl, ?_⟩; have n0_ := zA (zAD HB.out hb); have n1_ := zA (zAD HB7.out hb); have n2_ := zA (blk_below BK.out hb); have n3_ := zA (blk_below BX.out hb); have n4_ := zA (blk_below BW.out hb); have n5_ := zA (blk_below BG.out hb); have n6_ := zA (Kd.M_below HG.out hb); have n7_ := zA ((kp 10).K_of_M hM); clear hM HT; clear HB HB7 BK BX BW BG HG; have HB := n0_; clear n0_; have HB7 := n1_; clear n1_; have BK := n2_; clear n2_; have BX := n3_; clear n3_; have BW := n4_; clear n4_; have BG := n5_; clear n5_; have HG := n6_; clear n6_; have HH := n7_; clear n7_; clear hc1_0 hc2_0 hcw_0 hcw_1 hcw_2 hcw_3 hcw_4 hcw_5 hcg_0 hcg_1 hcg_2 hcg_3 hcg_4 hcg_5; have hc1_0 := (blk_cell BK.out 0).trans (show _ = some (.slice A0 l0.length c0) from rfl); have hc2_0 := (blk_cell BX.out 0).trans (show _ = some (.slice X38 ps.length cx38) from rfl); obtain ⟨hcw_0, hcw_1, hcw_2, hcw_3, hcw_4, hcw_5⟩ := cell6 BW.out; obtain ⟨hcg_0, hcg_1, hcg_2, hcg_3, hcg_4, hcg_5⟩ := cell6 BG.out; (try clear hb); clear hc1_0 hc2_0 hcw_0 hcw_1 hcw_2 hcw_3 hcw_4 hcw_5 hcg_0 hcg_1 hcg_2 hcg_3 hcg_4 hcg_5; have hc1_0 := (blk_cell (blk_alloc BK.out (.cells #[.slice H0 x.K.length ch0, .slice H1 x.V.length ch1, .slice H2 x.C.length ch2, .int .i64 x.g, .slice H4 x.O.length ch4, .slice H5 x.L.length ch5] 47)) 0).trans (show _ = some (.slice A0 l0.length c0) from rfl); have hc2_0 := (blk_cell (blk_alloc BX.out (.cells #[.slice H0 x.K.length ch0, .slice H1 x.V.length ch1, .slice H2 x.C.length ch2, .int .i64 x.g, .slice H4 x.O.length ch4, .slice H5 x.L.length ch5] 47)) 0).trans (show _ = some (.slice X38 ps.length cx38) from rfl); obtain ⟨hcw_0, hcw_1, hcw_2, hcw_3, hcw_4, hcw_5⟩ := cell6 (blk_alloc BW.out (.cells #[.slice H0 x.K.length ch0, .slice H1 x.V.length ch1, .slice H2 x.C.length ch2, .int .i64 x.g, .slice H4 x.O.length ch4, .slice H5 x.L.length ch5] 47)); obtain ⟨hcg_0, hcg_1, hcg_2, hcg_3, hcg_4, hcg_5⟩ := cell6 (blk_alloc BG.out (.cells #[.slice H0 x.K.length ch0, .slice H1 x.V.length ch1, .slice H2 x.C.length ch2, .int .i64 x.g, .slice H4 x.O.length ch4, .slice H5 x.L.length ch5] 47)); obtain ⟨hch_0, hch_1, hch_2, hch_3, hch_4, hch_5⟩ := cell6 (blk_new w92 (.cells #[.slice H0 x.K.length ch0, .slice H1 x.V.length ch1, .slice H2 x.C.length ch2, .int .i64 x.g, .slice H4 x.O.length ch4, .slice H5 x.L.length ch5] 47))) | ((with_reducible refine gate_dst (N := 97) rfl ?_); (try (refine gate_guard (by rfl) ?_; dsimp only)); refine goesL_ (some 97) rfl rfl Try.func19 (by kernel_rfl) rfl #[.agg #[.slice H0 x.K.length ch0, .slice H1 x.V.length ch1, .slice H2 x.C.length ch2, .int .i64 x.g, .slice H4 x.O.length ch4, .slice H5 x.L.length ch5], .agg #[.slice W0 x.K.length cw0, .slice W1 x.V.length cw1, .slice W2 x.C.length cw2, .int .i64 x.g, .slice W4 x.O.length cw4, .slice W5 x.L.length cw5]] rfl (by (try simp only [zAA, zAB, zAC]); first | done | rfl) ?_; refine (RM.eqPc (n := 9) (RM.eqPcS 9) x _ ((kp 10).K_below (below_alloc (Below.refl _ _) (.cells #[.slice H0 x.K.length ch0, .slice H1 x.V.length ch1, .slice H2 x.C.length ch2, .int .i64 x.g, .slice H4 x.O.length ch4, .slice H5 x.L.length ch5] 47)) HH.out) ((kp 10).K_below (zH HB7.out (.cells #[.slice H0 x.K.length ch0, .slice H1 x.V.length ch1, .slice H2 x.C.length ch2, .int .i64 x.g, .slice H4 x.O.length ch4, .slice H5 x.L.length ch5] 47)) HW.out) HSM.out).mono ?_; rintro er w97 ⟨rfl, hb⟩; refine ⟨_, rfl, ?_⟩; have hb0 := hb; replace hb := zAD (below_alloc (Below.refl w92.heap.size w92) (.cells #[.slice H0 x.K.length ch0, .slice H1 x.V.length ch1, .slice H2 x.C.length ch2, .int .i64 x.g, .slice H4 x.O.length ch4, .slice H5 x.L.length ch5] 47)) hb; have n2_ := zA (zAD HB.out hb); have n3_ := zA (zAD HB7.out hb); have n4_ := zA (blk_below BK.out hb); have n5_ := zA (blk_below BX.out hb); have n6_ := zA (blk_below BW.out hb); have n7_ := zA (blk_below BG.out hb); have n8_ := zA (Kd.M_below HG.out hb); clear HH hb0; clear HB HB7 BK BX BW BG HG; have HB := n2_; clear n2_; have HB7 := n3_; clear n3_; have BK := n4_; clear n4_; have BX := n5_; clear n5_; have BW := n6_; clear n6_; have BG := n7_; clear n7_; have HG := n8_; clear n8_; clear hc1_0 hc2_0 hcw_0 hcw_1 hcw_2 hcw_3 hcw_4 hcw_5 hcg_0 hcg_1 hcg_2 hcg_3 hcg_4 hcg_5 hch_0 hch_1 hch_2 hch_3 hch_4 hch_5; have hc1_0 := (blk_cell BK.out 0).trans (show _ = some (.slice A0 l0.length c0) from rfl); have hc2_0 := (blk_cell BX.out 0).trans (show _ = some (.slice X38 ps.length cx38) from rfl); obtain ⟨hcw_0, hcw_1, hcw_2, hcw_3, hcw_4, hcw_5⟩ := cell6 BW.out; obtain ⟨hcg_0, hcg_1, hcg_2, hcg_3, hcg_4, hcg_5⟩ := cell6 BG.out; (try clear hb)) | ((with_reducible refine gate_dst (N := 106) rfl ?_); (try (refine gate_guard (by rfl) ?_; dsimp only)); refine goesL_ (some 106) rfl rfl Try.func21 (by kernel_rfl) rfl #[.agg #[.slice G0 x.K.length cg0, .slice G1 x.V.length cg1, .slice G2 x.C.length cg2, .int .i64 x.g, .slice G4 x.O.length cg4, .slice G5 x.L.length cg5], .int .i64 1] rfl (by (try simp only [zAA, zAB, zAC]); first | done | rfl) ?_; refine (heldX x _ 1 rfl ((kp 10).K_of_M HG.out) HSM.out HSZ.out mT HMT.out).mono ?_; rintro er w106 ⟨rfl, hb⟩; refine ⟨_, rfl, ?_⟩; have n0_ := zA (zAD HB.out hb); have n1_ := zA (zAD HB7.out hb); have n2_ := zA (blk_below BK.out hb); have n3_ := zA (blk_below BX.out hb); have n4_ := zA (blk_below BW.out hb); have n5_ := zA (blk_below BG.out hb); have n6_ := zA (Kd.M_below HG.out hb); clear HB HB7 BK BX BW BG HG; have HB := n0_; clear n0_; have HB7 := n1_; clear n1_; have BK := n2_; clear n2_; have BX := n3_; clear n3_; have BW := n4_; clear n4_; have BG := n5_; clear n5_; have HG := n6_; clear n6_; clear hc1_0 hc2_0 hcw_0 hcw_1 hcw_2 hcw_3 hcw_4 hcw_5 hcg_0 hcg_1 hcg_2 hcg_3 hcg_4 hcg_5; have hc1_0 := (blk_cell BK.out 0).trans (show _ = some (.slice A0 l0.length c0) from rfl); have hc2_0 := (blk_cell BX.out 0).trans (show _ = some (.slice X38 ps.length cx38) from rfl); obtain ⟨hcw_0, hcw_1, hcw_2, hcw_3, hcw_4, hcw_5⟩ := cell6 BW.out; obtain ⟨hcg_0, hcg_1, hcg_2, hcg_3, hcg_4, hcg_5⟩ := cell6 BG.out; (try clear hb)))
 go_ret
 exact ⟨by first | rfl | (simp <;> rfl), HB.out⟩
end Go.Proofs.Ytnplghcbdaiogaa.RV
end
section
namespace Go.Proofs.Ytnplghcbdaiogaa.PA
open Go.RowKit Go.Proofs.YtnplghcbdaiogaaW.PrintWords Go.Proofs.YtnplghcbdaiogaaW.PrintLast Go.Proofs.YtnplghcbdaiogaaW.PrintMore
attribute [local go_sem] max2_int min2_int max_two min_two max_three min_three max_four min_four
set_option linter.unusedVariables false
set_option linter.unusedSimpArgs false
set_option maxHeartbeats 60000000
set_option maxRecDepth 100000
def laws_FnExactPiecesOf.f (k : Nat) (l0_0 : List (S87)) (a1 : ByteArray) (a2 : ByteArray) : Option Bool := Go.Proofs.Ytnplghcbdaiogaa.RV.lawF k l0_0 a1 a2
theorem laws_FnExactPiecesOf.calls (k : Nat) (A0_0 : Option Addr) (c0_0 : Nat) (l0_0 : List (S87)) (a1 : ByteArray) (a2 : ByteArray) (r : Bool) (w : World) (hr0_0 : Kd.C k87 w A0_0 l0_0.length l0_0) (hc0_0 : l0_0.length ≤ c0_0) (h : laws_FnExactPiecesOf.f k l0_0 a1 a2 = some r) (hr_ : Aside0 (r = true)) :
  Calls Try.prog 5 #[.agg #[.slice A0_0 l0_0.length c0_0], .string a1, .string a2] w fun e w' => e = .returned (.bool r) ∧ Below w.heap.size w w' :=
 Go.Proofs.Ytnplghcbdaiogaa.RV.lawC k A0_0 c0_0 l0_0 a1 a2 r w hr0_0 hc0_0 h hr_
end Go.Proofs.Ytnplghcbdaiogaa.PA
end
