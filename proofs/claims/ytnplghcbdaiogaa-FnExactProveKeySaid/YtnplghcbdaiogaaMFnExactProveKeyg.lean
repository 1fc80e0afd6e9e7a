/- For the law FnExactProveKey (laid by merge.py). -/
import Derived.Test.YtnplghcbdaiogaaMFnExactProveKeyf
import Derived.Deep.Slices
import Derived.ChangeArms
import Derived.DataReads
section
namespace Go.Proofs.Ytnplghcbdaiogaa.PR
open Go.RowKit Go.Proofs.YtnplghcbdaiogaaW.PrintWords Go.Proofs.YtnplghcbdaiogaaW.PrintLast Go.Proofs.YtnplghcbdaiogaaW.PrintMore Go.Proofs.Ytnplghcbdaiogaa.PB Go.Proofs.Ytnplghcbdaiogaa.PW Go.Proofs.Ytnplghcbdaiogaa.QW Go.Proofs.Ytnplghcbdaiogaa.PA Go.Proofs.Ytnplghcbdaiogaa.QP Go.Proofs.Ytnplghcbdaiogaa.QO Go.Proofs.Ytnplghcbdaiogaa.QQ Go.Proofs.Ytnplghcbdaiogaa.QZ Go.Proofs.Ytnplghcbdaiogaa.QY
attribute [local go_sem] max2_int min2_int max_two min_two max_three min_three max_four min_four
set_option linter.unusedVariables false
set_option linter.unusedSimpArgs false
set_option maxHeartbeats 4000000
set_option maxRecDepth 100000
theorem pairsE (K V : List ByteArray) (hl : V.length = K.length) : Ev (fun k => impl_arePairs.f k K V) (pairsB K V) := by
 by_cases h : K.length ≤ 40
 ·exact ev_eq (pairsI K V (by omega) (by omega)) (pairs_two K V hl).symm
 ·unfold impl_arePairs.f
  refine ev_neg (by omega) (ev_eq (Ev.now false) ?_)
  exact (Bool.eq_false_iff.2 (fun q => h ((pairs_iff K V).1 q).1)).symm
def PostRt (w : World) (R : Option T) (e : Ending) (w' : World) : Prop := match R with
 | none => e = .returned (.tuple #[.pointer none, .bool false]) ∧ Below w.heap.size w w'
 | some t => ∃ x : S74, e = .returned (.tuple #[.pointer (some ⟨x.adr, 0, none⟩), .bool true]) ∧ er74 x = t ∧ k74p.M w' w.heap.size (fun _ => True) x [.pointer (some ⟨x.adr, 0, none⟩)] ∧ Below w.heap.size w w'
theorem rootI0 (ps : List S97) (hG : Sml ps) (A : Option Addr) (c : Nat) (hc : ps.length ≤ c) (w : World) (hC : Kd.C k97 w A ps.length ps) :
  Calls Try.prog 27 #[.agg #[.slice A ps.length c]] w fun e w' => PostRt w (treeG ps ps.length) e w' := by
 have HG := zA hG
 have HC := zA hC
 have HLC := zA hc
 have HB := zA (Below.refl w.heap.size w)
 have hu30 := Try.underlying30
 have hu101 := Try.underlying101
 clear hG hC hc
 cases hR : readF ps ps.length 0 with
 | none =>
  have HR := zA hR
  have RR := zA (show treeG ps ps.length = none by unfold treeG; rw [hR])
  clear hR
  go_enter Try.func27, Try.ntmps27
  go_wp2_with (first | ((with_reducible refine gate_dst (N := 1) rfl ?_); refine box_event ?hg (N := 1) ?hd (cs := #[.slice A ps.length c]) (t := 30) ?hr ?_; (case hd => rfl); (case hg => rfl); (case hr => first | (go_simp; done) | (go_simp; rfl)); intro gb1 hg w3 hbox hb; have n0_ := zA (zAD HB.out hb); have BK1 := zA hbox; have GW1 := zA (by rw [hg]; exact Nat.le_refl _ : w.heap.size ≤ gb1); clear HB; have HB := n0_; clear n0_ hb hbox hg; have hx1 : w3.cell? ⟨gb1, 0, none⟩ = some (.slice A ps.length c) := (zP BK1.out 0).trans rfl) | ((with_reducible refine gate_dst (N := 12) rfl ?_); refine box_event ?hg (N := 12) ?hd (cs := #[.slice A ps.length c, .int .i64 0]) (t := 101) ?hr ?_; (case hd => rfl); (case hg => rfl); (case hr => first | (go_simp; done) | (go_simp; rfl)); intro gg hg w4 hbox hb; have n0_ := zA (zAD HB.out hb); have n1_ := zA (blk_below BK1.out hb); have BKG := zA hbox; have GWG := zA (by rw [hg]; exact zAE HB.out : w.heap.size ≤ gg); have NB1G := zA (by rw [hg]; exact zK (blk_lt BK1.out) : gb1 ≠ gg); clear HB BK1; have HB := n0_; have BK1 := n1_; clear n0_ n1_ hb hbox hg hx1; have hI := nodeI ps HG.out A c HLC.out w HC.out gg GWG.out ps.length 0 w4 (Nat.zero_le _) (by omega) HB.out BKG.out; rw [HR.out] at hI) | ((with_reducible refine gate_callee (f := 61) rfl ?_); refine goesL_ (some 15) rfl rfl Try.func61 (by kernel_rfl) rfl #[.pointer (some ⟨gg, 0, none⟩)] rfl (by (try simp only [zAA, zAB, zAC]); first | done | rfl) ?_; refine hI.mono ?_; clear hI;  rintro e w5 ⟨rfl, hb⟩; refine ⟨_, rfl, ?_⟩; clear HB BK1 BKG; have HB := zA hb; clear hb))
  repeat (go_quiet (fail); try go_wp2)
  go_ret2
  exact (show PostRt w (treeG ps ps.length) _ _ from (by rw [RR.out]; exact ⟨by first | rfl | (simp <;> rfl), by repeat (first | exact HB.out | apply zF | apply zG)⟩))
 | some tn =>
  obtain ⟨t, nx⟩ := tn
  have HR := zA hR
  by_cases hn : nx = ps.length
  ·have b1 : ((nx : Int) != (ps.length : Int)) = false := bne_eq_false_iff_eq.mpr (by omega)
   have b2 : ((nx : Int) == (ps.length : Int)) = true := beq_iff_eq.mpr (by omega)
   have b3 : (nx != ps.length) = false := bne_eq_false_iff_eq.mpr hn
   have b4 : (nx == ps.length) = true := beq_iff_eq.mpr hn
   have HN := zA hn
   obtain ⟨hok, hh⟩ := readF_ok ps _ _ _ _ hR
   have hcnt := readF_cnt ps _ _ _ _ hR
   have HOK := zA hok
   have HH := zA (show hT t ≤ 1000000000000000000 from by have := HG.out.1; omega)
   have HKV := zA (kv_len t hok)
   obtain ⟨K, hK⟩ : ∃ q, q = keysT t := ⟨_, rfl⟩
   obtain ⟨V, hV⟩ : ∃ q, q = valsT t := ⟨_, rfl⟩
   have HNK := zA (show K.length < 8796093022208 from by have := HG.out.1; rw [hK]; omega)
   have HNV := zA (show V.length = K.length from by rw [hK, hV]; exact HKV.out.symm)
   have HEK := zA hK
   have HEV := zA hV
   obtain ⟨d1, hd1⟩ : ∃ q, q = (dpI t).1 := ⟨_, rfl⟩
   obtain ⟨d2, hd2⟩ : ∃ q, q = (dpI t).2 := ⟨_, rfl⟩
   have HD1 := zA hd1
   have HD2 := zA hd2
   clear hn hR hok hh hcnt hK hV hd1 hd2
   cases d2 with
   | false =>
    have RR := zA (show treeG ps ps.length = none by
     unfold treeG; rw [HR.out]; refine if_neg (fun q => ?_)
     have := q.2
     unfold goodB at this
     have h2 := HD2.out
     unfold dpI at h2
     cases hl : levT t with
     | none => rw [hl, Bool.and_eq_true, Bool.and_eq_true] at this; exact absurd this.2.1 (by simp)
     | some d =>
      rw [hl] at h2
      dsimp only at h2
      rw [← h2, Bool.and_false, Bool.and_false] at this; cases this)
    go_enter Try.func27, Try.ntmps27
    go_wp2_with (first | ((with_reducible refine gate_dst (N := 1) rfl ?_); refine box_event ?hg (N := 1) ?hd (cs := #[.slice A ps.length c]) (t := 30) ?hr ?_; (case hd => rfl); (case hg => rfl); (case hr => first | (go_simp; done) | (go_simp; rfl)); intro gb1 hg w3 hbox hb; have n0_ := zA (zAD HB.out hb); have BK1 := zA hbox; have GW1 := zA (by rw [hg]; exact Nat.le_refl _ : w.heap.size ≤ gb1); clear HB; have HB := n0_; clear n0_ hb hbox hg; have hx1 : w3.cell? ⟨gb1, 0, none⟩ = some (.slice A ps.length c) := (zP BK1.out 0).trans rfl) | ((with_reducible refine gate_dst (N := 12) rfl ?_); refine box_event ?hg (N := 12) ?hd (cs := #[.slice A ps.length c, .int .i64 0]) (t := 101) ?hr ?_; (case hd => rfl); (case hg => rfl); (case hr => first | (go_simp; done) | (go_simp; rfl)); intro gg hg w4 hbox hb; have n0_ := zA (zAD HB.out hb); have n1_ := zA (blk_below BK1.out hb); have BKG := zA hbox; have GWG := zA (by rw [hg]; exact zAE HB.out : w.heap.size ≤ gg); have NB1G := zA (by rw [hg]; exact zK (blk_lt BK1.out) : gb1 ≠ gg); clear HB BK1; have HB := n0_; have BK1 := n1_; clear n0_ n1_ hb hbox hg hx1; have hI := nodeI ps HG.out A c HLC.out w HC.out gg GWG.out ps.length 0 w4 (Nat.zero_le _) (by omega) HB.out BKG.out; rw [HR.out] at hI) | ((with_reducible refine gate_callee (f := 61) rfl ?_); refine goesL_ (some 15) rfl rfl Try.func61 (by kernel_rfl) rfl #[.pointer (some ⟨gg, 0, none⟩)] rfl (by (try simp only [zAA, zAB, zAC]); first | done | rfl) ?_; refine hI.mono ?_; clear hI;  rintro e w5 ⟨x, rfl, hx, hM, hb, hkb, hkg⟩; refine ⟨_, rfl, ?_⟩; have n1_ := zA (hkb.blk BK1.out NB1G.out (by simp)); have HXE := zA hx; have HM := zA (k74p.M_mono (fun _ _ => trivial) hM : k74p.M w5 w.heap.size (fun _ => True) x [.pointer (some ⟨x.adr, 0, none⟩)]); clear HB BK1 BKG hx hM hkb; have HB := zA hb; have BKG := zA hkg; have BK1 := n1_; clear n1_ hb hkg; have hy1 : w5.cell? ⟨gb1, 0, none⟩ = some (.slice A ps.length c) := (zP BK1.out 0).trans rfl; have hy2 : w5.cell? ⟨gg, 1, none⟩ = some (.int .i64 (nx : Int)) := (zP BKG.out 1).trans rfl))
    go_quiet (fail)
    obtain ⟨k, hk⟩ := Ev.rounds (depthI x (by rw [HXE.out]; exact HH.out) (by rw [HXE.out]; exact HOK.out)); rw [HXE.out, show dpI t = (d1, false) from by rw [HD1.out, HD2.out]] at hk; have HD := zA hk; clear hk
    go_wp2_with (first | ((with_reducible refine gate_callee (f := 62) rfl ?_); (try (refine gate_guard (by rfl) ?_; dsimp only)); refine goesL_ (some 32) rfl rfl Try.func62 (by kernel_rfl) rfl #[.pointer (some ⟨x.adr, 0, none⟩)] rfl (by (try simp only [zAA, zAB, zAC]); first | done | rfl) ?_; refine (impl_node_depth.calls k x d1 false _ (by repeat (first | exact k74p.K_of_M HM.out | apply k74p_drewN | apply k74p_drew)) HD.out).mono ?_; rintro e w8 ⟨rfl, m8, hw⟩; rw [hw]; clear hw w8; refine ⟨_, rfl, ?_⟩))
    go_ret2
    exact (show PostRt w (treeG ps ps.length) _ _ from (by rw [RR.out]; exact ⟨by first | rfl | (simp <;> rfl), by repeat (first | exact HB.out | apply zF | apply zG)⟩))
   | true =>
    have hsome : ∃ d, levT t = some d ∧ (t.f2.isEmpty || decide (0 < t.f0.length)) = true := by
     have h2 := HD2.out
     unfold dpI at h2
     cases hl : levT t with
     | none => rw [hl] at h2; cases h2
     | some d => rw [hl] at h2; exact ⟨d, rfl, h2.symm⟩
    have HSO := zA hsome
    clear hsome
    obtain ⟨r, hr⟩ : ∃ q, q = pairsB K V := ⟨_, rfl⟩
    have HRB := zA hr
    clear hr
    cases r with
    | false =>
     have RR := zA (show treeG ps ps.length = none by
      unfold treeG; rw [HR.out]; refine if_neg (fun q => ?_)
      have := q.2
      unfold goodB at this
      rw [← HEK.out, ← HEV.out, ← HRB.out, Bool.false_and] at this; cases this)
     go_enter Try.func27, Try.ntmps27
     go_wp2_with (first | ((with_reducible refine gate_dst (N := 1) rfl ?_); refine box_event ?hg (N := 1) ?hd (cs := #[.slice A ps.length c]) (t := 30) ?hr ?_; (case hd => rfl); (case hg => rfl); (case hr => first | (go_simp; done) | (go_simp; rfl)); intro gb1 hg w3 hbox hb; have n0_ := zA (zAD HB.out hb); have BK1 := zA hbox; have GW1 := zA (by rw [hg]; exact Nat.le_refl _ : w.heap.size ≤ gb1); clear HB; have HB := n0_; clear n0_ hb hbox hg; have hx1 : w3.cell? ⟨gb1, 0, none⟩ = some (.slice A ps.length c) := (zP BK1.out 0).trans rfl) | ((with_reducible refine gate_dst (N := 12) rfl ?_); refine box_event ?hg (N := 12) ?hd (cs := #[.slice A ps.length c, .int .i64 0]) (t := 101) ?hr ?_; (case hd => rfl); (case hg => rfl); (case hr => first | (go_simp; done) | (go_simp; rfl)); intro gg hg w4 hbox hb; have n0_ := zA (zAD HB.out hb); have n1_ := zA (blk_below BK1.out hb); have BKG := zA hbox; have GWG := zA (by rw [hg]; exact zAE HB.out : w.heap.size ≤ gg); have NB1G := zA (by rw [hg]; exact zK (blk_lt BK1.out) : gb1 ≠ gg); clear HB BK1; have HB := n0_; have BK1 := n1_; clear n0_ n1_ hb hbox hg hx1; have hI := nodeI ps HG.out A c HLC.out w HC.out gg GWG.out ps.length 0 w4 (Nat.zero_le _) (by omega) HB.out BKG.out; rw [HR.out] at hI) | ((with_reducible refine gate_callee (f := 61) rfl ?_); refine goesL_ (some 15) rfl rfl Try.func61 (by kernel_rfl) rfl #[.pointer (some ⟨gg, 0, none⟩)] rfl (by (try simp only [zAA, zAB, zAC]); first | done | rfl) ?_; refine hI.mono ?_; clear hI;  rintro e w5 ⟨x, rfl, hx, hM, hb, hkb, hkg⟩; refine ⟨_, rfl, ?_⟩; have n1_ := zA (hkb.blk BK1.out NB1G.out (by simp)); have HXE := zA hx; have HM := zA (k74p.M_mono (fun _ _ => trivial) hM : k74p.M w5 w.heap.size (fun _ => True) x [.pointer (some ⟨x.adr, 0, none⟩)]); clear HB BK1 BKG hx hM hkb; have HB := zA hb; have BKG := zA hkg; have BK1 := n1_; clear n1_ hb hkg; have hy1 : w5.cell? ⟨gb1, 0, none⟩ = some (.slice A ps.length c) := (zP BK1.out 0).trans rfl; have hy2 : w5.cell? ⟨gg, 1, none⟩ = some (.int .i64 (nx : Int)) := (zP BKG.out 1).trans rfl))
     go_quiet (fail)
     obtain ⟨k, hk⟩ := Ev.rounds (depthI x (by rw [HXE.out]; exact HH.out) (by rw [HXE.out]; exact HOK.out)); rw [HXE.out, show dpI t = (d1, true) from by rw [HD1.out, HD2.out]] at hk; have HD := zA hk; clear hk
     obtain ⟨ka, hka⟩ := Ev.rounds (allI x (by rw [HXE.out]; exact HOK.out) [] [] (by rw [HXE.out, ← HEK.out]; have := HNK.out; simp only [List.length_nil]; omega) (by rw [HXE.out, ← HEV.out, HNV.out]; have := HNK.out; simp only [List.length_nil]; omega)); rw [HXE.out, ← HEK.out, ← HEV.out, List.nil_append, List.nil_append] at hka; have HALL := zA hka; clear hka; obtain ⟨kp, hkp⟩ := Ev.rounds (pairsE K V HNV.out); rw [← HRB.out] at hkp; have HPR := zA hkp; clear hkp
     go_wp2_with (first | ((with_reducible refine gate_callee (f := 62) rfl ?_); (try (refine gate_guard (by rfl) ?_; dsimp only)); refine goesL_ (some 32) rfl rfl Try.func62 (by kernel_rfl) rfl #[.pointer (some ⟨x.adr, 0, none⟩)] rfl (by (try simp only [zAA, zAB, zAC]); first | done | rfl) ?_; refine (impl_node_depth.calls k x d1 true _ (by repeat (first | exact k74p.K_of_M HM.out | apply k74p_drewN | apply k74p_drew)) HD.out).mono ?_; rintro e w8 ⟨rfl, m8, hw⟩; rw [hw]; clear hw w8; refine ⟨_, rfl, ?_⟩) | ((with_reducible refine gate_callee (f := 64) rfl ?_); (try (refine gate_guard (by rfl) ?_; dsimp only)); refine goesL_ (some 39) rfl rfl Try.func64 (by kernel_rfl) rfl #[.pointer (some ⟨x.adr, 0, none⟩), .slice none 0 0, .slice none 0 0] rfl (by (try simp only [zAA, zAB, zAC]); first | done | rfl) ?_; refine (impl_node_all.calls ka x (fun _ => False) (.slice none 0 0) [] (fun _ => False) (.slice none 0 0) [] K V _ _ (Below.refl _ _) (by repeat (first | exact k74p.K_of_M HM.out | apply k74p_drewN | apply k74p_drew)) (Kd.R_nil _ _ _ _ _) (fun _ h => h.elim) (Kd.R_nil _ _ _ _ _) (fun _ h => h.elim) HALL.out).mono ?_; rintro e w9 ⟨vK, vV, rfl, hRK, hRV, hb, hkp⟩; clear hkp; refine ⟨_, rfl, ?_⟩; obtain ⟨AK, cK, eo, hlK, hCK⟩ := Kd.R_reads hRK; subst eo; obtain ⟨AV, cV, eo, hlV, hCV⟩ := Kd.R_reads hRV; subst eo; have n0_ := zA (zAD (by repeat (first | exact HB.out | apply zF | apply zG)) hb : Below w.heap.size w w9); have n2_ := zA (k74p.M_below (by repeat (first | exact HM.out | refine k74p.M_below ?_ (below_drew1 (Below.refl _ _)) | refine k74p.M_below ?_ (pw_below_drewN (Below.refl _ _) _))) hb : k74p.M w9 w.heap.size (fun _ => True) x [.pointer (some ⟨x.adr, 0, none⟩)]); have HCK := zA hCK; have HCV := zA hCV; have HLK := zA hlK; have HLV := zA hlV; clear HB HM hb hRK hRV hCK hCV hlK hlV; have HB := n0_; have HM := n2_; clear n0_ n2_) | ((with_reducible refine gate_callee (f := 63) rfl ?_); (try (refine gate_guard (by rfl) ?_; dsimp only)); refine goesL_ (some 42) rfl rfl Try.func63 (by kernel_rfl) rfl #[.slice AK K.length cK, .slice AV V.length cV] rfl (by (try simp only [zAA, zAB, zAC]); first | done | rfl) ?_; refine (impl_arePairs.calls kp AK cK K AV cV V _ _ HCK.out HLK.out HCV.out HLV.out HPR.out).mono ?_; rintro e w8 ⟨rfl, m8, hw⟩; rw [hw]; clear hw w8; refine ⟨_, rfl, ?_⟩))
     go_ret2
     exact (show PostRt w (treeG ps ps.length) _ _ from (by rw [RR.out]; exact ⟨by first | rfl | (simp <;> rfl), by repeat (first | exact HB.out | apply zF | apply zG)⟩))
    | true =>
     have RR := zA (show treeG ps ps.length = some t by
      unfold treeG; rw [HR.out]; refine if_pos ⟨HN.out, ?_⟩
      obtain ⟨d, hd, hz⟩ := HSO.out
      unfold goodB
      rw [← HEK.out, ← HEV.out, ← HRB.out, hd, hz]; rfl)
     go_enter Try.func27, Try.ntmps27
     go_wp2_with (first | ((with_reducible refine gate_dst (N := 1) rfl ?_); refine box_event ?hg (N := 1) ?hd (cs := #[.slice A ps.length c]) (t := 30) ?hr ?_; (case hd => rfl); (case hg => rfl); (case hr => first | (go_simp; done) | (go_simp; rfl)); intro gb1 hg w3 hbox hb; have n0_ := zA (zAD HB.out hb); have BK1 := zA hbox; have GW1 := zA (by rw [hg]; exact Nat.le_refl _ : w.heap.size ≤ gb1); clear HB; have HB := n0_; clear n0_ hb hbox hg; have hx1 : w3.cell? ⟨gb1, 0, none⟩ = some (.slice A ps.length c) := (zP BK1.out 0).trans rfl) | ((with_reducible refine gate_dst (N := 12) rfl ?_); refine box_event ?hg (N := 12) ?hd (cs := #[.slice A ps.length c, .int .i64 0]) (t := 101) ?hr ?_; (case hd => rfl); (case hg => rfl); (case hr => first | (go_simp; done) | (go_simp; rfl)); intro gg hg w4 hbox hb; have n0_ := zA (zAD HB.out hb); have n1_ := zA (blk_below BK1.out hb); have BKG := zA hbox; have GWG := zA (by rw [hg]; exact zAE HB.out : w.heap.size ≤ gg); have NB1G := zA (by rw [hg]; exact zK (blk_lt BK1.out) : gb1 ≠ gg); clear HB BK1; have HB := n0_; have BK1 := n1_; clear n0_ n1_ hb hbox hg hx1; have hI := nodeI ps HG.out A c HLC.out w HC.out gg GWG.out ps.length 0 w4 (Nat.zero_le _) (by omega) HB.out BKG.out; rw [HR.out] at hI) | ((with_reducible refine gate_callee (f := 61) rfl ?_); refine goesL_ (some 15) rfl rfl Try.func61 (by kernel_rfl) rfl #[.pointer (some ⟨gg, 0, none⟩)] rfl (by (try simp only [zAA, zAB, zAC]); first | done | rfl) ?_; refine hI.mono ?_; clear hI;  rintro e w5 ⟨x, rfl, hx, hM, hb, hkb, hkg⟩; refine ⟨_, rfl, ?_⟩; have n1_ := zA (hkb.blk BK1.out NB1G.out (by simp)); have HXE := zA hx; have HM := zA (k74p.M_mono (fun _ _ => trivial) hM : k74p.M w5 w.heap.size (fun _ => True) x [.pointer (some ⟨x.adr, 0, none⟩)]); clear HB BK1 BKG hx hM hkb; have HB := zA hb; have BKG := zA hkg; have BK1 := n1_; clear n1_ hb hkg; have hy1 : w5.cell? ⟨gb1, 0, none⟩ = some (.slice A ps.length c) := (zP BK1.out 0).trans rfl; have hy2 : w5.cell? ⟨gg, 1, none⟩ = some (.int .i64 (nx : Int)) := (zP BKG.out 1).trans rfl))
     go_quiet (fail)
     obtain ⟨k, hk⟩ := Ev.rounds (depthI x (by rw [HXE.out]; exact HH.out) (by rw [HXE.out]; exact HOK.out)); rw [HXE.out, show dpI t = (d1, true) from by rw [HD1.out, HD2.out]] at hk; have HD := zA hk; clear hk
     obtain ⟨ka, hka⟩ := Ev.rounds (allI x (by rw [HXE.out]; exact HOK.out) [] [] (by rw [HXE.out, ← HEK.out]; have := HNK.out; simp only [List.length_nil]; omega) (by rw [HXE.out, ← HEV.out, HNV.out]; have := HNK.out; simp only [List.length_nil]; omega)); rw [HXE.out, ← HEK.out, ← HEV.out, List.nil_append, List.nil_append] at hka; have HALL := zA hka; clear hka; obtain ⟨kp, hkp⟩ := Ev.rounds (pairsE K V HNV.out); rw [← HRB.out] at hkp; have HPR := zA hkp; clear hkp
     go_wp2_with (first | ((with_reducible refine gate_callee (f := 62) rfl ?_); (try (refine gate_guard (by rfl) ?_; dsimp only)); refine goesL_ (some 32) rfl rfl Try.func62 (by kernel_rfl) rfl #[.pointer (some ⟨x.adr, 0, none⟩)] rfl (by (try simp only [zAA, zAB, zAC]); first | done | rfl) ?_; refine (impl_node_depth.calls k x d1 true _ (by repeat (first | exact k74p.K_of_M HM.out | apply k74p_drewN | apply k74p_drew)) HD.out).mono ?_; rintro e w8 ⟨rfl, m8, hw⟩; rw [hw]; clear hw w8; refine ⟨_, rfl, ?_⟩) | ((with_reducible refine gate_callee (f := 64) rfl ?_); (try (refine gate_guard (by rfl) ?_; dsimp only)); refine goesL_ (some 39) rfl rfl Try.func64 (by kernel_rfl) rfl #[.pointer (some ⟨x.adr, 0, none⟩), .slice none 0 0, .slice none 0 0] rfl (by (try simp only [zAA, zAB, zAC]); first | done | rfl) ?_; refine (impl_node_all.calls ka x (fun _ => False) (.slice none 0 0) [] (fun _ => False) (.slice none 0 0) [] K V _ _ (Below.refl _ _) (by repeat (first | exact k74p.K_of_M HM.out | apply k74p_drewN | apply k74p_drew)) (Kd.R_nil _ _ _ _ _) (fun _ h => h.elim) (Kd.R_nil _ _ _ _ _) (fun _ h => h.elim) HALL.out).mono ?_; rintro e w9 ⟨vK, vV, rfl, hRK, hRV, hb, hkp⟩; clear hkp; refine ⟨_, rfl, ?_⟩; obtain ⟨AK, cK, eo, hlK, hCK⟩ := Kd.R_reads hRK; subst eo; obtain ⟨AV, cV, eo, hlV, hCV⟩ := Kd.R_reads hRV; subst eo; have n0_ := zA (zAD (by repeat (first | exact HB.out | apply zF | apply zG)) hb : Below w.heap.size w w9); have n2_ := zA (k74p.M_below (by repeat (first | exact HM.out | refine k74p.M_below ?_ (below_drew1 (Below.refl _ _)) | refine k74p.M_below ?_ (pw_below_drewN (Below.refl _ _) _))) hb : k74p.M w9 w.heap.size (fun _ => True) x [.pointer (some ⟨x.adr, 0, none⟩)]); have HCK := zA hCK; have HCV := zA hCV; have HLK := zA hlK; have HLV := zA hlV; clear HB HM hb hRK hRV hCK hCV hlK hlV; have HB := n0_; have HM := n2_; clear n0_ n2_) | ((with_reducible refine gate_callee (f := 63) rfl ?_); (try (refine gate_guard (by rfl) ?_; dsimp only)); refine goesL_ (some 42) rfl rfl Try.func63 (by kernel_rfl) rfl #[.slice AK K.length cK, .slice AV V.length cV] rfl (by (try simp only [zAA, zAB, zAC]); first | done | rfl) ?_; refine (impl_arePairs.calls kp AK cK K AV cV V _ _ HCK.out HLK.out HCV.out HLV.out HPR.out).mono ?_; rintro e w8 ⟨rfl, m8, hw⟩; rw [hw]; clear hw w8; refine ⟨_, rfl, ?_⟩))
     go_ret2
     exact (show PostRt w (treeG ps ps.length) _ _ from (by rw [RR.out]; exact ⟨x, by first | rfl | (simp <;> rfl), HXE.out, (by repeat (first | exact HM.out | refine k74p.M_below ?_ (below_drew1 (Below.refl _ _)) | refine k74p.M_below ?_ (pw_below_drewN (Below.refl _ _) _))), by repeat (first | exact HB.out | apply zF | apply zG)⟩))
  ·have b1 : ((nx : Int) != (ps.length : Int)) = true := bne_iff_ne.mpr (by omega)
   have b2 : ((nx : Int) == (ps.length : Int)) = false := beq_eq_false_iff_ne.mpr (by omega)
   have b3 : (nx != ps.length) = true := bne_iff_ne.mpr hn
   have b4 : (nx == ps.length) = false := beq_eq_false_iff_ne.mpr hn
   have RR := zA (show treeG ps ps.length = none by unfold treeG; rw [hR]; exact if_neg (fun q => hn q.1))
   clear hR hn
   go_enter Try.func27, Try.ntmps27
   go_wp2_with (first | ((with_reducible refine gate_dst (N := 1) rfl ?_); refine box_event ?hg (N := 1) ?hd (cs := #[.slice A ps.length c]) (t := 30) ?hr ?_; (case hd => rfl); (case hg => rfl); (case hr => first | (go_simp; done) | (go_simp; rfl)); intro gb1 hg w3 hbox hb; have n0_ := zA (zAD HB.out hb); have BK1 := zA hbox; have GW1 := zA (by rw [hg]; exact Nat.le_refl _ : w.heap.size ≤ gb1); clear HB; have HB := n0_; clear n0_ hb hbox hg; have hx1 : w3.cell? ⟨gb1, 0, none⟩ = some (.slice A ps.length c) := (zP BK1.out 0).trans rfl) | ((with_reducible refine gate_dst (N := 12) rfl ?_); refine box_event ?hg (N := 12) ?hd (cs := #[.slice A ps.length c, .int .i64 0]) (t := 101) ?hr ?_; (case hd => rfl); (case hg => rfl); (case hr => first | (go_simp; done) | (go_simp; rfl)); intro gg hg w4 hbox hb; have n0_ := zA (zAD HB.out hb); have n1_ := zA (blk_below BK1.out hb); have BKG := zA hbox; have GWG := zA (by rw [hg]; exact zAE HB.out : w.heap.size ≤ gg); have NB1G := zA (by rw [hg]; exact zK (blk_lt BK1.out) : gb1 ≠ gg); clear HB BK1; have HB := n0_; have BK1 := n1_; clear n0_ n1_ hb hbox hg hx1; have hI := nodeI ps HG.out A c HLC.out w HC.out gg GWG.out ps.length 0 w4 (Nat.zero_le _) (by omega) HB.out BKG.out; rw [HR.out] at hI) | ((with_reducible refine gate_callee (f := 61) rfl ?_); refine goesL_ (some 15) rfl rfl Try.func61 (by kernel_rfl) rfl #[.pointer (some ⟨gg, 0, none⟩)] rfl (by (try simp only [zAA, zAB, zAC]); first | done | rfl) ?_; refine hI.mono ?_; clear hI;  rintro e w5 ⟨x, rfl, hx, hM, hb, hkb, hkg⟩; refine ⟨_, rfl, ?_⟩; have n1_ := zA (hkb.blk BK1.out NB1G.out (by simp)); have HXE := zA hx; have HM := zA (k74p.M_mono (fun _ _ => trivial) hM : k74p.M w5 w.heap.size (fun _ => True) x [.pointer (some ⟨x.adr, 0, none⟩)]); clear HB BK1 BKG hx hM hkb; have HB := zA hb; have BKG := zA hkg; have BK1 := n1_; clear n1_ hb hkg; have hy1 : w5.cell? ⟨gb1, 0, none⟩ = some (.slice A ps.length c) := (zP BK1.out 0).trans rfl; have hy2 : w5.cell? ⟨gg, 1, none⟩ = some (.int .i64 (nx : Int)) := (zP BKG.out 1).trans rfl))
   repeat (go_quiet (fail); try go_wp2)
   go_ret2
   exact (show PostRt w (treeG ps ps.length) _ _ from (by rw [RR.out]; exact ⟨by first | rfl | (simp <;> rfl), by repeat (first | exact HB.out | apply zF | apply zG)⟩))
end Go.Proofs.Ytnplghcbdaiogaa.PR
end
section
namespace Go.Proofs.Ytnplghcbdaiogaa.RJ
open Go.RowKit Go.Proofs.YtnplghcbdaiogaaW.PrintWords Go.Proofs.YtnplghcbdaiogaaW.PrintLast Go.Proofs.YtnplghcbdaiogaaW.PrintMore Go.Proofs.Ytnplghcbdaiogaa.PB Go.Proofs.Ytnplghcbdaiogaa.PW Go.Proofs.Ytnplghcbdaiogaa.QW Go.Proofs.Ytnplghcbdaiogaa.PA Go.Proofs.Ytnplghcbdaiogaa.QP Go.Proofs.Ytnplghcbdaiogaa.QO Go.Proofs.Ytnplghcbdaiogaa.QQ Go.Proofs.Ytnplghcbdaiogaa.QZ Go.Proofs.Ytnplghcbdaiogaa.RH Go.Proofs.Ytnplghcbdaiogaa.RF Go.Proofs.Ytnplghcbdaiogaa.PR
attribute [local go_sem] max2_int min2_int max_two min_two max_three min_three max_four min_four
set_option linter.unusedVariables false
set_option linter.unusedSimpArgs false
set_option maxHeartbeats 4000000
set_option maxRecDepth 100000
abbrev ow3 (v0 v1 v2 : Value) (k : Nat) : Prop := some k = v0.ownBlock ∨ some k = v1.ownBlock ∨ some k = v2.ownBlock
theorem S_away {α : Type} {d : Kd α} {e : Nat} {w w' : World} {base : Nat} {v : Value} {xs : List α} {v0 v1 v2 : Value} (h : Kd.S d e w base (fun _ => True) v xs) (hb : Below w.heap.size w w')
  (b0 : ∀ k, v0.ownBlock = some k → w.heap.size ≤ k) (b1 : ∀ k, v1.ownBlock = some k → w.heap.size ≤ k) (b2 : ∀ k, v2.ownBlock = some k → w.heap.size ≤ k) : Kd.S d e w' base (fun k => True ∧ ¬ ow3 v0 v1 v2 k) v xs :=
 Kd.S_mono (Kd.S_below (Kd.S_bound h) hb) (fun k hk => ⟨trivial, fun q => by
  have h1 := hk.2.2.1
  rcases q with q | q | q
  ·have := b0 k q.symm; omega
  ·have := b1 k q.symm; omega
  ·have := b2 k q.symm; omega⟩)
theorem page43 {w W : World} {base : Nat} {v0 v1 v2 : Value} {K V C : List ByteArray} {i : Int} (hB : Below w.heap.size w W)
  (h0 : Kd.string.R 9 w base (fun k => some k ≠ v1.ownBlock ∧ some k ≠ v2.ownBlock) v0 K) (h1 : Kd.string.R 9 w base (fun k => some k ≠ v0.ownBlock ∧ some k ≠ v2.ownBlock) v1 V) (h2 : Kd.string.R 9 w base (fun k => some k ≠ v0.ownBlock ∧ some k ≠ v1.ownBlock) v2 C) :
  a43.M W base (ow3 v0 v1 v2) ⟨K, V, C, i⟩ [v0, v1, v2, .int .i64 i] :=
 a43_mkM _ _ _ ⟨K, V, C, i⟩ (Kd.R_mono (Kd.R_tight rfl (Kd.R_below h0 hB)) (fun _ h => Or.inl h)) (Kd.R_mono (Kd.R_tight rfl (Kd.R_below h1 hB)) (fun _ h => Or.inr (Or.inl h))) (Kd.R_mono (Kd.R_tight rfl (Kd.R_below h2 hB)) (fun _ h => Or.inr (Or.inr h)))
  ⟨fun k hk => ⟨fun e => (h0.1 k hk).1 e.symm, fun e => (h0.1 k hk).2 e.symm⟩, fun k hk e => (h1.1 k hk).2 e.symm⟩
theorem ow_ne {w : World} {base : Nat} {ok0 ok1 ok2 : Nat → Prop} {v v0 v1 v2 : Value} {K V C : List ByteArray} (h0 : Kd.string.R 9 w base ok0 v0 K) (h1 : Kd.string.R 9 w base ok1 v1 V) (h2 : Kd.string.R 9 w base ok2 v2 C) (hv : ∀ k, v.ownBlock = some k → k < base) :
  ∀ k, ow3 v0 v1 v2 k → True ∧ some k ≠ v.ownBlock := fun k hk => ⟨trivial, fun e => by
   have := hv k e.symm
   rcases hk with q | q | q
   ·have := Kd.R_base h0 k q.symm; omega
   ·have := Kd.R_base h1 k q.symm; omega
   ·have := Kd.R_base h2 k q.symm; omega⟩
theorem proveKI (ps : List S97) (hG : Sml ps) (A : Option Addr) (c : Nat) (hc : ps.length ≤ c) (s : ByteArray) (w : World) (hC : Kd.C k97 w A ps.length ps) :
  Calls Try.prog 12 #[.agg #[.slice A ps.length c], .string s] w fun e w' => ∃ v, e = .returned (.tuple #[v, .bool (proveF ps s).2]) ∧ Kd.S a43 43 w' w.heap.size (fun _ => True) v (proveF ps s).1 ∧ Below w.heap.size w w' := by
 have HG := zA hG
 have HC := zA hC
 have HLC := zA hc
 have HB := zA (Below.refl w.heap.size w)
 have hu30 := Try.underlying30
 have hu43 := Try.underlying43
 have hu74 := Try.underlying74
 clear hG hC hc
 cases hR : treeG ps 10 with
 | none =>
  have HR := zA (show treeG ps ps.length = none by rw [treeG_len, hR])
  have RR := zA (show proveF ps s = ([], false) by unfold proveF; rw [hR])
  clear hR
  go_enter Try.func12, Try.ntmps12
  go_wp2_with (first | ((with_reducible refine gate_dst (N := 2) rfl ?_); refine box_event ?hg (N := 2) ?hd (cs := #[.slice A ps.length c]) (t := 30) ?hr ?_; (case hd => rfl); (case hg => rfl); (case hr => first | (go_simp; done) | (go_simp; rfl)); intro gb1 hg w3 hbox hb; have n0_ := zA (zAD HB.out hb); have BK1 := zA hbox; clear HB; have HB := n0_; clear n0_ hb hbox hg; have hx1 : w3.cell? ⟨gb1, 0, none⟩ = some (.slice A ps.length c) := (zP BK1.out 0).trans rfl; have hI := rootI0 ps HG.out A c HLC.out w3 (Kd.C_below HC.out HB.out); rw [HR.out] at hI) | ((with_reducible refine gate_callee (f := 27) rfl ?_); refine goesL_ (some 12) rfl rfl Try.func27 (by kernel_rfl) rfl #[.agg #[.slice A ps.length c]] rfl (by (try simp only [zAA, zAB, zAC]); first | done | rfl) ?_; refine hI.mono ?_; clear hI;  rintro e w4 ⟨rfl, hb⟩; refine ⟨_, rfl, ?_⟩; have n0_ := zA (zAD HB.out hb); clear HB BK1 hb hx1; have HB := n0_; clear n0_))
  go_ret2
  exact ⟨.slice none 0 0, by rw [RR.out]; first | rfl | (simp <;> rfl), by rw [RR.out]; exact Kd.S_nil _ _ _ _ _, HB.out⟩
 | some t =>
  have HR := zA (show treeG ps ps.length = some t by rw [treeG_len, hR])
  obtain ⟨hf, hh⟩ := fine_of hR
  obtain ⟨b, hb⟩ : ∃ q, q = isK s := ⟨_, rfl⟩
  have HPR := zA (show impl_isKey.f s = some b from by rw [keyI s, hb]; rfl)
  have HF := zA hf
  have HH := zA hh
  clear hf hh
  cases b with
  | false =>
   have RR := zA (show proveF ps s = ([], false) by unfold proveF; rw [hR, ← hb]; rfl)
   clear hR hb
   go_enter Try.func12, Try.ntmps12
   go_wp2_with (first | ((with_reducible refine gate_dst (N := 2) rfl ?_); refine box_event ?hg (N := 2) ?hd (cs := #[.slice A ps.length c]) (t := 30) ?hr ?_; (case hd => rfl); (case hg => rfl); (case hr => first | (go_simp; done) | (go_simp; rfl)); intro gb1 hg w3 hbox hb; have n0_ := zA (zAD HB.out hb); have BK1 := zA hbox; clear HB; have HB := n0_; clear n0_ hb hbox hg; have hx1 : w3.cell? ⟨gb1, 0, none⟩ = some (.slice A ps.length c) := (zP BK1.out 0).trans rfl; have hI := rootI0 ps HG.out A c HLC.out w3 (Kd.C_below HC.out HB.out); rw [HR.out] at hI) | ((with_reducible refine gate_callee (f := 27) rfl ?_); refine goesL_ (some 12) rfl rfl Try.func27 (by kernel_rfl) rfl #[.agg #[.slice A ps.length c]] rfl (by (try simp only [zAA, zAB, zAC]); first | done | rfl) ?_; refine hI.mono ?_; clear hI;  rintro e w4 ⟨x, rfl, hx, hM, hb⟩; refine ⟨_, rfl, ?_⟩; have n0_ := zA (zAD HB.out hb); have HXE := zA hx; have HM := zA (k74p.K_of_M hM); clear HB BK1 hb hx1 hx hM; have HB := n0_; clear n0_) | ((with_reducible refine gate_callee (f := 33) rfl ?_); (try (refine gate_guard (by rfl) ?_; dsimp only)); refine goesL_ (some 19) rfl rfl Try.func33 (by kernel_rfl) rfl #[.string s] rfl (by (try simp only [zAA, zAB, zAC]); first | done | rfl) ?_; refine (impl_isKey.calls s _ _ HPR.out).mono ?_; rintro e w5 ⟨rfl, m5, hw⟩; rw [hw]; clear hw w5; refine ⟨_, rfl, ?_⟩))
   repeat (go_quiet (fail); try go_wp2_with (first | ((with_reducible refine gate_dst (N := 2) rfl ?_); refine box_event ?hg (N := 2) ?hd (cs := #[.slice A ps.length c]) (t := 30) ?hr ?_; (case hd => rfl); (case hg => rfl); (case hr => first | (go_simp; done) | (go_simp; rfl)); intro gb1 hg w3 hbox hb; have n0_ := zA (zAD HB.out hb); have BK1 := zA hbox; clear HB; have HB := n0_; clear n0_ hb hbox hg; have hx1 : w3.cell? ⟨gb1, 0, none⟩ = some (.slice A ps.length c) := (zP BK1.out 0).trans rfl; have hI := rootI0 ps HG.out A c HLC.out w3 (Kd.C_below HC.out HB.out); rw [HR.out] at hI) | ((with_reducible refine gate_callee (f := 27) rfl ?_); refine goesL_ (some 12) rfl rfl Try.func27 (by kernel_rfl) rfl #[.agg #[.slice A ps.length c]] rfl (by (try simp only [zAA, zAB, zAC]); first | done | rfl) ?_; refine hI.mono ?_; clear hI;  rintro e w4 ⟨x, rfl, hx, hM, hb⟩; refine ⟨_, rfl, ?_⟩; have n0_ := zA (zAD HB.out hb); have HXE := zA hx; have HM := zA (k74p.K_of_M hM); clear HB BK1 hb hx1 hx hM; have HB := n0_; clear n0_) | ((with_reducible refine gate_callee (f := 33) rfl ?_); (try (refine gate_guard (by rfl) ?_; dsimp only)); refine goesL_ (some 19) rfl rfl Try.func33 (by kernel_rfl) rfl #[.string s] rfl (by (try simp only [zAA, zAB, zAC]); first | done | rfl) ?_; refine (impl_isKey.calls s _ _ HPR.out).mono ?_; rintro e w5 ⟨rfl, m5, hw⟩; rw [hw]; clear hw w5; refine ⟨_, rfl, ?_⟩)))
   go_ret2
   exact ⟨.slice none 0 0, by rw [RR.out]; first | rfl | (simp <;> rfl), by rw [RR.out]; exact Kd.S_nil _ _ _ _ _, by repeat (first | exact HB.out | apply zF | apply zG)⟩
  | true =>
   have RR := zA (show proveF ps s = (wayN s 10 t, true) by unfold proveF; rw [hR, ← hb]; rfl)
   clear hR hb
   go_enter Try.func12, Try.ntmps12
   go_wp2_with (first | ((with_reducible refine gate_dst (N := 2) rfl ?_); refine box_event ?hg (N := 2) ?hd (cs := #[.slice A ps.length c]) (t := 30) ?hr ?_; (case hd => rfl); (case hg => rfl); (case hr => first | (go_simp; done) | (go_simp; rfl)); intro gb1 hg w3 hbox hb; have n0_ := zA (zAD HB.out hb); have BK1 := zA hbox; clear HB; have HB := n0_; clear n0_ hb hbox hg; have hx1 : w3.cell? ⟨gb1, 0, none⟩ = some (.slice A ps.length c) := (zP BK1.out 0).trans rfl; have hI := rootI0 ps HG.out A c HLC.out w3 (Kd.C_below HC.out HB.out); rw [HR.out] at hI) | ((with_reducible refine gate_callee (f := 27) rfl ?_); refine goesL_ (some 12) rfl rfl Try.func27 (by kernel_rfl) rfl #[.agg #[.slice A ps.length c]] rfl (by (try simp only [zAA, zAB, zAC]); first | done | rfl) ?_; refine hI.mono ?_; clear hI;  rintro e w4 ⟨x, rfl, hx, hM, hb⟩; refine ⟨_, rfl, ?_⟩; have n0_ := zA (zAD HB.out hb); have HXE := zA hx; have HM := zA (k74p.K_of_M hM); clear HB BK1 hb hx1 hx hM; have HB := n0_; clear n0_) | ((with_reducible refine gate_callee (f := 33) rfl ?_); (try (refine gate_guard (by rfl) ?_; dsimp only)); refine goesL_ (some 19) rfl rfl Try.func33 (by kernel_rfl) rfl #[.string s] rfl (by (try simp only [zAA, zAB, zAC]); first | done | rfl) ?_; refine (impl_isKey.calls s _ _ HPR.out).mono ?_; rintro e w5 ⟨rfl, m5, hw⟩; rw [hw]; clear hw w5; refine ⟨_, rfl, ?_⟩))
   go_loopg [6, 8] 10 (fun kq v6 v8 w' => ∃ (y : S74) (xs : List S43), v6 = .pointer (some ⟨y.adr, 0, none⟩) ∧ Aside0 (k74p.K w4 y [.pointer (some ⟨y.adr, 0, none⟩)]) ∧ Aside0 (Fine (er74 y)) ∧ Aside0 (hT (er74 y) ≤ kq) ∧ Aside0 (wayN s 10 t = xs ++ wayN s kq (er74 y)) ∧ Aside0 (Kd.S a43 43 w' w4.heap.size (fun _ => True) v8 xs) ∧ Aside0 (Below w4.heap.size w4 w'))
   case atStart => exact ⟨x, [], rfl, HM, ⟨by rw [HXE.out]; exact HF.out⟩, ⟨by rw [HXE.out]; exact HH.out⟩, ⟨by rw [HXE.out]; rfl⟩, ⟨Kd.S_nil _ _ _ _ _⟩, ⟨pw_below_drewN (Below.refl _ _) _⟩⟩
   case round =>
    obtain ⟨y, xs, rfl, HK, HF, HH, HWAY, HO, H4⟩ := hrel
    clear HM HXE
    cases gk with
    | zero => exact absurd HH.out (by rw [hT_eq]; omega)
    | succ g1 =>
     obtain ⟨e0, e1, e2⟩ := er74_f y
     obtain ⟨o1, o2, o3, o4⟩ := (okT_eq _).1 HF.out.1
     obtain ⟨k2, hk2⟩ := Ev.rounds (shownI y HF.out.1 HF.out.2.1).1
     obtain ⟨k3, hk3⟩ := Ev.rounds (lessL y.f0 s (by rw [e0] at o1; exact o1) (by have := Rs_own HF.out.2.2; rw [e0] at this; exact this))
     obtain ⟨C, hC⟩ : ∃ q, q = y.f2.map (fun z => digT (er74 z)) := ⟨_, rfl⟩
     rw [← hC] at hk2
     obtain ⟨i, hi⟩ : ∃ q, q = (lowK s y.f0 : Int) := ⟨_, rfl⟩
     obtain ⟨b, hb⟩ : ∃ q, q = hasK s y.f0 := ⟨_, rfl⟩
     obtain ⟨l, hl⟩ : ∃ q, q = ((y.f2.length : Int) == 0) := ⟨_, rfl⟩
     have HA := zA (show impl_hasAt.f y.f0 i s = some b from by rw [hi, hb]; exact hasI y.f0 s)
     rw [← hi] at hk3
     have HSH := zA hk2
     have HLS := zA hk3
     have HL := zA (show impl_node_isLeaf.f y = some l from by rw [hl]; rfl)
     have HP := zA (show pageT s (er74 y) = ⟨y.f0, y.f1, C, i⟩ from by unfold pageT; rw [e0, e1, e2, List.map_map, hC, hi]; rfl)
     have HXL := zA (show xs.length ≤ 10 from by have h1 := way_len s 10 t; rw [HWAY.out, List.length_append] at h1; omega)
     obtain ⟨X, cx, eo⟩ := Kd.S_slice HO.out
     subst eo
     have HVL := zA (Kd.R_lt (Kd.S_R HO.out))
     clear hk2 hk3
     cases l with
     | true =>
      have HST := zA (way_stop (s := s) g1 (show stopT s (er74 y) = true from by unfold stopT; rw [e0, ← hb, e2, Bool.or_comm]; have := beq_iff_eq.1 hl.symm; rw [List.eq_nil_of_length_eq_zero (by omega : y.f2.length = 0)]; rfl))
      clear hC hi hb hl e0 e1 e2 o1 o2 o3 o4
      go_wp2_with (first | ((with_reducible refine gate_callee (f := 28) rfl ?_); (try (refine gate_guard (by rfl) ?_; dsimp only)); refine goesL_ (some 23) rfl rfl Try.func28 (by kernel_rfl) rfl #[.pointer (some ⟨y.adr, 0, none⟩)] rfl (by (try simp only [zAA, zAB, zAC]); first | done | rfl) ?_; refine (impl_node_shown.calls k2 y y.f0 y.f1 C 0 _ (k74p.K_below H4.out HK.out) HSH.out).mono ?_; rintro e w5 ⟨v0, v1, v2, rfl, r0, r1, r2, hb⟩; refine ⟨_, rfl, ?_⟩; obtain ⟨A0, c0, rfl⟩ := Kd.R_slice r0; obtain ⟨A1, c1, rfl⟩ := Kd.R_slice r1; obtain ⟨A2, c2, rfl⟩ := Kd.R_slice r2; have n1_ := zA (zAD H4.out hb); have n2_ := zA (S_away HO.out hb (Kd.R_base r0) (Kd.R_base r1) (Kd.R_base r2)); have H0 := zA r0; have H1 := zA r1; have H2 := zA r2; have HWR := zA (zAE H4.out); have HW5 := zA hb.size; clear H4 HO r0 r1 r2 hb; have H4 := n1_; have HO := n2_; clear n1_ n2_) | ((with_reducible refine gate_callee (f := 34) rfl ?_); (try (refine gate_guard (by rfl) ?_; dsimp only)); refine goesL_ (some 27) rfl rfl Try.func34 (by kernel_rfl) rfl #[.slice A0 y.f0.length c0, .string s] rfl (by (try simp only [zAA, zAB, zAC]); first | done | rfl) ?_; refine (impl_less.calls k3 A0 c0 y.f0 s i _ (Kd.C_alloc (Kd.R_reads' H0.out).2.2 _) (Kd.R_reads' H0.out).2.1 HLS.out).mono ?_; rintro e w6 ⟨rfl, m6, hw⟩; rw [hw]; clear hw w6; refine ⟨_, rfl, ?_⟩) | ((with_reducible refine gate_builtin (b := .append) (xs := #[.tmp 29, .tmp 31]) rfl ?_); at_builtin; have h7 : Below w5.heap.size w5 ((((w5.alloc (.cells #[.slice A0 y.f0.length c0, .slice A1 y.f1.length c1, .slice A2 C.length c2, .int .i64 0] 43)).drewN m6).setCell ⟨w5.heap.size, 3, none⟩ (.int .i64 i))) := below_set (pw_below_drewN (below_alloc (Below.refl _ _) (.cells #[.slice A0 y.f0.length c0, .slice A1 y.f1.length c1, .slice A2 C.length c2, .int .i64 0] 43)) m6) (Nat.le_refl _); have h47 := zAD H4.out h7; refine Kd.S_append a43 (w0 := w4) w4.heap.size rfl (.tmp 29) (.tmp 31) 34 43 (.agg #[(.slice none 0 0), (.slice none 0 0), (.slice none 0 0), (.int .i64 0)]) 80 rfl Try.underlying34 info43 rfl (by decide) (by omega) (.slice X xs.length cx) xs ⟨y.f0, y.f1, C, i⟩ [.slice A0 y.f0.length c0, .slice A1 y.f1.length c1, .slice A2 C.length c2, .int .i64 i] (fun _ => True) (ow3 (.slice A0 y.f0.length c0) (.slice A1 y.f1.length c1) (.slice A2 C.length c2)) rfl (by first | (go_simp; done) | (go_simp; rfl)) (page43 h7 (Kd.R_lower H0.out HWR.out) (Kd.R_lower H1.out HWR.out) (Kd.R_lower H2.out HWR.out)) (ow_ne H0.out H1.out H2.out HVL.out) (fun _ _ => trivial) (Kd.S_below HO.out h7) h47 (zAE h47) (by have := HXL.out; omega) ?_; intro v9 w9 ho hb hg hat; have BK9 := (hg.block w5.heap.size (Nat.lt_of_lt_of_le (by simp only [World.alloc, Array.size_push]; omega : w5.heap.size < (w5.alloc (.cells #[.slice A0 y.f0.length c0, .slice A1 y.f1.length c1, .slice A2 C.length c2, .int .i64 0] 43)).heap.size) (by simp [World.setCell, World.drewN])) (fun e_ => by have h1_ := HVL.out _ e_.symm; have h2_ := HW5.out; omega)).trans (blk_put (cs' := #[.slice A0 y.f0.length c0, .slice A1 y.f1.length c1, .slice A2 C.length c2, .int .i64 i]) (blk_drewN (blk_new w5 (.cells #[.slice A0 y.f0.length c0, .slice A1 y.f1.length c1, .slice A2 C.length c2, .int .i64 0] 43)) m6) 3 (.int .i64 i) rfl); have hx0 : w9.cell? ⟨w5.heap.size, 0, none⟩ = some (.slice A0 y.f0.length c0) := (blk_cell BK9 0).trans rfl; have hx1 : w9.cell? ⟨w5.heap.size, 1, none⟩ = some (.slice A1 y.f1.length c1) := (blk_cell BK9 1).trans rfl; have hx2 : w9.cell? ⟨w5.heap.size, 2, none⟩ = some (.slice A2 C.length c2) := (blk_cell BK9 2).trans rfl; have hx3 : w9.cell? ⟨w5.heap.size, 3, none⟩ = some (.int .i64 i) := (blk_cell BK9 3).trans rfl; have HC9 := zA (Kd.R_reads' (Kd.R_grown2 (Kd.R_below H0.out h7) rfl hg (fun k_ e_ f_ => by have h1_ := HVL.out k_ e_; have h2_ := Kd.R_base H0.out k_ f_.symm; omega))); have n0_ := zA ho; clear HO H4 h7 h47 hg hat ho BK9; have HO := n0_; have H4 := zA hb; clear n0_ hb) | ((with_reducible refine gate_callee (f := 35) rfl ?_); (try (refine gate_guard (by rfl) ?_; dsimp only)); refine goesL_ (some 34) rfl rfl Try.func35 (by kernel_rfl) rfl #[.pointer (some ⟨y.adr, 0, none⟩)] rfl (by (try simp only [zAA, zAB, zAC]); first | done | rfl) ?_; refine (impl_node_isLeaf.calls y _ _ (k74p.K_below H4.out HK.out) HL.out).mono ?_; rintro e w10 ⟨rfl, m10, hw⟩; rw [hw]; clear hw w10; refine ⟨_, rfl, ?_⟩) | ((with_reducible refine gate_callee (f := 36) rfl ?_); (try (refine gate_guard (by rfl) ?_; dsimp only)); refine goesL_ (some 41) rfl rfl Try.func36 (by kernel_rfl) rfl #[.slice A0 y.f0.length c0, .int .i64 i, .string s] rfl (by (try simp only [zAA, zAB, zAC]); first | done | rfl) ?_; refine (impl_hasAt.calls A0 c0 y.f0 i s _ _ (by repeat (first | exact HC9.out.2.2 | (with_reducible refine zU ?_ _))) HC9.out.2.1 HA.out).mono ?_; rintro e w11 ⟨rfl, m11, hw⟩; rw [hw]; clear hw w11; refine ⟨_, rfl, ?_⟩))
      repeat (go_quiet (fail); try go_wp2_with (first | ((with_reducible refine gate_callee (f := 28) rfl ?_); (try (refine gate_guard (by rfl) ?_; dsimp only)); refine goesL_ (some 23) rfl rfl Try.func28 (by kernel_rfl) rfl #[.pointer (some ⟨y.adr, 0, none⟩)] rfl (by (try simp only [zAA, zAB, zAC]); first | done | rfl) ?_; refine (impl_node_shown.calls k2 y y.f0 y.f1 C 0 _ (k74p.K_below H4.out HK.out) HSH.out).mono ?_; rintro e w5 ⟨v0, v1, v2, rfl, r0, r1, r2, hb⟩; refine ⟨_, rfl, ?_⟩; obtain ⟨A0, c0, rfl⟩ := Kd.R_slice r0; obtain ⟨A1, c1, rfl⟩ := Kd.R_slice r1; obtain ⟨A2, c2, rfl⟩ := Kd.R_slice r2; have n1_ := zA (zAD H4.out hb); have n2_ := zA (S_away HO.out hb (Kd.R_base r0) (Kd.R_base r1) (Kd.R_base r2)); have H0 := zA r0; have H1 := zA r1; have H2 := zA r2; have HWR := zA (zAE H4.out); have HW5 := zA hb.size; clear H4 HO r0 r1 r2 hb; have H4 := n1_; have HO := n2_; clear n1_ n2_) | ((with_reducible refine gate_callee (f := 34) rfl ?_); (try (refine gate_guard (by rfl) ?_; dsimp only)); refine goesL_ (some 27) rfl rfl Try.func34 (by kernel_rfl) rfl #[.slice A0 y.f0.length c0, .string s] rfl (by (try simp only [zAA, zAB, zAC]); first | done | rfl) ?_; refine (impl_less.calls k3 A0 c0 y.f0 s i _ (Kd.C_alloc (Kd.R_reads' H0.out).2.2 _) (Kd.R_reads' H0.out).2.1 HLS.out).mono ?_; rintro e w6 ⟨rfl, m6, hw⟩; rw [hw]; clear hw w6; refine ⟨_, rfl, ?_⟩) | ((with_reducible refine gate_builtin (b := .append) (xs := #[.tmp 29, .tmp 31]) rfl ?_); at_builtin; have h7 : Below w5.heap.size w5 ((((w5.alloc (.cells #[.slice A0 y.f0.length c0, .slice A1 y.f1.length c1, .slice A2 C.length c2, .int .i64 0] 43)).drewN m6).setCell ⟨w5.heap.size, 3, none⟩ (.int .i64 i))) := below_set (pw_below_drewN (below_alloc (Below.refl _ _) (.cells #[.slice A0 y.f0.length c0, .slice A1 y.f1.length c1, .slice A2 C.length c2, .int .i64 0] 43)) m6) (Nat.le_refl _); have h47 := zAD H4.out h7; refine Kd.S_append a43 (w0 := w4) w4.heap.size rfl (.tmp 29) (.tmp 31) 34 43 (.agg #[(.slice none 0 0), (.slice none 0 0), (.slice none 0 0), (.int .i64 0)]) 80 rfl Try.underlying34 info43 rfl (by decide) (by omega) (.slice X xs.length cx) xs ⟨y.f0, y.f1, C, i⟩ [.slice A0 y.f0.length c0, .slice A1 y.f1.length c1, .slice A2 C.length c2, .int .i64 i] (fun _ => True) (ow3 (.slice A0 y.f0.length c0) (.slice A1 y.f1.length c1) (.slice A2 C.length c2)) rfl (by first | (go_simp; done) | (go_simp; rfl)) (page43 h7 (Kd.R_lower H0.out HWR.out) (Kd.R_lower H1.out HWR.out) (Kd.R_lower H2.out HWR.out)) (ow_ne H0.out H1.out H2.out HVL.out) (fun _ _ => trivial) (Kd.S_below HO.out h7) h47 (zAE h47) (by have := HXL.out; omega) ?_; intro v9 w9 ho hb hg hat; have BK9 := (hg.block w5.heap.size (Nat.lt_of_lt_of_le (by simp only [World.alloc, Array.size_push]; omega : w5.heap.size < (w5.alloc (.cells #[.slice A0 y.f0.length c0, .slice A1 y.f1.length c1, .slice A2 C.length c2, .int .i64 0] 43)).heap.size) (by simp [World.setCell, World.drewN])) (fun e_ => by have h1_ := HVL.out _ e_.symm; have h2_ := HW5.out; omega)).trans (blk_put (cs' := #[.slice A0 y.f0.length c0, .slice A1 y.f1.length c1, .slice A2 C.length c2, .int .i64 i]) (blk_drewN (blk_new w5 (.cells #[.slice A0 y.f0.length c0, .slice A1 y.f1.length c1, .slice A2 C.length c2, .int .i64 0] 43)) m6) 3 (.int .i64 i) rfl); have hx0 : w9.cell? ⟨w5.heap.size, 0, none⟩ = some (.slice A0 y.f0.length c0) := (blk_cell BK9 0).trans rfl; have hx1 : w9.cell? ⟨w5.heap.size, 1, none⟩ = some (.slice A1 y.f1.length c1) := (blk_cell BK9 1).trans rfl; have hx2 : w9.cell? ⟨w5.heap.size, 2, none⟩ = some (.slice A2 C.length c2) := (blk_cell BK9 2).trans rfl; have hx3 : w9.cell? ⟨w5.heap.size, 3, none⟩ = some (.int .i64 i) := (blk_cell BK9 3).trans rfl; have HC9 := zA (Kd.R_reads' (Kd.R_grown2 (Kd.R_below H0.out h7) rfl hg (fun k_ e_ f_ => by have h1_ := HVL.out k_ e_; have h2_ := Kd.R_base H0.out k_ f_.symm; omega))); have n0_ := zA ho; clear HO H4 h7 h47 hg hat ho BK9; have HO := n0_; have H4 := zA hb; clear n0_ hb) | ((with_reducible refine gate_callee (f := 35) rfl ?_); (try (refine gate_guard (by rfl) ?_; dsimp only)); refine goesL_ (some 34) rfl rfl Try.func35 (by kernel_rfl) rfl #[.pointer (some ⟨y.adr, 0, none⟩)] rfl (by (try simp only [zAA, zAB, zAC]); first | done | rfl) ?_; refine (impl_node_isLeaf.calls y _ _ (k74p.K_below H4.out HK.out) HL.out).mono ?_; rintro e w10 ⟨rfl, m10, hw⟩; rw [hw]; clear hw w10; refine ⟨_, rfl, ?_⟩) | ((with_reducible refine gate_callee (f := 36) rfl ?_); (try (refine gate_guard (by rfl) ?_; dsimp only)); refine goesL_ (some 41) rfl rfl Try.func36 (by kernel_rfl) rfl #[.slice A0 y.f0.length c0, .int .i64 i, .string s] rfl (by (try simp only [zAA, zAB, zAC]); first | done | rfl) ?_; refine (impl_hasAt.calls A0 c0 y.f0 i s _ _ (by repeat (first | exact HC9.out.2.2 | (with_reducible refine zU ?_ _))) HC9.out.2.1 HA.out).mono ?_; rintro e w11 ⟨rfl, m11, hw⟩; rw [hw]; clear hw w11; refine ⟨_, rfl, ?_⟩)))
      go_ret2
      exact ⟨v9, by rw [RR.out]; first | rfl | (simp <;> rfl), by (rw [RR.out]; show Kd.S a43 43 _ w.heap.size (fun _ => True) v9 (wayN s 10 t); rw [HWAY.out, HST.out, HP.out]; repeat (first | exact Kd.S_lower HO.out (zAE HB.out) | apply Kd.S_drewN)), by repeat (first | exact zAD HB.out H4.out | apply zF | apply zG)⟩
     | false =>
      have hne : y.f2.length ≠ 0 := fun e => by rw [e] at hl; exact absurd hl (by decide)
      cases b with
      | true =>
       have HST := zA (way_stop (s := s) g1 (show stopT s (er74 y) = true from by unfold stopT; rw [e0, ← hb]; rfl))
       clear hC hi hb hl e0 e1 e2 o1 o2 o3 o4 hne
       go_wp2_with (first | ((with_reducible refine gate_callee (f := 28) rfl ?_); (try (refine gate_guard (by rfl) ?_; dsimp only)); refine goesL_ (some 23) rfl rfl Try.func28 (by kernel_rfl) rfl #[.pointer (some ⟨y.adr, 0, none⟩)] rfl (by (try simp only [zAA, zAB, zAC]); first | done | rfl) ?_; refine (impl_node_shown.calls k2 y y.f0 y.f1 C 0 _ (k74p.K_below H4.out HK.out) HSH.out).mono ?_; rintro e w5 ⟨v0, v1, v2, rfl, r0, r1, r2, hb⟩; refine ⟨_, rfl, ?_⟩; obtain ⟨A0, c0, rfl⟩ := Kd.R_slice r0; obtain ⟨A1, c1, rfl⟩ := Kd.R_slice r1; obtain ⟨A2, c2, rfl⟩ := Kd.R_slice r2; have n1_ := zA (zAD H4.out hb); have n2_ := zA (S_away HO.out hb (Kd.R_base r0) (Kd.R_base r1) (Kd.R_base r2)); have H0 := zA r0; have H1 := zA r1; have H2 := zA r2; have HWR := zA (zAE H4.out); have HW5 := zA hb.size; clear H4 HO r0 r1 r2 hb; have H4 := n1_; have HO := n2_; clear n1_ n2_) | ((with_reducible refine gate_callee (f := 34) rfl ?_); (try (refine gate_guard (by rfl) ?_; dsimp only)); refine goesL_ (some 27) rfl rfl Try.func34 (by kernel_rfl) rfl #[.slice A0 y.f0.length c0, .string s] rfl (by (try simp only [zAA, zAB, zAC]); first | done | rfl) ?_; refine (impl_less.calls k3 A0 c0 y.f0 s i _ (Kd.C_alloc (Kd.R_reads' H0.out).2.2 _) (Kd.R_reads' H0.out).2.1 HLS.out).mono ?_; rintro e w6 ⟨rfl, m6, hw⟩; rw [hw]; clear hw w6; refine ⟨_, rfl, ?_⟩) | ((with_reducible refine gate_builtin (b := .append) (xs := #[.tmp 29, .tmp 31]) rfl ?_); at_builtin; have h7 : Below w5.heap.size w5 ((((w5.alloc (.cells #[.slice A0 y.f0.length c0, .slice A1 y.f1.length c1, .slice A2 C.length c2, .int .i64 0] 43)).drewN m6).setCell ⟨w5.heap.size, 3, none⟩ (.int .i64 i))) := below_set (pw_below_drewN (below_alloc (Below.refl _ _) (.cells #[.slice A0 y.f0.length c0, .slice A1 y.f1.length c1, .slice A2 C.length c2, .int .i64 0] 43)) m6) (Nat.le_refl _); have h47 := zAD H4.out h7; refine Kd.S_append a43 (w0 := w4) w4.heap.size rfl (.tmp 29) (.tmp 31) 34 43 (.agg #[(.slice none 0 0), (.slice none 0 0), (.slice none 0 0), (.int .i64 0)]) 80 rfl Try.underlying34 info43 rfl (by decide) (by omega) (.slice X xs.length cx) xs ⟨y.f0, y.f1, C, i⟩ [.slice A0 y.f0.length c0, .slice A1 y.f1.length c1, .slice A2 C.length c2, .int .i64 i] (fun _ => True) (ow3 (.slice A0 y.f0.length c0) (.slice A1 y.f1.length c1) (.slice A2 C.length c2)) rfl (by first | (go_simp; done) | (go_simp; rfl)) (page43 h7 (Kd.R_lower H0.out HWR.out) (Kd.R_lower H1.out HWR.out) (Kd.R_lower H2.out HWR.out)) (ow_ne H0.out H1.out H2.out HVL.out) (fun _ _ => trivial) (Kd.S_below HO.out h7) h47 (zAE h47) (by have := HXL.out; omega) ?_; intro v9 w9 ho hb hg hat; have BK9 := (hg.block w5.heap.size (Nat.lt_of_lt_of_le (by simp only [World.alloc, Array.size_push]; omega : w5.heap.size < (w5.alloc (.cells #[.slice A0 y.f0.length c0, .slice A1 y.f1.length c1, .slice A2 C.length c2, .int .i64 0] 43)).heap.size) (by simp [World.setCell, World.drewN])) (fun e_ => by have h1_ := HVL.out _ e_.symm; have h2_ := HW5.out; omega)).trans (blk_put (cs' := #[.slice A0 y.f0.length c0, .slice A1 y.f1.length c1, .slice A2 C.length c2, .int .i64 i]) (blk_drewN (blk_new w5 (.cells #[.slice A0 y.f0.length c0, .slice A1 y.f1.length c1, .slice A2 C.length c2, .int .i64 0] 43)) m6) 3 (.int .i64 i) rfl); have hx0 : w9.cell? ⟨w5.heap.size, 0, none⟩ = some (.slice A0 y.f0.length c0) := (blk_cell BK9 0).trans rfl; have hx1 : w9.cell? ⟨w5.heap.size, 1, none⟩ = some (.slice A1 y.f1.length c1) := (blk_cell BK9 1).trans rfl; have hx2 : w9.cell? ⟨w5.heap.size, 2, none⟩ = some (.slice A2 C.length c2) := (blk_cell BK9 2).trans rfl; have hx3 : w9.cell? ⟨w5.heap.size, 3, none⟩ = some (.int .i64 i) := (blk_cell BK9 3).trans rfl; have HC9 := zA (Kd.R_reads' (Kd.R_grown2 (Kd.R_below H0.out h7) rfl hg (fun k_ e_ f_ => by have h1_ := HVL.out k_ e_; have h2_ := Kd.R_base H0.out k_ f_.symm; omega))); have n0_ := zA ho; clear HO H4 h7 h47 hg hat ho BK9; have HO := n0_; have H4 := zA hb; clear n0_ hb) | ((with_reducible refine gate_callee (f := 35) rfl ?_); (try (refine gate_guard (by rfl) ?_; dsimp only)); refine goesL_ (some 34) rfl rfl Try.func35 (by kernel_rfl) rfl #[.pointer (some ⟨y.adr, 0, none⟩)] rfl (by (try simp only [zAA, zAB, zAC]); first | done | rfl) ?_; refine (impl_node_isLeaf.calls y _ _ (k74p.K_below H4.out HK.out) HL.out).mono ?_; rintro e w10 ⟨rfl, m10, hw⟩; rw [hw]; clear hw w10; refine ⟨_, rfl, ?_⟩) | ((with_reducible refine gate_callee (f := 36) rfl ?_); (try (refine gate_guard (by rfl) ?_; dsimp only)); refine goesL_ (some 41) rfl rfl Try.func36 (by kernel_rfl) rfl #[.slice A0 y.f0.length c0, .int .i64 i, .string s] rfl (by (try simp only [zAA, zAB, zAC]); first | done | rfl) ?_; refine (impl_hasAt.calls A0 c0 y.f0 i s _ _ (by repeat (first | exact HC9.out.2.2 | (with_reducible refine zU ?_ _))) HC9.out.2.1 HA.out).mono ?_; rintro e w11 ⟨rfl, m11, hw⟩; rw [hw]; clear hw w11; refine ⟨_, rfl, ?_⟩))
       repeat (go_quiet (fail); try go_wp2_with (first | ((with_reducible refine gate_callee (f := 28) rfl ?_); (try (refine gate_guard (by rfl) ?_; dsimp only)); refine goesL_ (some 23) rfl rfl Try.func28 (by kernel_rfl) rfl #[.pointer (some ⟨y.adr, 0, none⟩)] rfl (by (try simp only [zAA, zAB, zAC]); first | done | rfl) ?_; refine (impl_node_shown.calls k2 y y.f0 y.f1 C 0 _ (k74p.K_below H4.out HK.out) HSH.out).mono ?_; rintro e w5 ⟨v0, v1, v2, rfl, r0, r1, r2, hb⟩; refine ⟨_, rfl, ?_⟩; obtain ⟨A0, c0, rfl⟩ := Kd.R_slice r0; obtain ⟨A1, c1, rfl⟩ := Kd.R_slice r1; obtain ⟨A2, c2, rfl⟩ := Kd.R_slice r2; have n1_ := zA (zAD H4.out hb); have n2_ := zA (S_away HO.out hb (Kd.R_base r0) (Kd.R_base r1) (Kd.R_base r2)); have H0 := zA r0; have H1 := zA r1; have H2 := zA r2; have HWR := zA (zAE H4.out); have HW5 := zA hb.size; clear H4 HO r0 r1 r2 hb; have H4 := n1_; have HO := n2_; clear n1_ n2_) | ((with_reducible refine gate_callee (f := 34) rfl ?_); (try (refine gate_guard (by rfl) ?_; dsimp only)); refine goesL_ (some 27) rfl rfl Try.func34 (by kernel_rfl) rfl #[.slice A0 y.f0.length c0, .string s] rfl (by (try simp only [zAA, zAB, zAC]); first | done | rfl) ?_; refine (impl_less.calls k3 A0 c0 y.f0 s i _ (Kd.C_alloc (Kd.R_reads' H0.out).2.2 _) (Kd.R_reads' H0.out).2.1 HLS.out).mono ?_; rintro e w6 ⟨rfl, m6, hw⟩; rw [hw]; clear hw w6; refine ⟨_, rfl, ?_⟩) | ((with_reducible refine gate_builtin (b := .append) (xs := #[.tmp 29, .tmp 31]) rfl ?_); at_builtin; have h7 : Below w5.heap.size w5 ((((w5.alloc (.cells #[.slice A0 y.f0.length c0, .slice A1 y.f1.length c1, .slice A2 C.length c2, .int .i64 0] 43)).drewN m6).setCell ⟨w5.heap.size, 3, none⟩ (.int .i64 i))) := below_set (pw_below_drewN (below_alloc (Below.refl _ _) (.cells #[.slice A0 y.f0.length c0, .slice A1 y.f1.length c1, .slice A2 C.length c2, .int .i64 0] 43)) m6) (Nat.le_refl _); have h47 := zAD H4.out h7; refine Kd.S_append a43 (w0 := w4) w4.heap.size rfl (.tmp 29) (.tmp 31) 34 43 (.agg #[(.slice none 0 0), (.slice none 0 0), (.slice none 0 0), (.int .i64 0)]) 80 rfl Try.underlying34 info43 rfl (by decide) (by omega) (.slice X xs.length cx) xs ⟨y.f0, y.f1, C, i⟩ [.slice A0 y.f0.length c0, .slice A1 y.f1.length c1, .slice A2 C.length c2, .int .i64 i] (fun _ => True) (ow3 (.slice A0 y.f0.length c0) (.slice A1 y.f1.length c1) (.slice A2 C.length c2)) rfl (by first | (go_simp; done) | (go_simp; rfl)) (page43 h7 (Kd.R_lower H0.out HWR.out) (Kd.R_lower H1.out HWR.out) (Kd.R_lower H2.out HWR.out)) (ow_ne H0.out H1.out H2.out HVL.out) (fun _ _ => trivial) (Kd.S_below HO.out h7) h47 (zAE h47) (by have := HXL.out; omega) ?_; intro v9 w9 ho hb hg hat; have BK9 := (hg.block w5.heap.size (Nat.lt_of_lt_of_le (by simp only [World.alloc, Array.size_push]; omega : w5.heap.size < (w5.alloc (.cells #[.slice A0 y.f0.length c0, .slice A1 y.f1.length c1, .slice A2 C.length c2, .int .i64 0] 43)).heap.size) (by simp [World.setCell, World.drewN])) (fun e_ => by have h1_ := HVL.out _ e_.symm; have h2_ := HW5.out; omega)).trans (blk_put (cs' := #[.slice A0 y.f0.length c0, .slice A1 y.f1.length c1, .slice A2 C.length c2, .int .i64 i]) (blk_drewN (blk_new w5 (.cells #[.slice A0 y.f0.length c0, .slice A1 y.f1.length c1, .slice A2 C.length c2, .int .i64 0] 43)) m6) 3 (.int .i64 i) rfl); have hx0 : w9.cell? ⟨w5.heap.size, 0, none⟩ = some (.slice A0 y.f0.length c0) := (blk_cell BK9 0).trans rfl; have hx1 : w9.cell? ⟨w5.heap.size, 1, none⟩ = some (.slice A1 y.f1.length c1) := (blk_cell BK9 1).trans rfl; have hx2 : w9.cell? ⟨w5.heap.size, 2, none⟩ = some (.slice A2 C.length c2) := (blk_cell BK9 2).trans rfl; have hx3 : w9.cell? ⟨w5.heap.size, 3, none⟩ = some (.int .i64 i) := (blk_cell BK9 3).trans rfl; have HC9 := zA (Kd.R_reads' (Kd.R_grown2 (Kd.R_below H0.out h7) rfl hg (fun k_ e_ f_ => by have h1_ := HVL.out k_ e_; have h2_ := Kd.R_base H0.out k_ f_.symm; omega))); have n0_ := zA ho; clear HO H4 h7 h47 hg hat ho BK9; have HO := n0_; have H4 := zA hb; clear n0_ hb) | ((with_reducible refine gate_callee (f := 35) rfl ?_); (try (refine gate_guard (by rfl) ?_; dsimp only)); refine goesL_ (some 34) rfl rfl Try.func35 (by kernel_rfl) rfl #[.pointer (some ⟨y.adr, 0, none⟩)] rfl (by (try simp only [zAA, zAB, zAC]); first | done | rfl) ?_; refine (impl_node_isLeaf.calls y _ _ (k74p.K_below H4.out HK.out) HL.out).mono ?_; rintro e w10 ⟨rfl, m10, hw⟩; rw [hw]; clear hw w10; refine ⟨_, rfl, ?_⟩) | ((with_reducible refine gate_callee (f := 36) rfl ?_); (try (refine gate_guard (by rfl) ?_; dsimp only)); refine goesL_ (some 41) rfl rfl Try.func36 (by kernel_rfl) rfl #[.slice A0 y.f0.length c0, .int .i64 i, .string s] rfl (by (try simp only [zAA, zAB, zAC]); first | done | rfl) ?_; refine (impl_hasAt.calls A0 c0 y.f0 i s _ _ (by repeat (first | exact HC9.out.2.2 | (with_reducible refine zU ?_ _))) HC9.out.2.1 HA.out).mono ?_; rintro e w11 ⟨rfl, m11, hw⟩; rw [hw]; clear hw w11; refine ⟨_, rfl, ?_⟩)))
       go_ret2
       exact ⟨v9, by rw [RR.out]; first | rfl | (simp <;> rfl), by (rw [RR.out]; show Kd.S a43 43 _ w.heap.size (fun _ => True) v9 (wayN s 10 t); rw [HWAY.out, HST.out, HP.out]; repeat (first | exact Kd.S_lower HO.out (zAE HB.out) | apply Kd.S_drewN)), by repeat (first | exact zAD HB.out H4.out | apply zF | apply zG)⟩
      | false =>
       obtain ⟨u, hu, hum, hway, hlt⟩ := way_kid (s := s) HF.out (show stopT s (er74 y) = false from by
        unfold stopT; rw [e0, ← hb, e2]; cases hx : y.f2 with
        | nil => rw [hx] at hne; exact absurd rfl hne
        | cons a l => rfl)
       have hle := low_le s y.f0
       have hlen : y.f2.length = y.f0.length + 1 := by rw [e0, e2, List.length_map] at o3; omega
       have p1 : (0 ≤ i) := by omega
       have p2 : i < (y.f2.length : Int) := by omega
       have hkid : er74 (rd_N74 y.f2 i) = u := by
        rw [e0, e2, List.getElem?_map] at hu
        rw [hi, rdI_at y.f2 (lowK s y.f0) (by omega)]
        rw [List.getElem?_eq_getElem (by omega)] at hu
        exact Option.some.inj hu
       obtain ⟨z, hz⟩ : ∃ q, q = rd_N74 y.f2 i := ⟨_, rfl⟩
       rw [← hz] at hkid
       have HZ := zA hz
       have HKF := zA (show Fine (er74 z) from by rw [hkid]; exact Fine_kid HF.out hum)
       have HKH := zA (show hT (er74 z) ≤ g1 from by rw [hkid]; have := HH.out; omega)
       have HW2 := zA (show wayN s 10 t = (xs ++ [⟨y.f0, y.f1, C, i⟩]) ++ wayN s g1 (er74 z) from by rw [HWAY.out, hway g1, hkid, HP.out, List.append_assoc]; rfl)
       have HP1 := zA p1
       have HP2 := zA p2
       have q1 : (0 ≤ i) = True := eq_true p1
       have q2 : decide (0 ≤ i) = true := decide_eq_true p1
       have q3 : (i < (y.f2.length : Int)) = True := eq_true p2
       have q4 : decide (i < (y.f2.length : Int)) = true := decide_eq_true p2
       clear hC hi hb hl hne hu hum hway hlt hle hlen p1 p2 hkid hz o1 o2 o3 o4 e0 e1 e2
       go_wp2_with (first | ((with_reducible refine gate_callee (f := 28) rfl ?_); (try (refine gate_guard (by rfl) ?_; dsimp only)); refine goesL_ (some 23) rfl rfl Try.func28 (by kernel_rfl) rfl #[.pointer (some ⟨y.adr, 0, none⟩)] rfl (by (try simp only [zAA, zAB, zAC]); first | done | rfl) ?_; refine (impl_node_shown.calls k2 y y.f0 y.f1 C 0 _ (k74p.K_below H4.out HK.out) HSH.out).mono ?_; rintro e w5 ⟨v0, v1, v2, rfl, r0, r1, r2, hb⟩; refine ⟨_, rfl, ?_⟩; obtain ⟨A0, c0, rfl⟩ := Kd.R_slice r0; obtain ⟨A1, c1, rfl⟩ := Kd.R_slice r1; obtain ⟨A2, c2, rfl⟩ := Kd.R_slice r2; have n1_ := zA (zAD H4.out hb); have n2_ := zA (S_away HO.out hb (Kd.R_base r0) (Kd.R_base r1) (Kd.R_base r2)); have H0 := zA r0; have H1 := zA r1; have H2 := zA r2; have HWR := zA (zAE H4.out); have HW5 := zA hb.size; clear H4 HO r0 r1 r2 hb; have H4 := n1_; have HO := n2_; clear n1_ n2_) | ((with_reducible refine gate_callee (f := 34) rfl ?_); (try (refine gate_guard (by rfl) ?_; dsimp only)); refine goesL_ (some 27) rfl rfl Try.func34 (by kernel_rfl) rfl #[.slice A0 y.f0.length c0, .string s] rfl (by (try simp only [zAA, zAB, zAC]); first | done | rfl) ?_; refine (impl_less.calls k3 A0 c0 y.f0 s i _ (Kd.C_alloc (Kd.R_reads' H0.out).2.2 _) (Kd.R_reads' H0.out).2.1 HLS.out).mono ?_; rintro e w6 ⟨rfl, m6, hw⟩; rw [hw]; clear hw w6; refine ⟨_, rfl, ?_⟩) | ((with_reducible refine gate_builtin (b := .append) (xs := #[.tmp 29, .tmp 31]) rfl ?_); at_builtin; have h7 : Below w5.heap.size w5 ((((w5.alloc (.cells #[.slice A0 y.f0.length c0, .slice A1 y.f1.length c1, .slice A2 C.length c2, .int .i64 0] 43)).drewN m6).setCell ⟨w5.heap.size, 3, none⟩ (.int .i64 i))) := below_set (pw_below_drewN (below_alloc (Below.refl _ _) (.cells #[.slice A0 y.f0.length c0, .slice A1 y.f1.length c1, .slice A2 C.length c2, .int .i64 0] 43)) m6) (Nat.le_refl _); have h47 := zAD H4.out h7; refine Kd.S_append a43 (w0 := w4) w4.heap.size rfl (.tmp 29) (.tmp 31) 34 43 (.agg #[(.slice none 0 0), (.slice none 0 0), (.slice none 0 0), (.int .i64 0)]) 80 rfl Try.underlying34 info43 rfl (by decide) (by omega) (.slice X xs.length cx) xs ⟨y.f0, y.f1, C, i⟩ [.slice A0 y.f0.length c0, .slice A1 y.f1.length c1, .slice A2 C.length c2, .int .i64 i] (fun _ => True) (ow3 (.slice A0 y.f0.length c0) (.slice A1 y.f1.length c1) (.slice A2 C.length c2)) rfl (by first | (go_simp; done) | (go_simp; rfl)) (page43 h7 (Kd.R_lower H0.out HWR.out) (Kd.R_lower H1.out HWR.out) (Kd.R_lower H2.out HWR.out)) (ow_ne H0.out H1.out H2.out HVL.out) (fun _ _ => trivial) (Kd.S_below HO.out h7) h47 (zAE h47) (by have := HXL.out; omega) ?_; intro v9 w9 ho hb hg hat; have BK9 := (hg.block w5.heap.size (Nat.lt_of_lt_of_le (by simp only [World.alloc, Array.size_push]; omega : w5.heap.size < (w5.alloc (.cells #[.slice A0 y.f0.length c0, .slice A1 y.f1.length c1, .slice A2 C.length c2, .int .i64 0] 43)).heap.size) (by simp [World.setCell, World.drewN])) (fun e_ => by have h1_ := HVL.out _ e_.symm; have h2_ := HW5.out; omega)).trans (blk_put (cs' := #[.slice A0 y.f0.length c0, .slice A1 y.f1.length c1, .slice A2 C.length c2, .int .i64 i]) (blk_drewN (blk_new w5 (.cells #[.slice A0 y.f0.length c0, .slice A1 y.f1.length c1, .slice A2 C.length c2, .int .i64 0] 43)) m6) 3 (.int .i64 i) rfl); have hx0 : w9.cell? ⟨w5.heap.size, 0, none⟩ = some (.slice A0 y.f0.length c0) := (blk_cell BK9 0).trans rfl; have hx1 : w9.cell? ⟨w5.heap.size, 1, none⟩ = some (.slice A1 y.f1.length c1) := (blk_cell BK9 1).trans rfl; have hx2 : w9.cell? ⟨w5.heap.size, 2, none⟩ = some (.slice A2 C.length c2) := (blk_cell BK9 2).trans rfl; have hx3 : w9.cell? ⟨w5.heap.size, 3, none⟩ = some (.int .i64 i) := (blk_cell BK9 3).trans rfl; have HC9 := zA (Kd.R_reads' (Kd.R_grown2 (Kd.R_below H0.out h7) rfl hg (fun k_ e_ f_ => by have h1_ := HVL.out k_ e_; have h2_ := Kd.R_base H0.out k_ f_.symm; omega))); have n0_ := zA ho; clear HO H4 h7 h47 hg hat ho BK9; have HO := n0_; have H4 := zA hb; clear n0_ hb; have HKW := k74p.K_below H4.out HK.out; obtain ⟨An0, cn0, An1, cn1, An2, cn2, hy0, hy1, hy2, _, _, _, _, _, hin2⟩ := at_P74 HKW; obtain ⟨ad, ead, hy3⟩ := at_N74 hin2 i HP1.out HP2.out; obtain ⟨An3, cn3, An4, cn4, An5, cn5, hy5, hy6, hy7, _, _, _, _, _, hin5⟩ := at_P74 HK.out; have HKK := zA (nd_el74 hin5 i HP1.out HP2.out); rw [← HZ.out] at hy3 HKK; subst ead; clear hin2 hin5 hy5 hy6 hy7 HKW) | ((with_reducible refine gate_callee (f := 35) rfl ?_); (try (refine gate_guard (by rfl) ?_; dsimp only)); refine goesL_ (some 34) rfl rfl Try.func35 (by kernel_rfl) rfl #[.pointer (some ⟨y.adr, 0, none⟩)] rfl (by (try simp only [zAA, zAB, zAC]); first | done | rfl) ?_; refine (impl_node_isLeaf.calls y _ _ (k74p.K_below H4.out HK.out) HL.out).mono ?_; rintro e w10 ⟨rfl, m10, hw⟩; rw [hw]; clear hw w10; refine ⟨_, rfl, ?_⟩) | ((with_reducible refine gate_callee (f := 36) rfl ?_); (try (refine gate_guard (by rfl) ?_; dsimp only)); refine goesL_ (some 41) rfl rfl Try.func36 (by kernel_rfl) rfl #[.slice A0 y.f0.length c0, .int .i64 i, .string s] rfl (by (try simp only [zAA, zAB, zAC]); first | done | rfl) ?_; refine (impl_hasAt.calls A0 c0 y.f0 i s _ _ (by repeat (first | exact HC9.out.2.2 | (with_reducible refine zU ?_ _))) HC9.out.2.1 HA.out).mono ?_; rintro e w11 ⟨rfl, m11, hw⟩; rw [hw]; clear hw w11; refine ⟨_, rfl, ?_⟩))
       repeat (go_quiet (fail); try go_wp2_with (first | ((with_reducible refine gate_callee (f := 28) rfl ?_); (try (refine gate_guard (by rfl) ?_; dsimp only)); refine goesL_ (some 23) rfl rfl Try.func28 (by kernel_rfl) rfl #[.pointer (some ⟨y.adr, 0, none⟩)] rfl (by (try simp only [zAA, zAB, zAC]); first | done | rfl) ?_; refine (impl_node_shown.calls k2 y y.f0 y.f1 C 0 _ (k74p.K_below H4.out HK.out) HSH.out).mono ?_; rintro e w5 ⟨v0, v1, v2, rfl, r0, r1, r2, hb⟩; refine ⟨_, rfl, ?_⟩; obtain ⟨A0, c0, rfl⟩ := Kd.R_slice r0; obtain ⟨A1, c1, rfl⟩ := Kd.R_slice r1; obtain ⟨A2, c2, rfl⟩ := Kd.R_slice r2; have n1_ := zA (zAD H4.out hb); have n2_ := zA (S_away HO.out hb (Kd.R_base r0) (Kd.R_base r1) (Kd.R_base r2)); have H0 := zA r0; have H1 := zA r1; have H2 := zA r2; have HWR := zA (zAE H4.out); have HW5 := zA hb.size; clear H4 HO r0 r1 r2 hb; have H4 := n1_; have HO := n2_; clear n1_ n2_) | ((with_reducible refine gate_callee (f := 34) rfl ?_); (try (refine gate_guard (by rfl) ?_; dsimp only)); refine goesL_ (some 27) rfl rfl Try.func34 (by kernel_rfl) rfl #[.slice A0 y.f0.length c0, .string s] rfl (by (try simp only [zAA, zAB, zAC]); first | done | rfl) ?_; refine (impl_less.calls k3 A0 c0 y.f0 s i _ (Kd.C_alloc (Kd.R_reads' H0.out).2.2 _) (Kd.R_reads' H0.out).2.1 HLS.out).mono ?_; rintro e w6 ⟨rfl, m6, hw⟩; rw [hw]; clear hw w6; refine ⟨_, rfl, ?_⟩) | ((with_reducible refine gate_builtin (b := .append) (xs := #[.tmp 29, .tmp 31]) rfl ?_); at_builtin; have h7 : Below w5.heap.size w5 ((((w5.alloc (.cells #[.slice A0 y.f0.length c0, .slice A1 y.f1.length c1, .slice A2 C.length c2, .int .i64 0] 43)).drewN m6).setCell ⟨w5.heap.size, 3, none⟩ (.int .i64 i))) := below_set (pw_below_drewN (below_alloc (Below.refl _ _) (.cells #[.slice A0 y.f0.length c0, .slice A1 y.f1.length c1, .slice A2 C.length c2, .int .i64 0] 43)) m6) (Nat.le_refl _); have h47 := zAD H4.out h7; refine Kd.S_append a43 (w0 := w4) w4.heap.size rfl (.tmp 29) (.tmp 31) 34 43 (.agg #[(.slice none 0 0), (.slice none 0 0), (.slice none 0 0), (.int .i64 0)]) 80 rfl Try.underlying34 info43 rfl (by decide) (by omega) (.slice X xs.length cx) xs ⟨y.f0, y.f1, C, i⟩ [.slice A0 y.f0.length c0, .slice A1 y.f1.length c1, .slice A2 C.length c2, .int .i64 i] (fun _ => True) (ow3 (.slice A0 y.f0.length c0) (.slice A1 y.f1.length c1) (.slice A2 C.length c2)) rfl (by first | (go_simp; done) | (go_simp; rfl)) (page43 h7 (Kd.R_lower H0.out HWR.out) (Kd.R_lower H1.out HWR.out) (Kd.R_lower H2.out HWR.out)) (ow_ne H0.out H1.out H2.out HVL.out) (fun _ _ => trivial) (Kd.S_below HO.out h7) h47 (zAE h47) (by have := HXL.out; omega) ?_; intro v9 w9 ho hb hg hat; have BK9 := (hg.block w5.heap.size (Nat.lt_of_lt_of_le (by simp only [World.alloc, Array.size_push]; omega : w5.heap.size < (w5.alloc (.cells #[.slice A0 y.f0.length c0, .slice A1 y.f1.length c1, .slice A2 C.length c2, .int .i64 0] 43)).heap.size) (by simp [World.setCell, World.drewN])) (fun e_ => by have h1_ := HVL.out _ e_.symm; have h2_ := HW5.out; omega)).trans (blk_put (cs' := #[.slice A0 y.f0.length c0, .slice A1 y.f1.length c1, .slice A2 C.length c2, .int .i64 i]) (blk_drewN (blk_new w5 (.cells #[.slice A0 y.f0.length c0, .slice A1 y.f1.length c1, .slice A2 C.length c2, .int .i64 0] 43)) m6) 3 (.int .i64 i) rfl); have hx0 : w9.cell? ⟨w5.heap.size, 0, none⟩ = some (.slice A0 y.f0.length c0) := (blk_cell BK9 0).trans rfl; have hx1 : w9.cell? ⟨w5.heap.size, 1, none⟩ = some (.slice A1 y.f1.length c1) := (blk_cell BK9 1).trans rfl; have hx2 : w9.cell? ⟨w5.heap.size, 2, none⟩ = some (.slice A2 C.length c2) := (blk_cell BK9 2).trans rfl; have hx3 : w9.cell? ⟨w5.heap.size, 3, none⟩ = some (.int .i64 i) := (blk_cell BK9 3).trans rfl; have HC9 := zA (Kd.R_reads' (Kd.R_grown2 (Kd.R_below H0.out h7) rfl hg (fun k_ e_ f_ => by have h1_ := HVL.out k_ e_; have h2_ := Kd.R_base H0.out k_ f_.symm; omega))); have n0_ := zA ho; clear HO H4 h7 h47 hg hat ho BK9; have HO := n0_; have H4 := zA hb; clear n0_ hb; have HKW := k74p.K_below H4.out HK.out; obtain ⟨An0, cn0, An1, cn1, An2, cn2, hy0, hy1, hy2, _, _, _, _, _, hin2⟩ := at_P74 HKW; obtain ⟨ad, ead, hy3⟩ := at_N74 hin2 i HP1.out HP2.out; obtain ⟨An3, cn3, An4, cn4, An5, cn5, hy5, hy6, hy7, _, _, _, _, _, hin5⟩ := at_P74 HK.out; have HKK := zA (nd_el74 hin5 i HP1.out HP2.out); rw [← HZ.out] at hy3 HKK; subst ead; clear hin2 hin5 hy5 hy6 hy7 HKW) | ((with_reducible refine gate_callee (f := 35) rfl ?_); (try (refine gate_guard (by rfl) ?_; dsimp only)); refine goesL_ (some 34) rfl rfl Try.func35 (by kernel_rfl) rfl #[.pointer (some ⟨y.adr, 0, none⟩)] rfl (by (try simp only [zAA, zAB, zAC]); first | done | rfl) ?_; refine (impl_node_isLeaf.calls y _ _ (k74p.K_below H4.out HK.out) HL.out).mono ?_; rintro e w10 ⟨rfl, m10, hw⟩; rw [hw]; clear hw w10; refine ⟨_, rfl, ?_⟩) | ((with_reducible refine gate_callee (f := 36) rfl ?_); (try (refine gate_guard (by rfl) ?_; dsimp only)); refine goesL_ (some 41) rfl rfl Try.func36 (by kernel_rfl) rfl #[.slice A0 y.f0.length c0, .int .i64 i, .string s] rfl (by (try simp only [zAA, zAB, zAC]); first | done | rfl) ?_; refine (impl_hasAt.calls A0 c0 y.f0 i s _ _ (by repeat (first | exact HC9.out.2.2 | (with_reducible refine zU ?_ _))) HC9.out.2.1 HA.out).mono ?_; rintro e w11 ⟨rfl, m11, hw⟩; rw [hw]; clear hw w11; refine ⟨_, rfl, ?_⟩)))
       go_roundg g1
       case measure => omega
       case rel => exact ⟨z, _, rfl, HKK, HKF, HKH, HW2, ⟨by repeat (first | exact HO.out | apply Kd.S_drewN)⟩, ⟨by repeat (first | exact H4.out | apply zF | apply zG)⟩⟩
end Go.Proofs.Ytnplghcbdaiogaa.RJ
end
section
namespace Go.Proofs.Ytnplghcbdaiogaa.RK
open Go.RowKit Go.Proofs.YtnplghcbdaiogaaW.PrintWords Go.Proofs.YtnplghcbdaiogaaW.PrintLast Go.Proofs.YtnplghcbdaiogaaW.PrintMore Go.Proofs.Ytnplghcbdaiogaa.PA Go.Proofs.Ytnplghcbdaiogaa.QW Go.Proofs.Ytnplghcbdaiogaa.QZ Go.Proofs.Ytnplghcbdaiogaa.RF Go.Proofs.Ytnplghcbdaiogaa.RH
attribute [local go_sem] max2_int min2_int max_two min_two max_three min_three max_four min_four
set_option linter.unusedVariables false
set_option linter.unusedSimpArgs false
set_option maxHeartbeats 4000000
set_option maxRecDepth 100000
def lawF (k : Nat) (l0 : List S87) (s : ByteArray) : Option Bool :=
 if (1048576 : Int) < (s.size : Int) then some true else
 (laws_szTree.f k l0 1048576).bind fun n1 => if n1 < 0 then some true else
 (laws_toTree.f k l0).bind fun ps => (RG.markPF k ps 1).bind fun m1 => (RG.markF k (proveF ps s).1 1).bind fun m2 => (laws_heldShownS.f k m2.2 1).bind fun q =>
 if smlB ps = true ∧ laws_eqShownS.f k (proveF ps s).1 (proveF ps s).1 = some true ∧ laws_eqTree.f k ps ps = some true ∧ 0 ≤ m1.1 ∧ 0 ≤ q ∧ q = m2.1 then some true else none
theorem held_n (k : Nat) (A0 : Option Addr) (c0 : Nat) (l0 : List S43) (a1 : Int) (r : Int) (n : Nat) (w : World) (hn : n = l0.length) (hr0 : Kd.C k43 w A0 l0.length l0) (hc0 : n ≤ c0) (h : laws_heldShownS.f k l0 a1 = some r) :
  Calls Try.prog 16 #[.slice A0 n c0, .int .i64 a1] w fun e w' => e = .returned (.int .i64 r) ∧ Below w.heap.size w w' := by
 subst hn; exact laws_heldShownS.calls k A0 c0 l0 a1 r w hr0 hc0 h
theorem lawC (k : Nat) (A0 : Option Addr) (c0 : Nat) (l0 : List S87) (s : ByteArray) (r : Bool) (w : World) (hr0 : Kd.C k87 w A0 l0.length l0) (hc0 : l0.length ≤ c0) (h : lawF k l0 s = some r) (hr_ : Aside0 (r = true)) :
  Calls Try.prog 4 #[.agg #[.slice A0 l0.length c0], .string s] w fun e w' => e = .returned (.bool r) ∧ Below w.heap.size w w' := by
 obtain rfl := hr_.out
 clear hr_
 have hu24 := Try.underlying24
 have hu30 := Try.underlying30
 have HR0 := zA hr0
 have HC0 := zA hc0
 have HB := zA (Below.refl w.heap.size w)
 clear hr0 hc0
 rw [lawF] at h
 by_cases c1 : (1048576 : Int) < (s.size : Int)
 ·have d1 : decide ((1048576 : Int) < (s.size : Int)) = true := decide_eq_true c1
  clear h c1
  go_enter Try.func4, Try.ntmps4
  go_wp2
  go_ret
  exact ⟨by first | rfl | (simp <;> rfl), by repeat (first | exact HB.out | apply zF | apply zG | apply zH)⟩
 rw [if_neg c1] at h
 have d1 : decide ((1048576 : Int) < (s.size : Int)) = false := decide_eq_false c1
 clear c1
 replace h := zAF h
 obtain ⟨n1, e1, h⟩ := h
 have E1 := zA e1
 clear e1
 by_cases c2_ : n1 < 0
 ·have d3 : decide (n1 < 0) = true := decide_eq_true c2_
  clear h c2_
  go_enter Try.func4, Try.ntmps4
  go_wp2_with (first | ((with_reducible refine gate_dst (N := 2) rfl ?_); refine box_event ?hg (N := 2) ?hd (cs := #[.slice A0 l0.length c0]) (t := 24) ?hr ?_; (case hd => rfl); (case hg => rfl); (case hr => first | (go_simp; done) | (go_simp; rfl)); intro gb1 hg w3 hbox hb; have n0_ := zA (zAD HB.out hb); have BK := zA hbox; have HGW := zA (by rw [hg] : gb1 = w.heap.size); clear HB; have HB := n0_; clear n0_ hb hbox hg; have hc1 := (blk_cell BK.out 0).trans (show _ = some (.slice A0 l0.length c0) from rfl)) | ((with_reducible refine gate_dst (N := 21) rfl ?_); (try (refine gate_guard (by rfl) ?_; dsimp only)); refine goesL_ (some 21) rfl rfl Try.func6 (by kernel_rfl) rfl #[.agg #[.slice A0 l0.length c0], .int .i64 1048576] rfl (by (try simp only [zAA, zAB, zAC]); first | done | rfl) ?_; refine (laws_szTree.calls k A0 c0 l0 1048576 n1 _ (Kd.C_below HR0.out HB.out) HC0.out E1.out).mono ?_; rintro e w21 ⟨rfl, hb⟩; refine ⟨_, rfl, ?_⟩; have n0_ := zA (zAD HB.out hb); have n1_ := zA (blk_below BK.out hb); clear HB BK; have HB := n0_; clear n0_; have BK := n1_; clear n1_; (try clear hc1); have hc1 := (blk_cell BK.out 0).trans (show _ = some (.slice A0 l0.length c0) from rfl); (try clear hb)))
  go_ret
  exact ⟨by first | rfl | (simp <;> rfl), HB.out⟩
 rw [if_neg c2_] at h
 have d3 : decide (n1 < 0) = false := decide_eq_false c2_
 clear c2_
 replace h := zAF h; obtain ⟨ps, e2, h⟩ := h
 obtain ⟨P, hP⟩ : ∃ q, q = (proveF ps s).1 := ⟨_, rfl⟩
 obtain ⟨gb, hQ⟩ : ∃ q, q = (proveF ps s).2 := ⟨_, rfl⟩
 rw [← hP] at h
 replace h := zAF h; obtain ⟨⟨m1, ps2⟩, e5, h⟩ := h
 replace h := zAF h; obtain ⟨⟨m2, gs2⟩, e6, h⟩ := h
 replace h := zAF h; obtain ⟨q, e7, h⟩ := h
 dsimp only at h
 by_cases c4 : smlB ps = true ∧ laws_eqShownS.f k P P = some true ∧ laws_eqTree.f k ps ps = some true ∧ 0 ≤ m1 ∧ 0 ≤ q ∧ q = m2
 rotate_left
 ·rw [if_neg c4] at h; cases h
 clear h
 obtain ⟨hsm, e3, e4, p1, p2, rfl⟩ := c4
 have HKS := zA (fun A c hc w hC => by have := RI.proveKS ps ((smlB_iff ps).1 hsm) A c hc s w hC; rw [← hP, ← hQ] at this; exact this : ∀ (A : Option Addr) (c : Nat) (hc : ps.length ≤ c) (w : World) (hC : Kd.C k97 w A ps.length ps), Calls Try.prog 11 #[.agg #[.slice A ps.length c], .string s] w fun e w' => ∃ v, e = .returned (.tuple #[v, .bool gb]) ∧ k43.R 43 w' w.heap.size (fun _ => True) v P ∧ Below w.heap.size w w')
 have HKI := zA (fun A c hc w hC => by have := RJ.proveKI ps ((smlB_iff ps).1 hsm) A c hc s w hC; rw [← hP, ← hQ] at this; exact this : ∀ (A : Option Addr) (c : Nat) (hc : ps.length ≤ c) (w : World) (hC : Kd.C k97 w A ps.length ps), Calls Try.prog 12 #[.agg #[.slice A ps.length c], .string s] w fun e w' => ∃ v, e = .returned (.tuple #[v, .bool gb]) ∧ Kd.S a43 43 w' w.heap.size (fun _ => True) v P ∧ Below w.heap.size w w')
 have E2 := zA e2
 have E3 := zA e3
 have E4 := zA e4
 have E5 := zA e5
 have E6 := zA e6
 have E7 := zA e7
 have d5 : decide (m1 < 0) = false := decide_eq_false (by omega)
 have d6 : decide (q < 0) = false := decide_eq_false (by omega)
 clear e2 e3 e4 e5 e6 e7 p1 p2 hP hQ hsm
 go_enter Try.func4, Try.ntmps4
 go_wp2_with (first | ((with_reducible refine gate_dst (N := 2) rfl ?_); refine box_event ?hg (N := 2) ?hd (cs := #[.slice A0 l0.length c0]) (t := 24) ?hr ?_; (case hd => rfl); (case hg => rfl); (case hr => first | (go_simp; done) | (go_simp; rfl)); intro gb1 hg w3 hbox hb; have n0_ := zA (zAD HB.out hb); have BK := zA hbox; have HGW := zA (by rw [hg] : gb1 = w.heap.size); clear HB; have HB := n0_; clear n0_ hb hbox hg; have hc1 := (blk_cell BK.out 0).trans (show _ = some (.slice A0 l0.length c0) from rfl)) | ((with_reducible refine gate_dst (N := 21) rfl ?_); (try (refine gate_guard (by rfl) ?_; dsimp only)); refine goesL_ (some 21) rfl rfl Try.func6 (by kernel_rfl) rfl #[.agg #[.slice A0 l0.length c0], .int .i64 1048576] rfl (by (try simp only [zAA, zAB, zAC]); first | done | rfl) ?_; refine (laws_szTree.calls k A0 c0 l0 1048576 n1 _ (Kd.C_below HR0.out HB.out) HC0.out E1.out).mono ?_; rintro e w21 ⟨rfl, hb⟩; refine ⟨_, rfl, ?_⟩; have n0_ := zA (zAD HB.out hb); have n1_ := zA (blk_below BK.out hb); clear HB BK; have HB := n0_; clear n0_; have BK := n1_; clear n1_; (try clear hc1); have hc1 := (blk_cell BK.out 0).trans (show _ = some (.slice A0 l0.length c0) from rfl); (try clear hb)) | ((with_reducible refine gate_dst (N := 26) rfl ?_); (try (refine gate_guard (by rfl) ?_; dsimp only)); refine goesL_ (some 26) rfl rfl Try.func8 (by kernel_rfl) rfl #[.agg #[.slice A0 l0.length c0]] rfl (by (try simp only [zAA, zAB, zAC]); first | done | rfl) ?_; refine (toTree_calls k A0 c0 l0 ps _ (Kd.C_below HR0.out HB.out) HC0.out E2.out).mono ?_; rintro e w26 ⟨v26, rfl, hS, hb⟩; refine ⟨_, rfl, ?_⟩; have n0_ := zA (zAD HB.out hb); have n1_ := zA (blk_below BK.out hb); obtain ⟨X26, cx26, rfl⟩ := Kd.S_slice hS; have n3_ := zA (hS); clear hS; clear HB BK; have HB := n0_; clear n0_; have BK := n1_; clear n1_; have HT := n3_; clear n3_; (try clear hc1); have hc1 := (blk_cell BK.out 0).trans (show _ = some (.slice A0 l0.length c0) from rfl); (try clear hb)) | ((with_reducible refine gate_dst (N := 28) rfl ?_); (try (refine gate_guard (by rfl) ?_; dsimp only)); refine goesL_ (some 28) rfl rfl Try.func11 (by kernel_rfl) rfl #[.agg #[.slice X26 ps.length cx26], .string s] rfl (by (try simp only [zAA, zAB, zAC]); first | done | rfl) ?_; refine (HKS.out X26 cx26 (Kd.S_reads' HT.out).2.1 _ (aps_C (Kd.S_reads' HT.out).2.2)).mono ?_; rintro e w28 ⟨v28, rfl, r0, hb⟩; refine ⟨_, rfl, ?_⟩; have n0_ := zA (zAD HB.out hb); have n1_ := zA (blk_below BK.out hb); obtain ⟨WW, cw, rfl⟩ := Kd.R_slice r0; have n3_ := zA ((Kd.R_reads' r0).2.2); have n4_ := zA ((Kd.R_reads' r0).2.1); have n5_ := zA (Below.refl w28.heap.size w28); have HB28 := n0_; clear r0 HT; clear HB BK; have HB := n0_; clear n0_; have BK := n1_; clear n1_; have HW := n3_; clear n3_; have HWC := n4_; clear n4_; have HB7 := n5_; clear n5_; (try clear hc1); have hc1 := (blk_cell BK.out 0).trans (show _ = some (.slice A0 l0.length c0) from rfl); (try clear hb)) | ((with_reducible refine gate_dst (N := 32) rfl ?_); (try (refine gate_guard (by rfl) ?_; dsimp only)); refine goesL_ (some 32) rfl rfl Try.func8 (by kernel_rfl) rfl #[.agg #[.slice A0 l0.length c0]] rfl (by (try simp only [zAA, zAB, zAC]); first | done | rfl) ?_; refine (toTree_calls k A0 c0 l0 ps _ (Kd.C_below HR0.out HB.out) HC0.out E2.out).mono ?_; rintro e w32 ⟨v32, rfl, hS, hb⟩; refine ⟨_, rfl, ?_⟩; have n0_ := zA (zAD HB.out hb); have n1_ := zA (zAD HB7.out hb); have n2_ := zA (blk_below BK.out hb); obtain ⟨X32, cx32, rfl⟩ := Kd.S_slice hS; obtain ⟨PHX, hPX⟩ : ∃ P : Nat → Prop, P = fun k_ => w28.heap.size ≤ k_ ∧ k_ < w32.heap.size := ⟨_, rfl⟩; have n5_ := zA ((by rw [hPX]; exact Kd.S_mono (Kd.S_bound hS) (fun k_ hk => ⟨hk.2.1, hk.2.2.1⟩) : Kd.S a97 97 w32 w28.heap.size PHX _ ps)); have n6_ := zA ((fun k_ h_ => by rw [hPX] at h_; exact h_ : ∀ k_, PHX k_ → w28.heap.size ≤ k_ ∧ k_ < w32.heap.size)); have n7_ := zA ((by have := HGW.out; have := blk_lt BK.out; have := hb.size; exact ⟨this, by assumption⟩ : w28.heap.size ≤ w32.heap.size ∧ gb1 < w28.heap.size)); clear hS hPX; clear HB HB7 BK; have HB := n0_; clear n0_; have HB7 := n1_; clear n1_; have BK := n2_; clear n2_; have HX := n5_; clear n5_; have N32 := n6_; clear n6_; have NB := n7_; clear n7_; (try clear hc1); have hc1 := (blk_cell BK.out 0).trans (show _ = some (.slice A0 l0.length c0) from rfl); (try clear hb)) | ((with_reducible refine gate_dst (N := 36) rfl ?_); (try (refine gate_guard (by rfl) ?_; dsimp only)); refine goesL_ (some 36) rfl rfl Try.func12 (by kernel_rfl) rfl #[.agg #[.slice X32 ps.length cx32], .string s] rfl (by (try simp only [zAA, zAB, zAC]); first | done | rfl) ?_; refine (HKI.out X32 cx32 (Kd.S_reads' HX.out).2.1 _ (Kd.C_alloc (aps_C (Kd.S_reads' HX.out).2.2) _)).mono ?_; rintro e w36 ⟨v36, rfl, hS, hb⟩; refine ⟨_, rfl, ?_⟩; have hb0 := hb; replace hb := zAD (below_alloc (Below.refl w32.heap.size w32) (.cells #[.slice X32 ps.length cx32] 30)) hb; have n90_ := zA (blk_below (blk_new w32 (.cells #[.slice X32 ps.length cx32] 30)) hb0); have n3_ := zA (zAD HB.out hb); have n4_ := zA (zAD HB7.out hb); have n5_ := zA (blk_below BK.out hb); have n6_ := zA (Kd.S_below HX.out hb); have BX := n90_; clear n90_; obtain ⟨G36, cg36, rfl⟩ := Kd.S_slice hS; obtain ⟨PHG, hPG⟩ : ∃ P : Nat → Prop, P = fun k_ => w32.heap.size + 1 ≤ k_ ∧ k_ < w36.heap.size := ⟨_, rfl⟩; have n11_ := zA ((by rw [hPG]; exact Kd.S_lower (Kd.S_mono (Kd.S_bound hS) (fun k_ hk => ⟨Nat.le_trans (Nat.le_of_eq (by simp only [World.alloc, Array.size_push])) hk.2.1, hk.2.2.1⟩)) (by have := NB.out.1; simp only [World.alloc, Array.size_push]; omega) : Kd.S a43 43 w36 w28.heap.size PHG _ P)); have n12_ := zA ((fun k_ h_ => by rw [hPG] at h_; exact h_ : ∀ k_, PHG k_ → w32.heap.size + 1 ≤ k_ ∧ k_ < w36.heap.size)); clear hS hPG hb0; clear HB HB7 BK HX; have HB := n3_; clear n3_; have HB7 := n4_; clear n4_; have BK := n5_; clear n5_; have HX := n6_; clear n6_; have HG := n11_; clear n11_; have N36 := n12_; clear n12_; (try clear hc1); have hc1 := (blk_cell BK.out 0).trans (show _ = some (.slice A0 l0.length c0) from rfl); (try clear hc2); have hc2 := (blk_cell BX.out 0).trans (show _ = some (.slice X32 ps.length cx32) from rfl); (try clear hb)) | ((with_reducible refine gate_dst (N := 41) rfl ?_); (try (refine gate_guard (by rfl) ?_; dsimp only)); refine goesL_ (some 41) rfl rfl Try.func13 (by kernel_rfl) rfl #[.slice G36 P.length cg36, .slice WW P.length cw] rfl (by (try simp only [zAA, zAB, zAC]); first | done | rfl) ?_; refine (laws_eqShownS.calls k G36 cg36 P WW cw P true _ (aps_C (Kd.S_reads' HG.out).2.2) (Kd.S_reads' HG.out).2.1 (Kd.C_below HW.out HB7.out) HWC.out E3.out ⟨rfl⟩).mono ?_; rintro e w41 ⟨rfl, hb⟩; refine ⟨_, rfl, ?_⟩; have n0_ := zA (zAD HB.out hb); have n1_ := zA (zAD HB7.out hb); have n2_ := zA (blk_below BK.out hb); have n3_ := zA (blk_below BX.out hb); have n4_ := zA (Kd.S_below HX.out hb); have n5_ := zA (Kd.S_below HG.out hb); clear HB HB7 BK BX HX HG; have HB := n0_; clear n0_; have HB7 := n1_; clear n1_; have BK := n2_; clear n2_; have BX := n3_; clear n3_; have HX := n4_; clear n4_; have HG := n5_; clear n5_; (try clear hc1); have hc1 := (blk_cell BK.out 0).trans (show _ = some (.slice A0 l0.length c0) from rfl); (try clear hc2); have hc2 := (blk_cell BX.out 0).trans (show _ = some (.slice X32 ps.length cx32) from rfl); (try clear hb)))
 have n0_ := zA (Kd.S_drew HX.out); have n1_ := zA (Kd.S_drew HG.out); have n2_ := zA (zN BK.out); have n3_ := zA (zN BX.out); have n4_ := zA (zG HB.out); have n5_ := zA (zG HB7.out); clear HX HG BK BX HB HB7 hc1 hc2; have HX := n0_; have HG := n1_; have BK := n2_; have BX := n3_; have HB := n4_; have HB7 := n5_; clear n0_ n1_ n2_ n3_ n4_ n5_
 refine start_ (n := 5) (S := (fun w' => w'.cell? ⟨w32.heap.size, 0, none⟩ = some (.slice X32 ps.length cx32) ∧ w'.cell? ⟨gb1, 0, none⟩ = some (.slice A0 l0.length c0))) (ds := []) #[false, false, false, false, false] (by kernel_rfl) rfl rfl ⟨(zP BX.out 0).trans rfl, (zP BK.out 0).trans rfl⟩ (fun hHeld => ?_); generalize w41.drew = w49 at HX HG BK BX HB HB7 hHeld ⊢
 refine take_ (i := 0) (N := some 48) (v := ?_) (a' := ?_) #[true, false, false, false, false] rfl rfl (by kernel_rfl) (fun _ _ _ h => h) (Or.inl ⟨by rfl, ?_⟩) hHeld ?_ ?_; rotate_left
 ·rintro w' ⟨s0, s1⟩
  go_simp
  with_reducible rfl
 rotate_left
 ·simp only [Act.put, zC, zD, zE, i64_w]
  rfl
 refine take_ (i := 1) (N := some 49) (v := ?_) (a' := ?_) #[true, true, false, false, false] rfl rfl (by kernel_rfl) (fun _ _ _ h => h) (Or.inl ⟨by rfl, ?_⟩) hHeld ?_ ?_; rotate_left
 ·rintro w' ⟨s0, s1⟩
  go_simp
  with_reducible rfl
 rotate_left
 ·simp only [Act.put, zC, zD, zE, i64_w]
  rfl
 refine one_ (i := 2) (N := some 50) #[true, true, true, false, false] rfl rfl (by kernel_rfl) (by decide) (fun K hK => ?_); refine goes_ Try.func8 (by kernel_rfl) rfl #[.agg #[.slice A0 l0.length c0]] (by rfl) rfl rfl (by (try simp only [zAA, zAB, zAC]); first | done | rfl | (simp only [zZ, zY]; rfl)) ?_
 refine (toTree_calls k A0 c0 l0 ps _ (Kd.C_below HR0.out HB.out) HC0.out E2.out).mono ?_; rintro e w50 ⟨v50, rfl, hS, hb⟩; refine ⟨_, rfl, ?_⟩; have n0_ := zA (zAD HB.out hb); have n1_ := zA (zAD HB7.out hb); have n2_ := zA (blk_below BK.out hb); have n3_ := zA (blk_below BX.out hb); have n4_ := zA (Kd.S_below HX.out hb); have n5_ := zA (Kd.S_below HG.out hb); obtain ⟨X50, cx50, rfl⟩ := Kd.S_slice hS; have n7_ := zA (hS); clear hS; clear HB HB7 BK BX HX HG; have HB := n0_; clear n0_; have HB7 := n1_; clear n1_; have BK := n2_; clear n2_; have BX := n3_; clear n3_; have HX := n4_; clear n4_; have HG := n5_; clear n5_; have HT := n7_; clear n7_; (try clear hb)
 refine hK.out _ _ ⟨(zP BX.out 0).trans rfl, (zP BK.out 0).trans rfl⟩ (fun hHeld => ?_); clear hK K; refine norm_ (a' := ?_) ?_ ?_; rotate_left
 ·show Act.put _ (some 50) _ = _
  simp only [Act.put, zC, zD, zE, i64_w]; rfl
 refine one_ (i := 3) (N := some 51) #[true, true, true, true, false] rfl rfl (by kernel_rfl) (by decide) (fun K hK => ?_); refine goes_ Try.func10 (by kernel_rfl) rfl #[.agg #[.slice X32 ps.length cx32], .agg #[.slice X50 ps.length cx50]] (by rfl) rfl rfl (by (try simp only [zAA, zAB, zAC]); first | done | rfl | (simp only [zZ, zY]; rfl)) ?_
 refine (laws_eqTree.calls k X32 cx32 ps X50 cx50 ps true _ (aps_C (Kd.S_reads' HX.out).2.2) (Kd.S_reads' HX.out).2.1 (aps_C (Kd.S_reads' HT.out).2.2) (Kd.S_reads' HT.out).2.1 E4.out ⟨rfl⟩).mono ?_; rintro e w51 ⟨rfl, hb⟩; refine ⟨_, rfl, ?_⟩; have n0_ := zA (zAD HB.out hb); have n1_ := zA (zAD HB7.out hb); have n2_ := zA (blk_below BK.out hb); have n3_ := zA (blk_below BX.out hb); have n4_ := zA (Kd.S_below HX.out hb); have n5_ := zA (Kd.S_below HG.out hb); clear HT; clear HB HB7 BK BX HX HG; have HB := n0_; clear n0_; have HB7 := n1_; clear n1_; have BK := n2_; clear n2_; have BX := n3_; clear n3_; have HX := n4_; clear n4_; have HG := n5_; clear n5_; (try clear hb)
 refine hK.out _ _ ⟨(zP BX.out 0).trans rfl, (zP BK.out 0).trans rfl⟩ (fun hHeld => ?_); clear hK K; refine norm_ (a' := ?_) ?_ ?_; rotate_left
 ·show Act.put _ (some 51) _ = _
  simp only [Act.put, zC, zD, zE, i64_w]; rfl
 refine pure_ (i := 4) (N := some 52) (v := ?_) (a' := ?_) #[true, true, true, true, true] rfl rfl (by kernel_rfl) (fun _ _ _ h => h) (Or.inl ⟨by rfl, ?_⟩) ?_ ?_; rotate_left
 ·intro w'
  go_simp
  with_reducible rfl
 rotate_left
 ·simp only [Act.put, zC, zD, zE, i64_w]
  rfl
 refine done_ (by kernel_rfl) ?_
 have hc1 := (blk_cell BK.out 0).trans (show _ = some (.slice A0 l0.length c0) from rfl)
 have hc2 := (blk_cell BX.out 0).trans (show _ = some (.slice X32 ps.length cx32) from rfl)
 go_wp2_with (first | ((with_reducible refine gate_dst (N := 55) rfl ?_); (try (refine gate_guard (by rfl) ?_; dsimp only)); refine goesL_ (some 55) rfl rfl Try.func14 (by kernel_rfl) rfl #[.agg #[.slice X32 ps.length cx32], .int .i64 1] rfl (by (try simp only [zAA, zAB, zAC]); first | done | rfl) ?_; refine (RG.markTB k PHX (.slice X32 ps.length cx32) ps 1 m1 ps2 w28 _ HB7.out HX.out E5.out).mono ?_; rintro e w55 ⟨rfl, hx, hb, hk⟩; refine ⟨_, rfl, ?_⟩; have n0_ := zA (zAD HB28.out hb); have n1_ := zA (hb); have n2_ := zA (Kd.S_kept HG.out hk (fun k_ h1 h2 => by have := N36.out k_ h1; have := N32.out k_ h2; omega)); have n3_ := zA (blk_kept BK.out hk (fun h_ => by have := N32.out _ h_; have := NB.out; omega)); have n4_ := zA (blk_kept BX.out hk (fun h_ => by have := N32.out _ h_; omega)); clear hx hk HX; clear HB HB7 HG BK BX; have HB := n0_; clear n0_; have HB7 := n1_; clear n1_; have HG := n2_; clear n2_; have BK := n3_; clear n3_; have BX := n4_; clear n4_; (try clear hc1); have hc1 := (blk_cell BK.out 0).trans (show _ = some (.slice A0 l0.length c0) from rfl); (try clear hc2); have hc2 := (blk_cell BX.out 0).trans (show _ = some (.slice X32 ps.length cx32) from rfl); (try clear hb)) | ((with_reducible refine gate_dst (N := 61) rfl ?_); (try (refine gate_guard (by rfl) ?_; dsimp only)); refine goesL_ (some 61) rfl rfl Try.func13 (by kernel_rfl) rfl #[.slice G36 P.length cg36, .slice WW P.length cw] rfl (by (try simp only [zAA, zAB, zAC]); first | done | rfl) ?_; refine (laws_eqShownS.calls k G36 cg36 P WW cw P true _ (aps_C (Kd.S_reads' HG.out).2.2) (Kd.S_reads' HG.out).2.1 (Kd.C_below HW.out HB7.out) HWC.out E3.out ⟨rfl⟩).mono ?_; rintro e w61 ⟨rfl, hb⟩; refine ⟨_, rfl, ?_⟩; have n0_ := zA (zAD HB.out hb); have n1_ := zA (zAD HB7.out hb); have n2_ := zA (blk_below BK.out hb); have n3_ := zA (blk_below BX.out hb); have n4_ := zA (Kd.S_below HG.out hb); clear HB HB7 BK BX HG; have HB := n0_; clear n0_; have HB7 := n1_; clear n1_; have BK := n2_; clear n2_; have BX := n3_; clear n3_; have HG := n4_; clear n4_; (try clear hc1); have hc1 := (blk_cell BK.out 0).trans (show _ = some (.slice A0 l0.length c0) from rfl); (try clear hc2); have hc2 := (blk_cell BX.out 0).trans (show _ = some (.slice X32 ps.length cx32) from rfl); (try clear hb)) | ((with_reducible refine gate_dst (N := 71) rfl ?_); (try (refine gate_guard (by rfl) ?_; dsimp only)); refine goesL_ (some 71) rfl rfl Try.func15 (by kernel_rfl) rfl #[.slice G36 P.length cg36, .int .i64 1] rfl (by (try simp only [zAA, zAB, zAC]); first | done | rfl) ?_; refine (RG.markB k PHG (.slice G36 P.length cg36) P 1 q gs2 w28 _ HB7.out HG.out E6.out).mono ?_; rintro e w71 ⟨rfl, hx, hb, hk⟩; refine ⟨_, rfl, ?_⟩; have n0_ := zA (zAD HB28.out hb); have n1_ := zA (hb); have n2_ := zA (blk_kept BK.out hk (fun h_ => by have := N36.out _ h_; have := NB.out; omega)); have n3_ := zA (blk_kept BX.out hk (fun h_ => by have := N36.out _ h_; omega)); have n4_ := zA ((Kd.S_reads' hx).1); have n5_ := zA (hx); clear hx hk; clear HB HB7 BK BX HG; have HB := n0_; clear n0_; have HB7 := n1_; clear n1_; have BK := n2_; clear n2_; have BX := n3_; clear n3_; have HL := n4_; clear n4_; have HG := n5_; clear n5_; (try clear hc1); have hc1 := (blk_cell BK.out 0).trans (show _ = some (.slice A0 l0.length c0) from rfl); (try clear hc2); have hc2 := (blk_cell BX.out 0).trans (show _ = some (.slice X32 ps.length cx32) from rfl); (try clear hb)) | ((with_reducible refine gate_dst (N := 74) rfl ?_); (try (refine gate_guard (by rfl) ?_; dsimp only)); refine goesL_ (some 74) rfl rfl Try.func16 (by kernel_rfl) rfl #[.slice G36 P.length cg36, .int .i64 1] rfl (by (try simp only [zAA, zAB, zAC]); first | done | rfl) ?_; refine (held_n k G36 cg36 gs2 1 q P.length _ HL.out (aps_C (Kd.S_reads' HG.out).2.2) (Kd.S_reads' HG.out).2.1 E7.out).mono ?_; rintro e w74 ⟨rfl, hb⟩; refine ⟨_, rfl, ?_⟩; have n0_ := zA (zAD HB.out hb); have n1_ := zA (zAD HB7.out hb); have n2_ := zA (blk_below BK.out hb); have n3_ := zA (blk_below BX.out hb); have n4_ := zA (Kd.S_below HG.out hb); clear HB HB7 BK BX HG; have HB := n0_; clear n0_; have HB7 := n1_; clear n1_; have BK := n2_; clear n2_; have BX := n3_; clear n3_; have HG := n4_; clear n4_; (try clear hc1); have hc1 := (blk_cell BK.out 0).trans (show _ = some (.slice A0 l0.length c0) from rfl); (try clear hc2); have hc2 := (blk_cell BX.out 0).trans (show _ = some (.slice X32 ps.length cx32) from rfl); (try clear hb)) | ((with_reducible refine gate_dst (N := 82) rfl ?_); (try (refine gate_guard (by rfl) ?_; dsimp only)); refine goesL_ (some 82) rfl rfl Try.func8 (by kernel_rfl) rfl #[.agg #[.slice A0 l0.length c0]] rfl (by (try simp only [zAA, zAB, zAC]); first | done | rfl) ?_; refine (toTree_calls k A0 c0 l0 ps _ (Kd.C_below HR0.out HB.out) HC0.out E2.out).mono ?_; rintro e w82 ⟨v82, rfl, hS, hb⟩; refine ⟨_, rfl, ?_⟩; have n0_ := zA (zAD HB.out hb); have n1_ := zA (zAD HB7.out hb); have n2_ := zA (blk_below BK.out hb); have n3_ := zA (blk_below BX.out hb); have n4_ := zA (Kd.S_below HG.out hb); obtain ⟨X82, cx82, rfl⟩ := Kd.S_slice hS; have n6_ := zA (hS); clear hS; clear HB HB7 BK BX HG; have HB := n0_; clear n0_; have HB7 := n1_; clear n1_; have BK := n2_; clear n2_; have BX := n3_; clear n3_; have HG := n4_; clear n4_; have HT := n6_; clear n6_; (try clear hc1); have hc1 := (blk_cell BK.out 0).trans (show _ = some (.slice A0 l0.length c0) from rfl); (try clear hc2); have hc2 := (blk_cell BX.out 0).trans (show _ = some (.slice X32 ps.length cx32) from rfl); (try clear hb)) | ((with_reducible refine gate_dst (N := 84) rfl ?_); (try (refine gate_guard (by rfl) ?_; dsimp only)); refine goesL_ (some 84) rfl rfl Try.func12 (by kernel_rfl) rfl #[.agg #[.slice X82 ps.length cx82], .string s] rfl (by (try simp only [zAA, zAB, zAC]); first | done | rfl) ?_; refine (HKI.out X82 cx82 (Kd.S_reads' HT.out).2.1 _ (aps_C (Kd.S_reads' HT.out).2.2)).mono ?_; rintro e w84 ⟨v84, rfl, hS, hb⟩; refine ⟨_, rfl, ?_⟩; have n0_ := zA (zAD HB.out hb); have n1_ := zA (zAD HB7.out hb); have n2_ := zA (blk_below BK.out hb); have n3_ := zA (blk_below BX.out hb); have n4_ := zA (Kd.S_below HG.out hb); obtain ⟨H84, ch84, rfl⟩ := Kd.S_slice hS; have n6_ := zA (hS); clear hS HT; clear HB HB7 BK BX HG; have HB := n0_; clear n0_; have HB7 := n1_; clear n1_; have BK := n2_; clear n2_; have BX := n3_; clear n3_; have HG := n4_; clear n4_; have HH := n6_; clear n6_; (try clear hc1); have hc1 := (blk_cell BK.out 0).trans (show _ = some (.slice A0 l0.length c0) from rfl); (try clear hc2); have hc2 := (blk_cell BX.out 0).trans (show _ = some (.slice X32 ps.length cx32) from rfl); (try clear hb)) | ((with_reducible refine gate_dst (N := 89) rfl ?_); (try (refine gate_guard (by rfl) ?_; dsimp only)); refine goesL_ (some 89) rfl rfl Try.func13 (by kernel_rfl) rfl #[.slice H84 P.length ch84, .slice WW P.length cw] rfl (by (try simp only [zAA, zAB, zAC]); first | done | rfl) ?_; refine (laws_eqShownS.calls k H84 ch84 P WW cw P true _ (aps_C (Kd.S_reads' HH.out).2.2) (Kd.S_reads' HH.out).2.1 (Kd.C_below HW.out HB7.out) HWC.out E3.out ⟨rfl⟩).mono ?_; rintro e w89 ⟨rfl, hb⟩; refine ⟨_, rfl, ?_⟩; have n0_ := zA (zAD HB.out hb); have n1_ := zA (zAD HB7.out hb); have n2_ := zA (blk_below BK.out hb); have n3_ := zA (blk_below BX.out hb); have n4_ := zA (Kd.S_below HG.out hb); clear HH; clear HB HB7 BK BX HG; have HB := n0_; clear n0_; have HB7 := n1_; clear n1_; have BK := n2_; clear n2_; have BX := n3_; clear n3_; have HG := n4_; clear n4_; (try clear hc1); have hc1 := (blk_cell BK.out 0).trans (show _ = some (.slice A0 l0.length c0) from rfl); (try clear hc2); have hc2 := (blk_cell BX.out 0).trans (show _ = some (.slice X32 ps.length cx32) from rfl); (try clear hb)) | ((with_reducible refine gate_dst (N := 98) rfl ?_); (try (refine gate_guard (by rfl) ?_; dsimp only)); refine goesL_ (some 98) rfl rfl Try.func16 (by kernel_rfl) rfl #[.slice G36 P.length cg36, .int .i64 1] rfl (by (try simp only [zAA, zAB, zAC]); first | done | rfl) ?_; refine (held_n k G36 cg36 gs2 1 q P.length _ HL.out (aps_C (Kd.S_reads' HG.out).2.2) (Kd.S_reads' HG.out).2.1 E7.out).mono ?_; rintro e w98 ⟨rfl, hb⟩; refine ⟨_, rfl, ?_⟩; have n0_ := zA (zAD HB.out hb); have n1_ := zA (zAD HB7.out hb); have n2_ := zA (blk_below BK.out hb); have n3_ := zA (blk_below BX.out hb); have n4_ := zA (Kd.S_below HG.out hb); clear HB HB7 BK BX HG; have HB := n0_; clear n0_; have HB7 := n1_; clear n1_; have BK := n2_; clear n2_; have BX := n3_; clear n3_; have HG := n4_; clear n4_; (try clear hc1); have hc1 := (blk_cell BK.out 0).trans (show _ = some (.slice A0 l0.length c0) from rfl); (try clear hc2); have hc2 := (blk_cell BX.out 0).trans (show _ = some (.slice X32 ps.length cx32) from rfl); (try clear hb)))
 go_ret
 exact ⟨by first | rfl | (simp <;> rfl), HB.out⟩
end Go.Proofs.Ytnplghcbdaiogaa.RK
end
section
namespace Go.Proofs.Ytnplghcbdaiogaa.PA
open Go.RowKit Go.Proofs.YtnplghcbdaiogaaW.PrintWords Go.Proofs.YtnplghcbdaiogaaW.PrintLast Go.Proofs.YtnplghcbdaiogaaW.PrintMore
attribute [local go_sem] max2_int min2_int max_two min_two max_three min_three max_four min_four
set_option linter.unusedVariables false
set_option linter.unusedSimpArgs false
set_option maxHeartbeats 60000000
set_option maxRecDepth 100000
def laws_FnExactProveKey.f (k : Nat) (l0_0 : List (S87)) (a1 : ByteArray) : Option Bool := Go.Proofs.Ytnplghcbdaiogaa.RK.lawF k l0_0 a1
theorem laws_FnExactProveKey.calls (k : Nat) (A0_0 : Option Addr) (c0_0 : Nat) (l0_0 : List (S87)) (a1 : ByteArray) (r : Bool) (w : World) (hr0_0 : Kd.C k87 w A0_0 l0_0.length l0_0) (hc0_0 : l0_0.length ≤ c0_0) (h : laws_FnExactProveKey.f k l0_0 a1 = some r) (hr_ : Aside0 (r = true)) :
  Calls Try.prog 4 #[.agg #[.slice A0_0 l0_0.length c0_0], .string a1] w fun e w' => e = .returned (.bool r) ∧ Below w.heap.size w w' :=
 Go.Proofs.Ytnplghcbdaiogaa.RK.lawC k A0_0 c0_0 l0_0 a1 r w hr0_0 hc0_0 h hr_
end Go.Proofs.Ytnplghcbdaiogaa.PA
end
section
namespace Go.Proofs.Ytnplghcbdaiogaa.PX

end Go.Proofs.Ytnplghcbdaiogaa.PX
end
section
namespace Go.Proofs.Ytnplghcbdaiogaa.PY
open Go.RowKit Go.Proofs.YtnplghcbdaiogaaW.PrintWords Go.Proofs.YtnplghcbdaiogaaW.PrintLast Go.Proofs.YtnplghcbdaiogaaW.PrintMore Go.Proofs.Ytnplghcbdaiogaa.PB Go.Proofs.Ytnplghcbdaiogaa.PD Go.Proofs.Ytnplghcbdaiogaa.PK Go.Proofs.Ytnplghcbdaiogaa.PL Go.Proofs.Ytnplghcbdaiogaa.PS Go.Proofs.Ytnplghcbdaiogaa.PT Go.Proofs.Ytnplghcbdaiogaa.PU Go.Proofs.Ytnplghcbdaiogaa.PG Go.Proofs.Ytnplghcbdaiogaa.PQ Go.Proofs.Ytnplghcbdaiogaa.PW Go.Proofs.Ytnplghcbdaiogaa.PX Go.Proofs.Ytnplghcbdaiogaa.PA
set_option linter.unusedVariables false
theorem sz_list2 {α : Type} (wt : α → Nat) (l : List α) (rf : List α → Int → α) (hrf : ∀ i (h : i < l.length), rf l (i : Int) = l[i]) (L0 : Nat → List α → Int → Int → Option Int) (F : Nat → List α → Int → Option Int) (e : Nat → α → Int → Option Int)
  (hstep : ∀ k R i, L0 (k + 1) l R i = if i < (l.length : Int) then (if 0 ≤ i then ((e k (rf l i) R).bind fun t => if t < 0 then some (-1) else L0 k l t (wrap64 (i + 1))) else none) else some R)
  (hF : ∀ k R, F k l R = if wrap64 (R - (l.length : Int)) < 0 then some (-1) else L0 k l (wrap64 (R - (l.length : Int))) 0)
  (he : ∀ x ∈ l, ∀ R, 0 ≤ R → R ≤ 1000000000 → Ev (fun k => e k x R) (left R (wt x))) (hl : l.length ≤ 9223372036854775807) (R : Int) (h0 : 0 ≤ R) (h1 : R ≤ 1000000000) :
  Ev (fun k => F k l R) (left R (l.length + wsum wt l)) := by
 have key : ∀ (d i : Nat) (R : Int), i + d = l.length → 0 ≤ R → R ≤ 1000000000 → l.length ≤ 1000000000000 → Ev (fun k => L0 k l R (i : Int)) (left R (wsum wt (l.drop i))) := by
  intro d
  induction d with
  | zero =>
   intro i R hi h0 h1 h2
   rw [List.drop_eq_nil_of_le (by omega)]
   refine Ev.step (f := fun _ => some R) (fun k => by rw [hstep, if_neg (by omega)]) ?_
   refine ev_eq (Ev.now R) ?_
   show R = left R 0
   unfold left
   rw [if_pos (by omega)]; omega
  | succ d ih =>
   intro i R hi h0 h1 h2
   have hlt : i < l.length := by omega
   have hx := he _ (List.getElem_mem hlt) R h0 h1
   rw [List.drop_eq_getElem_cons hlt, show wsum wt (l[i] :: l.drop (i + 1)) = wt l[i] + wsum wt (l.drop (i + 1)) from rfl]
   refine Ev.step (f := fun k => (e k l[i] R).bind fun t => if t < 0 then some (-1) else L0 k l t ((i + 1 : Nat) : Int)) (fun k => ?_) ?_
   ·rw [hstep, if_pos (by omega), if_pos (by omega), hrf i hlt, w64 (x := (i : Int) + 1) (by omega) (by omega)]; rfl
   ·refine ev_bind hx ?_
    by_cases hc : ((wt l[i] : Nat) : Int) ≤ R
    ·rw [left_yes hc]
     refine ev_neg (by omega) ?_
     refine ev_eq (ih (i + 1) (R - wt l[i]) (by omega) (by omega) (by omega) h2) (left_add hc)
    ·rw [left_no hc]
     refine ev_pos (by omega) (ev_eq (Ev.now _) ?_)
     unfold left
     rw [if_neg (by omega)]
 by_cases hc : (l.length : Int) ≤ R
 ·refine Ev.congr (f := fun k => L0 k l (R - l.length) ((0 : Nat) : Int)) (fun k => ?_) ?_
  ·rw [hF, w64 (x := R - (l.length : Int)) (by omega) (by omega), if_neg (by omega)]; rfl
  ·refine ev_eq (key l.length 0 (R - l.length) (by omega) (by omega) (by omega) (by omega)) ?_
   rw [List.drop_zero]; exact left_add hc
 ·refine Ev.congr (f := fun _ => some (-1)) (fun k => ?_) (ev_eq (Ev.now _) ?_)
  ·rw [hF, w64 (x := R - (l.length : Int)) (by omega) (by omega), if_pos (by omega)]
  ·unfold left; rw [if_neg (by omega)]
end Go.Proofs.Ytnplghcbdaiogaa.PY
end
section
namespace Go.Proofs.Ytnplghcbdaiogaa.Pure
open Go.RowKit Go.Proofs.YtnplghcbdaiogaaW.PrintWords Go.Proofs.YtnplghcbdaiogaaW.PrintLast Go.Proofs.YtnplghcbdaiogaaW.PrintMore Go.Proofs.Ytnplghcbdaiogaa.PB Go.Proofs.Ytnplghcbdaiogaa.PL Go.Proofs.Ytnplghcbdaiogaa.PG Go.Proofs.Ytnplghcbdaiogaa.PY Go.Proofs.Ytnplghcbdaiogaa.QW Go.Proofs.Ytnplghcbdaiogaa.PA
set_option linter.unusedVariables false
theorem rdPL_at (l : List S87) (i : Nat) (h : i < l.length) : rd_T87 l (i : Int) = l[i] := by
 unfold rd_T87; rw [Int.toNat_natCast, List.getD_eq_getElem?_getD, List.getElem?_eq_getElem h]; rfl
theorem rdPI_at (l : List S97) (i : Nat) (h : i < l.length) : rd_T97 l (i : Int) = l[i] := by
 unfold rd_T97; rw [Int.toNat_natCast, List.getD_eq_getElem?_getD, List.getElem?_eq_getElem h]; rfl
theorem rdN_at (l : List Int) (i : Nat) (h : i < l.length) : rd l (i : Int) = l[i] := by
 unfold rd; rw [Int.toNat_natCast, List.getD_eq_getElem?_getD, List.getElem?_eq_getElem h]; rfl
theorem toN (l : List Int) (hl : l.length ≤ 2000000) : Ev (fun k => laws_toIntS.f k l) l := by
 have key : ∀ (d i : Nat), i + d = l.length → Ev (fun k => laws_toIntS.l0 k l (filled (fun x => x) 0 l i) (i : Int)) l := by
  intro d
  induction d with
  | zero =>
   intro i hi
   have hi' : i = l.length := by omega
   subst hi'
   refine Ev.step (f := fun _ => some l) (fun k => ?_) (Ev.now _)
   simp only [laws_toIntS.l0]
   rw [if_neg (by omega), filled_all]
   simp
  | succ d ih =>
   intro i hi
   have hlt : i < l.length := by omega
   refine Ev.step (f := fun k => laws_toIntS.l0 k l (filled (fun x => x) 0 l (i + 1)) ((i + 1 : Nat) : Int)) (fun k => ?_) (ih (i + 1) (by omega))
   simp only [laws_toIntS.l0]
   rw [if_pos (by omega), if_pos (by omega), if_pos (by rw [filled_length _ _ _ _ (by omega)]; omega), rdN_at _ _ hlt, w64 (x := (i : Int) + 1) (by omega) (by omega)]
   rw [show ((i : Int)).toNat = i from by omega, filled_set (fun x => x) _ l i hlt]
   rfl
 refine Ev.congr (f := fun k => laws_toIntS.l0 k l (filled (fun x => x) 0 l 0) ((0 : Nat) : Int)) (fun k => ?_) (key l.length 0 (by omega))
 simp only [laws_toIntS.f]
 rw [if_pos (by omega), if_pos (by omega), filled_zero]
 rfl
theorem eqN (l : List Int) (hl : l.length ≤ 2000000) : Ev (fun k => laws_eqIntS.f k l l) true := by
 have key : ∀ (d i : Nat), i + d = l.length → Ev (fun k => laws_eqIntS.l0 k l l (i : Int)) true := by
  intro d
  induction d with
  | zero =>
   intro i hi
   refine Ev.step (f := fun _ => some true) (fun k => ?_) (Ev.now _)
   simp only [laws_eqIntS.l0]
   rw [if_neg (by omega)]
  | succ d ih =>
   intro i hi
   refine Ev.step (f := fun k => laws_eqIntS.l0 k l l ((i + 1 : Nat) : Int)) (fun k => ?_) (ih (i + 1) (by omega))
   simp only [laws_eqIntS.l0]
   rw [if_pos (by omega), if_pos (by omega), if_pos (by omega), if_pos trivial, w64 (x := (i : Int) + 1) (by omega) (by omega)]
   rfl
 refine Ev.congr (f := fun k => laws_eqIntS.l0 k l l ((0 : Nat) : Int)) (fun k => ?_) (key l.length 0 (by omega))
 simp only [laws_eqIntS.f]
 rw [if_pos trivial]
 rfl
theorem szN (l : List Int) (hl : l.length ≤ 9223372036854775807) (R : Int) (h0 : 0 ≤ R) (h1 : R ≤ 1000000000) : laws_szIntS.f l R = some (left R l.length) := by
 unfold laws_szIntS.f left
 by_cases hc : (l.length : Int) ≤ R
 ·rw [w64 (x := R - (l.length : Int)) (by omega) (by omega), if_neg (by omega), if_pos hc]
 ·rw [w64 (x := R - (l.length : Int)) (by omega) (by omega), if_pos (by omega), if_neg hc]
def FitP (x : S87) : Prop := Fit x.f0 ∧ Fit x.f1 ∧ x.f2.length ≤ 9223372036854775807
def wtP (x : S87) : Nat := total x.f0 + (total x.f1 + x.f2.length)
theorem szPage (a b : List ByteArray) (c : List Int) (ha : Fit a) (hb : Fit b) (hc : c.length ≤ 9223372036854775807) (R : Int) (h0 : 0 ≤ R) (h1 : R ≤ 1000000000) : Ev (fun k => laws_szPage.f k a b c R) (left R (total a + (total b + c.length))) := by
 unfold laws_szPage.f
 refine ev_bind (szS a ha R h0 h1) ?_
 by_cases c1 : (total a : Int) ≤ R
 ·rw [if_pos c1]
  refine ev_neg (by omega) (ev_bind (szS b hb _ (by omega) (by omega)) ?_)
  by_cases c2 : (total b : Int) ≤ R - total a
  ·rw [if_pos c2]
   refine ev_neg (by omega) (ev_const (szN c hc _ (by omega) (by omega)) ?_)
   by_cases c3 : (c.length : Int) ≤ R - total a - total b
   ·rw [left_yes c3]
    refine ev_neg (by omega) (ev_eq (Ev.now _) ?_)
    rw [left_yes (by omega)]; omega
   ·rw [left_no c3]
    refine ev_pos (by omega) (ev_eq (Ev.now _) ?_)
    rw [left_no (by omega)]
  ·rw [if_neg c2]
   refine ev_pos (by omega) (ev_eq (Ev.now _) ?_)
   rw [left_no (by omega)]
 ·rw [if_neg c1]
  refine ev_pos (by omega) (ev_eq (Ev.now _) ?_)
  rw [left_no (by omega)]
theorem szPages (l : List S87) (hf : l.length ≤ 9223372036854775807 ∧ ∀ x ∈ l, FitP x) (R : Int) (h0 : 0 ≤ R) (h1 : R ≤ 1000000000) : Ev (fun k => laws_szPageS.f k l R) (left R (l.length + wsum wtP l)) :=
 sz_list2 wtP l rd_T87 (fun i h => rdPL_at l i h) laws_szPageS.l0 laws_szPageS.f (fun k x R => laws_szPage.f k x.f0 x.f1 x.f2 R) (fun k R i => rfl) (fun k R => rfl)
  (fun x hx R h0 h1 => szPage _ _ _ (hf.2 x hx).1 (hf.2 x hx).2.1 (hf.2 x hx).2.2 R h0 h1) hf.1 R h0 h1
def convP (x : S87) : S97 := ⟨x.f0, x.f1, x.f2⟩
def SmP (a b : List ByteArray) (c : List Int) : Prop := a.length ≤ 2000000 ∧ b.length ≤ 2000000 ∧ c.length ≤ 2000000
theorem toPage (a b : List ByteArray) (c : List Int) (h : SmP a b c) : Ev (fun k => laws_toPage.f k a b c) (a, b, c) :=
 ev_bind (toS a h.1) (ev_bind (toS b h.2.1) (ev_bind (toN c h.2.2) (Ev.now _)))
theorem eqPage (a b : List ByteArray) (c : List Int) (h : SmP a b c) : Ev (fun k => laws_eqPage.f k a b c a b c) true :=
 ev_bind (eqS_yes a h.1) (ev_pos rfl (ev_bind (eqS_yes b h.2.1) (ev_pos rfl (ev_bind (eqN c h.2.2) (ev_pos rfl (Ev.now _))))))
theorem small_pages (l : List S87) (h : l.length + wsum wtP l ≤ 1048576) : ∀ x ∈ l, SmP x.f0 x.f1 x.f2 := by
 intro x hx
 have h1 := wsum_mem wtP l x hx
 have h2 : wtP x = (x.f0.length + szL x.f0) + ((x.f1.length + szL x.f1) + x.f2.length) := rfl
 exact ⟨by omega, by omega, by omega⟩
theorem toPages (l : List S87) (hl : l.length ≤ 2000000) (hs : ∀ x ∈ l, SmP x.f0 x.f1 x.f2) : Ev (fun k => laws_toPageS.f k l) (l.map convP) := by
 refine Ev.congr (f := fun k => laws_toPageS.l0 k l (List.replicate l.length z97) 0) (fun k => ?_) (to_list convP z97 l laws_toPageS.l0 hl (fun k out => ?_) (fun i h out ho r hr => ?_))
 ·simp only [laws_toPageS.f]
  rw [if_pos (by omega), if_pos (by omega)]
  rfl
 ·simp only [laws_toPageS.l0]; rw [if_neg (by omega)]
 ·refine Ev.step (f := fun k => (laws_toPage.f k l[i].f0 l[i].f1 l[i].f2).bind fun b => laws_toPageS.l0 k l (out.set i (⟨b.1, b.2.1, b.2.2⟩ : S97)) ((i + 1 : Nat) : Int)) (fun k => ?_) (ev_bind (toPage _ _ _ (hs _ (List.getElem_mem h))) hr)
  simp only [laws_toPageS.l0]
  rw [if_pos (by omega), if_pos (by omega), rdPL_at l i h, w64 (x := (i : Int) + 1) (by omega) (by omega)]
  congr 1
  funext b
  rw [if_pos (by omega)]
  rfl
theorem eqPages (l : List S97) (hl : l.length ≤ 2000000) (hs : ∀ x ∈ l, SmP x.f0 x.f1 x.f2) : Ev (fun k => laws_eqPageS.f k l l) true := by
 refine eq_list l laws_eqPageS.l0 laws_eqPageS.f (fun k => ?_) (fun k => ?_) (fun i h hr => ?_)
 ·simp only [laws_eqPageS.l0]; rw [if_neg (by omega)]
 ·simp only [laws_eqPageS.f]; rw [if_pos trivial]
 ·refine Ev.step (f := fun k => (laws_eqPage.f k l[i].f0 l[i].f1 l[i].f2 l[i].f0 l[i].f1 l[i].f2).bind fun t => if t = true then laws_eqPageS.l0 k l l ((i + 1 : Nat) : Int) else some false) (fun k => ?_) (ev_bind (eqPage _ _ _ (hs _ (List.getElem_mem h))) (ev_pos rfl hr))
  simp only [laws_eqPageS.l0]
  rw [if_pos (by omega), if_pos (by omega), if_pos (by omega), rdPI_at l i h, w64 (x := (i : Int) + 1) (by omega) (by omega)]
  rfl
end Go.Proofs.Ytnplghcbdaiogaa.Pure
end
section
namespace Go.Proofs.Ytnplghcbdaiogaa.Pure
open Go.RowKit Go.Proofs.YtnplghcbdaiogaaW.PrintWords Go.Proofs.YtnplghcbdaiogaaW.PrintLast Go.Proofs.YtnplghcbdaiogaaW.PrintMore Go.Proofs.Ytnplghcbdaiogaa.PB Go.Proofs.Ytnplghcbdaiogaa.PD Go.Proofs.Ytnplghcbdaiogaa.PK Go.Proofs.Ytnplghcbdaiogaa.PL Go.Proofs.Ytnplghcbdaiogaa.PG Go.Proofs.Ytnplghcbdaiogaa.PW Go.Proofs.Ytnplghcbdaiogaa.PY Go.Proofs.Ytnplghcbdaiogaa.QW Go.Proofs.Ytnplghcbdaiogaa.RH Go.Proofs.Ytnplghcbdaiogaa.PA
set_option linter.unusedVariables false
theorem rdSh_at (l : List S43) (i : Nat) (h : i < l.length) : rd_T43 l (i : Int) = l[i] := by
 unfold rd_T43; rw [Int.toNat_natCast, List.getD_eq_getElem?_getD, List.getElem?_eq_getElem h]; rfl
def SmW (x : S43) : Prop := x.f0.length ≤ 2000000 ∧ x.f1.length ≤ 2000000 ∧ x.f2.length ≤ 2000000
theorem eqWay (l : List S43) (hl : l.length ≤ 2000000) (hs : ∀ x ∈ l, SmW x) : Ev (fun k => laws_eqShownS.f k l l) true := by
 refine eq_list l laws_eqShownS.l0 laws_eqShownS.f (fun k => ?_) (fun k => ?_) (fun i h hr => ?_)
 ·simp only [laws_eqShownS.l0]; rw [if_neg (by omega)]
 ·simp only [laws_eqShownS.f]; rw [if_pos trivial]
 ·obtain ⟨q0, q1, q2⟩ := hs _ (List.getElem_mem h)
  refine Ev.step (f := fun k => (laws_eqShown.f k l[i].f0 l[i].f1 l[i].f2 l[i].f3 l[i].f0 l[i].f1 l[i].f2 l[i].f3).bind fun t => if t = true then laws_eqShownS.l0 k l l ((i + 1 : Nat) : Int) else some false) (fun k => ?_) (ev_bind (eqShown _ _ _ _ q0 q1 q2) (ev_pos rfl hr))
  simp only [laws_eqShownS.l0]
  rw [if_pos (by omega), if_pos (by omega), if_pos (by omega), rdSh_at l i h, w64 (x := (i : Int) + 1) (by omega) (by omega)]
  rfl
theorem add_one (a : Nat) (h : a ≤ 1000000000000) : wrap64 ((a : Int) + 1) = ((a + 1 : Nat) : Int) := by rw [w64 (by omega) (by omega)]; rfl
noncomputable def mkP (a : Nat) (x : S43) : S43 := ⟨marks a x.f0.length, marks (a + x.f0.length) x.f1.length, marks (a + x.f0.length + x.f1.length) x.f2.length, ((a + x.f0.length + x.f1.length + x.f2.length : Nat) : Int)⟩
noncomputable def mkPs : Nat → List S43 → List S43
 | _, [] => []
 | a, x :: l => mkP a x :: mkPs (a + x.f0.length + x.f1.length + x.f2.length + 1) l
def sumP : List S43 → Nat
 | [] => 0
 | x :: l => x.f0.length + x.f1.length + x.f2.length + 1 + sumP l
theorem rd_mid (P l : List S43) (x : S43) : rd_T43 (P ++ x :: l) (P.length : Int) = x := by
 rw [rdSh_at _ _ (by simp)]
 simp
theorem set_mid {α : Type} (P l : List α) (x y : α) : (P ++ x :: l).set (P.length : Int).toNat y = (P ++ [y]) ++ l := by
 rw [Int.toNat_natCast, List.set_append_right _ _ (by omega), Nat.sub_self]
 simp
theorem markP_loop : ∀ (l P : List S43) (a : Nat), P.length + l.length ≤ 100000000 → a + sumP l ≤ 100000000 → Ev (fun k => RG.markL k (P ++ l) (a : Int) (P.length : Int)) (((a + sumP l : Nat) : Int), P ++ mkPs a l) := by
 intro l
 induction l with
 | nil =>
  intro P a _ _
  refine Ev.step (f := fun _ => some (((a + 0 : Nat) : Int), P ++ [])) (fun k => ?_) (Ev.now _)
  simp only [RG.markL]
  rw [if_neg (by simp)]
  rfl
 | cons x l ih =>
  intro P a hl ha
  simp only [sumP, List.length_cons] at ha hl
  have hx := ih (P ++ [mkP a x]) (a + x.f0.length + x.f1.length + x.f2.length + 1) (by simp only [List.length_append, List.length_cons, List.length_nil]; omega) (by omega)
  rw [List.append_assoc (P) [mkP a x] (mkPs _ l)] at hx
  have e1 : a + sumP (x :: l) = a + x.f0.length + x.f1.length + x.f2.length + 1 + sumP l := by simp only [sumP]; omega
  rw [e1]
  have eP : ((P ++ [mkP a x]).length : Int) = ((P.length + 1 : Nat) : Int) := by simp
  rw [eP] at hx
  have i1 : (P.length : Int) < ((P ++ x :: l).length : Int) := by simp only [List.length_append, List.length_cons]; omega
  refine Ev.step (f := fun k => (laws_markStringS.f k x.f0 (a : Int)).bind fun b0 => (laws_markStringS.f k x.f1 b0.1).bind fun b1 => (laws_markStringS.f k x.f2 b1.1).bind fun b2 => RG.markL k ((P ++ [⟨b0.2, b1.2, b2.2, b2.1⟩]) ++ l) (wrap64 (b2.1 + 1)) ((P.length + 1 : Nat) : Int)) (fun k => ?_) ?_
  ·simp only [RG.markL]
   rw [if_pos i1, if_pos (by omega), add_one P.length (by omega), rd_mid]
   simp only [set_mid]
  ·refine ev_bind (markS x.f0 a (by omega) (by omega)) (ev_bind (markS x.f1 (a + x.f0.length) (by omega) (by omega)) (ev_bind (markS x.f2 (a + x.f0.length + x.f1.length) (by omega) (by omega)) ?_))
   show Ev (fun k => RG.markL k ((P ++ [mkP a x]) ++ l) (wrap64 (((a + x.f0.length + x.f1.length + x.f2.length : Nat) : Int) + 1)) ((P.length + 1 : Nat) : Int)) _
   rw [add_one _ (by omega)]
   exact hx
theorem markWay (l : List S43) (a : Nat) (hl : l.length ≤ 100000000) (ha : a + sumP l ≤ 100000000) : Ev (fun k => RG.markF k l (a : Int)) (((a + sumP l : Nat) : Int), mkPs a l) := markP_loop l [] a (by simpa using hl) ha
theorem heldW_loop : ∀ (l P : List S43) (a : Nat), P.length + l.length ≤ 100000000 → a + sumP l ≤ 100000000 → Ev (fun k => laws_heldShownS.l0 k (P ++ mkPs a l) (a : Int) (P.length : Int)) ((a + sumP l : Nat) : Int) := by
 intro l
 induction l with
 | nil =>
  intro P a _ _
  rw [show mkPs a ([] : List S43) = [] from rfl]
  refine Ev.step (f := fun _ => some ((a + 0 : Nat) : Int)) (fun k => ?_) (Ev.now _)
  simp only [laws_heldShownS.l0]
  rw [if_neg (show ¬ (P.length : Int) < ((P ++ ([] : List S43)).length : Int) by simp)]
  rfl
 | cons x l ih =>
  intro P a hl ha
  simp only [sumP, List.length_cons] at ha hl
  have hx := ih (P ++ [mkP a x]) (a + x.f0.length + x.f1.length + x.f2.length + 1) (by simp only [List.length_append, List.length_cons, List.length_nil]; omega) (by omega)
  rw [List.append_assoc (P) [mkP a x] (mkPs _ l)] at hx
  have e1 : a + sumP (x :: l) = a + x.f0.length + x.f1.length + x.f2.length + 1 + sumP l := by simp only [sumP]; omega
  rw [e1]
  have eP : ((P ++ [mkP a x]).length : Int) = ((P.length + 1 : Nat) : Int) := by simp
  rw [eP] at hx
  rw [mkPs]
  generalize mkPs (a + x.f0.length + x.f1.length + x.f2.length + 1) l = R at hx ⊢
  have i1 : (P.length : Int) < ((P ++ mkP a x :: R).length : Int) := by simp only [List.length_append, List.length_cons]; omega
  refine Ev.step (f := fun k => (laws_heldStringS.f k (marks a x.f0.length) (a : Int)).bind fun t0 => if t0 < 0 then some (-1) else (laws_heldStringS.f k (marks (a + x.f0.length) x.f1.length) t0).bind fun t1 => if t1 < 0 then some (-1) else (laws_heldStringS.f k (marks (a + x.f0.length + x.f1.length) x.f2.length) t1).bind fun t2 => if t2 < 0 then some (-1) else if ((a + x.f0.length + x.f1.length + x.f2.length : Nat) : Int) = t2 then laws_heldShownS.l0 k (P ++ mkP a x :: R) (wrap64 (t2 + 1)) ((P.length + 1 : Nat) : Int) else some (-1)) (fun k => ?_) ?_
  ·simp only [laws_heldShownS.l0]
   rw [if_pos i1, if_pos (by omega), add_one P.length (by omega), rd_mid]
   rfl
  ·refine ev_bind (heldS x.f0.length a (by omega) (by omega)) (ev_neg (by omega) (ev_bind (heldS x.f1.length (a + x.f0.length) (by omega) (by omega)) (ev_neg (by omega) (ev_bind (heldS x.f2.length (a + x.f0.length + x.f1.length) (by omega) (by omega)) (ev_neg (by omega) (ev_pos rfl ?_))))))
   rw [add_one _ (by omega)]
   exact hx
theorem heldWay (l : List S43) (a : Nat) (hl : l.length ≤ 100000000) (ha : a + sumP l ≤ 100000000) : Ev (fun k => laws_heldShownS.f k (mkPs a l) (a : Int)) ((a + sumP l : Nat) : Int) := heldW_loop l [] a (by simpa using hl) ha
theorem sumP_le (b : Nat) (l : List S43) (h : ∀ p ∈ l, p.f0.length + p.f1.length + p.f2.length + 1 ≤ b) : sumP l ≤ l.length * b := by
 induction l with
 | nil => simp [sumP]
 | cons x l ih =>
  have h1 := h x List.mem_cons_self
  have h2 := ih (fun p hp => h p (List.mem_cons_of_mem _ hp))
  rw [sumP, List.length_cons, Nat.succ_mul]
  omega
theorem markN_any (l : List Int) (a : Nat) (hl : l.length ≤ 1000000000) (ha : a ≤ 1000000000) : ∃ r, r.length = l.length ∧ Ev (fun k => laws_markIntS.f k l (a : Int)) (((a + l.length : Nat) : Int), r) := by
 have key : ∀ (d i : Nat) (x : List Int), i + d = l.length → x.length = l.length → ∃ r, r.length = l.length ∧ Ev (fun k => laws_markIntS.l0 k x ((a + i : Nat) : Int) (i : Int)) (((a + l.length : Nat) : Int), r) := by
  intro d
  induction d with
  | zero =>
   intro i x hi hx
   refine ⟨x, hx, Ev.step (f := fun _ => some (((a + l.length : Nat) : Int), x)) (fun k => ?_) (Ev.now _)⟩
   simp only [laws_markIntS.l0]
   rw [if_neg (by omega), show a + i = a + l.length by omega]
  | succ d ih =>
   intro i x hi hx
   obtain ⟨r, hr, he⟩ := ih (i + 1) (x.set i ((a + i : Nat) : Int)) (by omega) (by rw [List.length_set]; exact hx)
   refine ⟨r, hr, Ev.step (f := fun k => laws_markIntS.l0 k (x.set i ((a + i : Nat) : Int)) ((a + (i + 1) : Nat) : Int) ((i + 1 : Nat) : Int)) (fun k => ?_) he⟩
   simp only [laws_markIntS.l0]
   rw [if_pos (by omega), if_pos (by omega), Int.toNat_natCast, add_one _ (by omega), add_one _ (by omega)]
   rfl
 exact key l.length 0 l (by omega) rfl
def sumG : List S97 → Nat
 | [] => 0
 | x :: l => x.f0.length + x.f1.length + x.f2.length + sumG l
theorem rd_midG (P l : List S97) (x : S97) : rd_T97 (P ++ x :: l) (P.length : Int) = x := by
 rw [rdPI_at _ _ (by simp)]
 simp
theorem markG_loop : ∀ (l P : List S97) (a : Nat), P.length + l.length ≤ 100000000 → a + sumG l ≤ 100000000 → ∃ r, Ev (fun k => RG.markPL k (P ++ l) (a : Int) (P.length : Int)) (((a + sumG l : Nat) : Int), r) := by
 intro l
 induction l with
 | nil =>
  intro P a _ _
  refine ⟨P ++ [], Ev.step (f := fun _ => some (((a + 0 : Nat) : Int), P ++ [])) (fun k => ?_) (Ev.now _)⟩
  simp only [RG.markPL]
  rw [if_neg (by simp)]
  rfl
 | cons x l ih =>
  intro P a hl ha
  simp only [sumG, List.length_cons] at ha hl
  obtain ⟨c, hc, hn⟩ := markN_any x.f2 (a + x.f0.length + x.f1.length) (by omega) (by omega)
  obtain ⟨r, hx⟩ := ih (P ++ [⟨marks a x.f0.length, marks (a + x.f0.length) x.f1.length, c⟩]) (a + x.f0.length + x.f1.length + x.f2.length) (by simp only [List.length_append, List.length_cons, List.length_nil]; omega) (by omega)
  have e1 : a + sumG (x :: l) = a + x.f0.length + x.f1.length + x.f2.length + sumG l := by simp only [sumG]; omega
  rw [e1]
  have eP : ((P ++ [(⟨marks a x.f0.length, marks (a + x.f0.length) x.f1.length, c⟩ : S97)]).length : Int) = ((P.length + 1 : Nat) : Int) := by simp
  rw [eP] at hx
  have i1 : (P.length : Int) < ((P ++ x :: l).length : Int) := by simp only [List.length_append, List.length_cons]; omega
  refine ⟨r, Ev.step (f := fun k => (laws_markStringS.f k x.f0 (a : Int)).bind fun b0 => (laws_markStringS.f k x.f1 b0.1).bind fun b1 => (laws_markIntS.f k x.f2 b1.1).bind fun b2 => RG.markPL k ((P ++ [⟨b0.2, b1.2, b2.2⟩]) ++ l) b2.1 ((P.length + 1 : Nat) : Int)) (fun k => ?_) ?_⟩
  ·simp only [RG.markPL]
   rw [if_pos i1, if_pos (by omega), add_one P.length (by omega), rd_midG]
   simp only [set_mid]
  ·exact ev_bind (markS x.f0 a (by omega) (by omega)) (ev_bind (markS x.f1 (a + x.f0.length) (by omega) (by omega)) (ev_bind hn hx))
theorem markTree (l : List S97) (hl : l.length ≤ 100000000) (ha : 1 + sumG l ≤ 100000000) : ∃ r, Ev (fun k => RG.markPF k l 1) (((1 + sumG l : Nat) : Int), r) := markG_loop l [] 1 (by simpa using hl) ha
theorem sumG_wt (l : List S87) : sumG (l.map convP) ≤ l.length + wsum wtP l := by
 induction l with
 | nil => simp [sumG]
 | cons x l ih =>
  simp only [List.map_cons, sumG, List.length_cons]
  have h1 : wsum wtP (x :: l) = wtP x + wsum wtP l := rfl
  have h2 : wtP x = (x.f0.length + szL x.f0) + ((x.f1.length + szL x.f1) + x.f2.length) := rfl
  have h3 : (convP x).f0.length = x.f0.length := rfl
  have h4 : (convP x).f1.length = x.f1.length := rfl
  have h5 : (convP x).f2.length = x.f2.length := rfl
  omega
theorem prove_sm (ps : List S97) (s : ByteArray) : (proveF ps s).1.length ≤ 10 ∧ ∀ p ∈ (proveF ps s).1, p.f0.length ≤ 4 ∧ p.f1.length ≤ 4 ∧ p.f2.length ≤ 5 := by
 unfold proveF
 cases h : Go.Proofs.Ytnplghcbdaiogaa.QZ.treeG ps 10 with
 | none => exact ⟨by simp, fun p hp => by cases hp⟩
 | some t =>
  dsimp only
  by_cases c : Go.Proofs.Ytnplghcbdaiogaa.QZ.isK s = true
  ·rw [if_pos c]; exact ⟨way_len s 10 t, way_mem s 10 t (fine_of h).1⟩
  ·rw [if_neg c]; exact ⟨by simp, fun p hp => by cases hp⟩
theorem FnExactProveKey (l : List S87) (s : ByteArray) (hf : l.length ≤ maxLen ∧ ∀ x ∈ l, (x.f0.length ≤ maxLen ∧ ∀ s ∈ x.f0, s.size ≤ maxLen) ∧ (x.f1.length ≤ maxLen ∧ ∀ s ∈ x.f1, s.size ≤ maxLen) ∧ (x.f2.length ≤ maxLen ∧ ∀ n ∈ x.f2, (Lit.int .i64 n).wf = true)) (h0 : s.size ≤ maxLen) : ∃ k, laws_FnExactProveKey.f k l s = some true := by
 refine Ev.rounds ?_
 refine Ev.congr (f := fun k => RK.lawF k l s) (fun k => rfl) ?_
 unfold RK.lawF
 by_cases c0 : (1048576 : Int) < (s.size : Int)
 ·simp only [if_pos c0]; exact Ev.now _
 simp only [if_neg c0]
 have hz0 := szPages l ⟨hf.1, fun x hx => ⟨(hf.2 x hx).1, (hf.2 x hx).2.1, (hf.2 x hx).2.2.1⟩⟩ 1048576 (by omega) (by omega)
 have hz : Ev (fun k => laws_szTree.f k l 1048576) (left 1048576 (l.length + wsum wtP l)) := by
  unfold laws_szTree.f
  refine ev_bind hz0 ?_
  by_cases c : ((l.length + wsum wtP l : Nat) : Int) ≤ 1048576
  ·rw [left_yes c]; exact ev_neg (by omega) (Ev.now _)
  ·rw [left_no c]; exact ev_pos (by omega) (Ev.now _)
 by_cases ht : ((l.length + wsum wtP l : Nat) : Int) ≤ 1048576
 ·rw [left_yes ht] at hz
  have hl : l.length ≤ 2000000 := by omega
  have hi := small_pages l (by omega)
  have hm : (l.map convP).length ≤ 2000000 := by rw [List.length_map]; exact hl
  have hsm : ∀ x ∈ l.map convP, SmP x.f0 x.f1 x.f2 := fun x hx => by
   obtain ⟨y, hy, rfl⟩ := List.mem_map.1 hx
   exact hi y hy
  have hto : Ev (fun k => laws_toTree.f k l) (l.map convP) := ev_bind (toPages l hl hi) (Ev.now _)
  have heq : Ev (fun k => laws_eqTree.f k (l.map convP) (l.map convP)) true := ev_bind (eqPages _ hm hsm) (ev_pos rfl (Ev.now _))
  have hb : Go.Proofs.Ytnplghcbdaiogaa.QZ.smlB (l.map convP) = true := (Go.Proofs.Ytnplghcbdaiogaa.QZ.smlB_iff _).2 ⟨by omega, fun x hx => by
   obtain ⟨a, b, c⟩ := hsm x hx
   exact ⟨by omega, by omega, by omega⟩⟩
  have hw := sumG_wt l
  obtain ⟨r, hmk⟩ := markTree (l.map convP) (by omega) (by omega)
  obtain ⟨hp1, hp2⟩ := prove_sm (l.map convP) s
  have hsum := sumP_le 14 (proveF (l.map convP) s).1 (fun p hp => by have := hp2 p hp; omega)
  have hsum2 : sumP (proveF (l.map convP) s).1 ≤ 140 := Nat.le_trans hsum (Nat.mul_le_mul_right 14 hp1)
  refine ev_bind hz (ev_neg (by omega) (ev_bind hto (ev_bind hmk (ev_bind (markWay _ 1 (by omega) (by omega)) (ev_bind (heldWay _ 1 (by omega) (by omega)) ?_)))))
  obtain ⟨K1, E1⟩ := eqWay (proveF (l.map convP) s).1 (by omega) (fun p hp => by have := hp2 p hp; exact ⟨by omega, by omega, by omega⟩)
  obtain ⟨K2, E2⟩ := heq
  exact ⟨K1 + K2, fun k hk => if_pos ⟨hb, E1 k (by omega), E2 k (by omega), Int.natCast_nonneg _, Int.natCast_nonneg _, rfl⟩⟩
 ·rw [left_no ht] at hz
  exact ev_bind hz (ev_pos (by omega) (Ev.now _))
end Go.Proofs.Ytnplghcbdaiogaa.Pure
end
section
namespace Go.Proofs.Ytnplghcbdaiogaa.RO
open Go.RowKit Go.Proofs.YtnplghcbdaiogaaW.PrintWords Go.ChangeShapes Go.WideShapes
set_option linter.unusedVariables false
def Opn (P : Program) (W : World) (e : TypeId) {α : Type} (d : Kd α) (G : α → Prop) : Prop :=
 ∀ {H : Type} {enc : TypeId × Value → H} {base : Nat} {spare : Nat → Bool} {held : Bool} {n : Nat} {cs : List Value} {x : DataW H × List MemPlace},
  DataW.trod enc P W base spare held n e cs = some x → ∃ y : α, d.K W y cs ∧ G y
section
variable {P : Program} {W : World} {e t : TypeId}
theorem op_string (he : P.underlying e = some .string) : Opn P W e Kd.string (fun s => s.size ≤ maxLen) := by
 intro H enc base spare held n cs x h
 obtain ⟨s, rfl, _, hs⟩ := DataW.trod_string he h
 exact ⟨s, rfl, hs⟩
theorem op_int {k : IntKind} (he : P.underlying e = some (.int k)) : Opn P W e (Kd.int k) (fun n => (Lit.int k n).wf = true) := by
 intro H enc base spare held n cs x h
 obtain ⟨m, rfl, _, hs⟩ := DataW.trod_int he h
 exact ⟨m, rfl, hs⟩
theorem pick {α : Type} {p : Nat → α → Prop} : ∀ (n : Nat), (∀ i, i < n → ∃ y, p i y) → ∃ ys : List α, ys.length = n ∧ ∀ i y, ys[i]? = some y → p i y := by
 intro n
 induction n with
 | zero => intro _; exact ⟨[], rfl, fun i y h => by simp at h⟩
 | succ n ih =>
  intro h
  obtain ⟨ys, hl, hp⟩ := ih (fun i hi => h i (by omega))
  obtain ⟨y, hy⟩ := h n (by omega)
  refine ⟨ys ++ [y], by simp [hl], fun i z hz => ?_⟩
  by_cases hi : i < n
  ·rw [List.getElem?_append_left (by omega)] at hz
   exact hp i z hz
  ·rw [List.getElem?_append_right (by omega)] at hz
   have : i = n := by
    rcases Nat.lt_or_ge (i - ys.length) 1 with h1 | h1
    ·omega
    ·rw [List.getElem?_eq_none (by simpa using h1)] at hz; cases hz
   subst this
   rw [hl, Nat.sub_self] at hz
   simp at hz
   subst hz
   exact hy
theorem op_slice {α : Type} {d : Kd α} {G : α → Prop} (ht : P.underlying t = some (.slice e)) (hc : P.cellsOf e = d.sz) (ho : Opn P W e d G) : Opn P W t (Kd.slice e d) (fun l => l.length ≤ maxLen ∧ ∀ x ∈ l, G x) := by
 intro H enc base spare held n cs x h
 rcases Deep.open_slice ht h with ⟨rfl, _⟩ | ⟨a, len, cap, m, n', D, Pl, rfl, _, hl, hm, hmm, _, hx⟩
 ·exact ⟨[], ⟨none, 0, rfl, Nat.le_refl _, Kd.C_nil _ _⟩, by simp [maxLen], fun x hx => by cases hx⟩
 ·obtain ⟨ys, hyl, hy⟩ := pick (p := fun i y => ∃ c, c.length = d.sz ∧ d.K W y c ∧ G y ∧ ∀ j u, c[j]? = some u → W.cell? (a.add (i * d.sz + j)) = some u) len (fun i hi => by
   have him : i < m := by rw [hmm]; split <;> omega
   obtain ⟨c, h1, h2⟩ := hx i him
   obtain ⟨y, hk, hg⟩ := ho h2
   obtain ⟨_, hcl, hcell⟩ := World.cells?_some h1
   rw [hc] at hcl hcell
   refine ⟨y, c, hcl, hk, hg, fun j u hj => ?_⟩
   have hj' : j < d.sz := by rw [← hcl]; exact (List.getElem?_eq_some_iff.1 hj).1
   have := hcell j hj'
   rw [hj] at this
   rw [← this]
   congr 1
   have e0 : ∀ p q : Nat, (a.add p).add q = a.add (p + q) := by
    intro p q
    obtain ⟨b, o, s⟩ := a
    unfold Addr.add
    by_cases hp : p = 0
    ·subst hp; simp
    ·by_cases hq : q = 0
     ·subst hq; simp [hp]
     ·simp [hp, hq]; omega
   rw [e0])
  refine ⟨ys, ⟨some a, cap, by rw [hyl], by omega, rfl, by rw [hyl]; unfold maxLen at hm; omega, fun h0 => ⟨a, rfl, fun j p hj => ?_⟩⟩, by rw [hyl]; omega, fun x hx => ?_⟩
  ·obtain ⟨c, h1, h2, _, h3⟩ := hy j p hj
   exact ⟨c, h1, h2, h3⟩
  ·obtain ⟨i, hi⟩ := List.getElem?_of_mem hx
   obtain ⟨c, _, _, h, _⟩ := hy i x hi
   exact h
def OpAt (P : Program) (W : World) (fs : List (TypeId × Nat)) (off : Nat) {α : Type} (d : Kd α) (G : α → Prop) : Prop :=
 ∀ {H : Type} {enc : TypeId × Value → H} {base : Nat} {spare : Nat → Bool} {held : Bool} {n : Nat} {cs : List Value}, cs.length = off + d.sz →
  (∀ f ∈ fs, ∃ x, DataW.trod enc P W base spare held n f.1 ((cs.drop f.2).take (P.cellsOf f.1)) = some x) → ∃ y : α, d.K W y (cs.drop off) ∧ G y
theorem opAt_one {off : Nat} {α : Type} {d : Kd α} {G : α → Prop} (hc : P.cellsOf e = d.sz) (h : Opn P W e d G) : OpAt P W [(e, off)] off d G := by
 intro H enc base spare held n cs hl hf
 obtain ⟨x, hx⟩ := hf (e, off) (List.mem_singleton.2 rfl)
 dsimp only at hx
 rw [hc, List.take_of_length_le (by rw [List.length_drop]; omega)] at hx
 exact h hx
theorem opAt_cons {off : Nat} {fs : List (TypeId × Nat)} {α β : Type} {d1 : Kd α} {d2 : Kd β} {G1 : α → Prop} {G2 : β → Prop} (hc : P.cellsOf e = d1.sz) (h1 : Opn P W e d1 G1) (h2 : OpAt P W fs (off + d1.sz) d2 G2) :
  OpAt P W ((e, off) :: fs) off (Kd.pair d1 d2) (fun y => G1 y.1 ∧ G2 y.2) := by
 intro H enc base spare held n cs hl hf
 have hl' : cs.length = off + (d1.sz + d2.sz) := hl
 obtain ⟨x, hx⟩ := hf (e, off) List.mem_cons_self
 dsimp only at hx
 rw [hc] at hx
 obtain ⟨y1, hk1, hg1⟩ := h1 hx
 obtain ⟨y2, hk2, hg2⟩ := h2 (cs := cs) (by omega) (fun f hf' => hf f (List.mem_cons_of_mem _ hf'))
 refine ⟨(y1, y2), ⟨(cs.drop off).take d1.sz, cs.drop (off + d1.sz), ?_, hk1, hk2⟩, hg1, hg2⟩
 rw [← List.drop_drop, List.take_append_drop]
theorem op_struct {fs : Array Field} {L : List (TypeId × Nat)} {α β : Type} {d : Kd α} {f : β → α} {g : α → β} {G : α → Prop} (ht : P.underlying t = some (.struct fs)) (hL : fs.toList.map (fun f => (f.type, f.offset)) = L) (hc : P.cellsOf t = d.sz) (hfg : ∀ y, f (g y) = y)
  (h : OpAt P W L 0 d G) : Opn P W t (Kd.iso d f) (fun x => G (f x)) := by
 intro H enc base spare held n cs x hx
 obtain ⟨xs, m, _, _, hl, hxl, hf⟩ := DataW.trod_struct ht hx
 obtain ⟨y, hk, hg⟩ := h (cs := cs) (n := m) (enc := enc) (base := base) (spare := spare) (held := held) (by rw [hl, hc]; omega) (fun q hq => by
  rw [← hL] at hq
  obtain ⟨fd, hfd, rfl⟩ := List.mem_map.1 hq
  obtain ⟨i, hi⟩ := List.getElem?_of_mem hfd
  rw [Array.getElem?_toList] at hi
  have hlt : i < xs.length := by
   have := (Array.getElem?_eq_some_iff.1 hi).1
   omega
  exact ⟨xs[i], by rw [hf i fd hi]; exact List.getElem?_eq_getElem hlt⟩)
 rw [List.drop_zero] at hk
 refine ⟨g y, ?_, ?_⟩
 ·show d.K W (f (g y)) cs
  rw [hfg]; exact hk
 ·show G (f (g y))
  rw [hfg]; exact hg
theorem op_struct0 {fs : Array Field} {L : List (TypeId × Nat)} {α : Type} {d : Kd α} {G : α → Prop} (ht : P.underlying t = some (.struct fs)) (hL : fs.toList.map (fun f => (f.type, f.offset)) = L) (hc : P.cellsOf t = d.sz)
  (h : OpAt P W L 0 d G) : Opn P W t d G := by
 intro H enc base spare held n cs x hx
 exact op_struct (d := d) (f := fun y : α => y) (g := fun y => y) ht hL hc (fun _ => rfl) h hx
end
theorem agg_of_wide {P : Program} {w : World} {r : Reach} {base : Nat} {t : TypeId} {fs : Array Field} {v : Value} {l : List Value} (ht : P.underlying t = some (.struct fs)) (hw : Value.okWide P w r base t v) (h : v.cells.toList = l) : v = .agg l.toArray := by
 simp only [Value.okWide, ht] at hw
 obtain ⟨cs, rfl, _⟩ := hw
 rw [← h]
 simp [Value.cells]
end Go.Proofs.Ytnplghcbdaiogaa.RO
end
