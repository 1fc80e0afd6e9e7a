/- For the law FnChain (laid by merge.py). -/
import Derived.Test.YthhkkhnjkoacnaaMFnChainf
section
namespace Go.Proofs.Ythhkkhnjkoacnaa.Pure
open Go.RowKit Go.Proofs.YthhkkhnjkoacnaaW.PrintWords Go.Proofs.YthhkkhnjkoacnaaW.PrintLast Go.Proofs.YthhkkhnjkoacnaaW.PrintMore Go.Proofs.Ythhkkhnjkoacnaa.PB Go.Proofs.Ythhkkhnjkoacnaa.PD Go.Proofs.Ythhkkhnjkoacnaa.PC Go.Proofs.Ythhkkhnjkoacnaa.PW Go.Proofs.Ythhkkhnjkoacnaa.PX Go.Proofs.Ythhkkhnjkoacnaa.PY Go.Proofs.Ythhkkhnjkoacnaa.PH Go.Proofs.Ythhkkhnjkoacnaa.QA Go.Proofs.Ythhkkhnjkoacnaa.QB Go.Proofs.Ythhkkhnjkoacnaa.QN Go.Proofs.Ythhkkhnjkoacnaa.QG Go.Proofs.Ythhkkhnjkoacnaa.PA
set_option linter.unusedVariables false
theorem chainTail {c : List Int} (hc : Bys c) : Ev (fun k => laws_FnChain.j1 k c) true := by
 obtain ⟨a, b, l, e1, h1⟩ := drawBytes hc
 obtain ⟨a2, b2, l2, e2, h2⟩ := drawDigest hc
 obtain ⟨t, e3⟩ := drawReadB hc
 have hl : l.length ≤ 2000000 := by omega
 have hl2 : l2.length ≤ 2000000 := by omega
 have hg := goodBlockI a b l hl
 have hsame := sameBlock_d (readBlkM t).1 (readBlkM t).2.1 (readBlkM t).2.2.1 (readBlkM t).1 (readBlkM t).2.1 (readBlkM t).2.2.1 (readBlk_len t)
 rw [ch_yes ⟨rfl, rfl, rfl⟩] at hsame
 have hok : (blkBytesM a b l).2 = blockB a b l := by
  unfold blkBytesM
  cases blockB a b l <;> rfl
 refine Ev.step (f := fun k => _) (fun k => by simp only [laws_FnChain.j1]; rfl) ?_
 refine ev_bind e1 (ev_bind (blkBytesI a b l hl) (ev_bind (blkBytesS a b l hl) (ev_bind e2 (ev_bind (blkDigI a2 b2 l2 hl2) (ev_bind (blkDigS a2 b2 l2 hl2) (ev_bind e3 (ev_bind (readBlkI t) (ev_bind (readBlkS t) (ev_neg (by simp) (ev_pos rfl (ev_neg (by simp) (ev_pos rfl (ev_neg (by simp) (ev_bind hsame (ev_pos rfl (ev_bind hg ?_))))))))))))))))
 rw [hok]
 simp only [bne_self_eq_false]
 cases h : readBlkM t with
 | mk p q =>
  obtain ⟨q, m, f⟩ := q
  cases f with
  | false => exact Ev.step (f := fun _ => some true) (fun k => by simp only [laws_FnChain.j2]; rw [if_neg (by simp), if_neg (by simp)]) (Ev.now _)
  | true =>
   obtain ⟨g, e⟩ := readBlk_back h
   have hb := blkBytesI p q m (by have := (blockB_facts g).2.2.1; omega)
   unfold blkBytesM at hb
   rw [if_pos g] at hb
   refine Ev.step (f := fun k => (impl_BlockBytes.f k p q m).bind fun u => if u.2 = true then some (u.1.toList == t.toList) else some false) (fun k => by simp only [laws_FnChain.j2]; rw [if_neg (by simp), if_pos trivial]) (ev_bind hb (ev_pos rfl (ev_eq (Ev.now _) ?_)))
   show ((blockM p q m).toList == t.toList) = true
   rw [e, beq_self_eq_true]
theorem linked_put {l : List S89} (h : Linked l) (a : ByteArray) (m : List ByteArray) (hb : blockB zero4 a m = true) (hn : l.length ≠ 12) : Linked (l ++ [⟨lastM l, a, m⟩]) := by
 have hc := h.1
 have h12 := chain_len hc
 have hlen : (l ++ [(⟨lastM l, a, m⟩ : S89)]).length = l.length + 1 := by rw [List.length_append]; rfl
 have hg : blockB (lastM l) a m = true := by rw [blockB_prev (lastM_size l) (by decide : zero4.size = 4)]; exact hb
 have at_old : ∀ i, i < l.length → bk (l ++ [(⟨lastM l, a, m⟩ : S89)]) i = bk l i := by
  intro i hi
  rw [bk_at _ i (by omega), bk_at l i hi, List.getElem_append_left hi]
 have at_new : bk (l ++ [(⟨lastM l, a, m⟩ : S89)]) l.length = ⟨lastM l, a, m⟩ := by
  rw [bk_at _ _ (by omega), List.getElem_append_right (Nat.le_refl _)]
  simp
 refine ⟨?_, fun i hi => ?_⟩
 ·unfold chainOk at hc ⊢
  simp only [Bool.and_eq_true] at hc ⊢
  refine ⟨decide_eq_true (by omega), ?_⟩
  rw [List.all_append, hc.2, Bool.true_and]
  show (blkB ⟨lastM l, a, m⟩ && true) = true
  rw [Bool.and_true]
  exact hg
 ·by_cases h1 : i < l.length
  ·have := h.2 i h1
   unfold LinkAt at this ⊢
   rw [at_old i h1]
   refine ⟨this.1, fun h0 => ?_⟩
   rw [at_old (i - 1) (by omega)]
   exact this.2 h0
  ·have ei : i = l.length := by omega
   subst ei
   unfold LinkAt
   rw [at_new]
   refine ⟨fun h0 => ?_, fun h0 => ?_⟩
   ·show lastM l = zero4
    unfold lastM
    rw [if_pos h0]; rfl
   ·rw [at_old _ (by omega)]
    exact lastM_bk l h0
theorem FnChain (l0 l1 : List Int) (h0 : l0.length ≤ maxLen) (y0 : l0.length * 1 ≤ 140737488351232) (hw0 : ∀ x ∈ l0, (Lit.int .u8 x).wf = true) (h1 : l1.length ≤ maxLen) (y1 : l1.length * 1 ≤ 140737488351232) (hw1 : ∀ x ∈ l1, (Lit.int .u8 x).wf = true) : ∃ k, laws_FnChain.f k l0 l1 = some true := by
 refine Ev.rounds ?_
 have hc := code_of l0 hw0
 have tail := chainTail (code_of l1 hw1)
 unfold laws_FnChain.f
 by_cases hL : wrap64 ((l0.length : Int) + (l1.length : Int)) > 1048576
 ·exact ev_pos hL (Ev.now _)
 refine ev_neg hL ?_
 obtain ⟨l, a, m, hd, hl, hm⟩ := drawPut hc
 have hl12 := hl.1
 have hp := ch_put hl a m hm
 have hps := sameChain_d (putBlockM l a m).1 (putBlockM l a m).1 (by have := hp.1; omega) hp.sm
 rw [ch_yes rfl] at hps
 have hld := lastDigestI l (by omega) hl.sm
 have hlds := lastDigestS l (by omega) hl.sm
 have hgc := goodChainI l (by omega) hl.sm
 have hl2 : (lastDigestM l).2 = ch (Linked l) := by
  unfold lastDigestM
  cases ch (Linked l) <;> rfl
 refine ev_bind hd (ev_bind (putI hl a m hm) (ev_bind (putS hl a m hm) (ev_bind hld (ev_bind hlds (ev_neg (by simp) (ev_bind hps (ev_pos rfl (ev_neg (by simp) (ev_pos rfl (ev_bind hgc ?_))))))))))
 rw [hl2]
 simp only [bne_self_eq_false]
 have no : ∀ p d f, Ev (fun k => laws_FnChain.j0 k l1 l a m p false d f false) true := fun p d f => Ev.step (f := fun k => laws_FnChain.j1 k l1) (fun k => by simp only [laws_FnChain.j0]; rw [if_neg (by simp), if_neg (by simp)]) tail
 by_cases hk : Linked l
 ·unfold putBlockM lastDigestM
  rw [if_pos (ch_yes hk)]
  simp only [if_pos (ch_yes hk)]
  by_cases hb : blockB zero4 a m = true ∧ l.length ≠ 12
  ·rw [if_pos hb]
   have hg : blockB (lastM l) a m = true := by rw [blockB_prev (lastM_size l) (by decide : zero4.size = 4)]; exact hb.1
   have hlen : (l ++ [(⟨lastM l, a, m⟩ : S89)]).length = l.length + 1 := by rw [List.length_append]; rfl
   have e0 : rd_T89 (l ++ [(⟨lastM l, a, m⟩ : S89)]) (l.length : Int) = ⟨lastM l, a, m⟩ := by
    rw [PY.rdI_at _ l.length (by omega), List.getElem_append_right (Nat.le_refl _)]
    simp
   have hP := linked_put hk a m hb.1 hb.2
   have hpc : Ch (l ++ [(⟨lastM l, a, m⟩ : S89)]) := by
    have := hp
    unfold putBlockM at this
    rw [if_pos (ch_yes hk), if_pos hb] at this
    exact this
   have d1 := blkDigI (lastM l) a m (by omega)
   have b1 := blkBytesI (lastM l) a m (by omega)
   unfold blkDigM at d1
   unfold blkBytesM at b1
   rw [if_pos hg] at d1 b1
   have ld := lastDigestI (l ++ [(⟨lastM l, a, m⟩ : S89)]) (by omega) hpc.sm
   unfold lastDigestM at ld
   rw [if_pos (ch_yes hP)] at ld
   have ld2 : lastM (l ++ [(⟨lastM l, a, m⟩ : S89)]) = dig 104 (blockM (lastM l) a m) := by
    rw [lastM_bk _ (by omega), hlen, Nat.add_sub_cancel]
    unfold bk
    rw [e0]
    rfl
   rw [ld2] at ld
   have rb := readBlkI (blockM (lastM l) a m)
   rw [readBlk_cat hg] at rb
   have gc := goodChainI (l ++ [(⟨lastM l, a, m⟩ : S89)]) (by omega) hpc.sm
   rw [ch_yes hP] at gc
   have st := PH.sameTexts_yes m (by omega)
   have sb := sameBlock_d (lastM l) a m (lastM l) a m (by omega)
   rw [ch_yes ⟨rfl, rfl, rfl⟩] at sb
   refine Ev.step (f := fun k => _) (fun k => by simp only [laws_FnChain.j0, e0]; rfl) ?_
   exact ev_neg (by simp) (ev_pos trivial (ev_pos (by omega) (ev_pos (by rw [hlen]; omega) (ev_bind d1 (ev_bind ld (ev_bind b1 (ev_bind rb (ev_bind gc (ev_pos rfl (ev_pos (ch_yes hk) (ev_pos trivial (ev_pos trivial (ev_bind st (ev_pos rfl (ev_pos rfl (ev_pos rfl (ev_pos rfl (ev_pos rfl (ev_pos rfl (ev_bind sb (ev_pos rfl tail)))))))))))))))))))))
  ·rw [if_neg hb]
   exact no _ _ _
 ·unfold putBlockM
  rw [ch_no hk]
  exact no _ _ _
end Go.Proofs.Ythhkkhnjkoacnaa.Pure
end
