/- For all texts and lists of texts: the program's PublicFrom answers as the reference's does, and writes into no argument. No condition. -/
import Derived.Test.YtleegjkloclolaaPAx23
import Derived.Test.YtleegjkloclolaaPU
namespace Go.Proofs.Ytleegjkloclolaa.Pure
open Go.RowKit Go.Proofs.YtleegjkloclolaaW.PrintWords Go.Proofs.YtleegjkloclolaaW.PrintLast Go.Proofs.YtleegjkloclolaaW.PrintMore Go.Proofs.Ytleegjkloclolaa.PB Go.Proofs.Ytleegjkloclolaa.PL Go.Proofs.Ytleegjkloclolaa.PU Go.Proofs.Ytleegjkloclolaa.PA

theorem FnExactPublicFrom (text : ByteArray) (l : List ByteArray) (_h0 : text.size ≤ maxLen) (hf : l.length ≤ maxLen ∧ ∀ s ∈ l, s.size ≤ maxLen) : ∃ k, laws_FnExactPublicFrom.f k text l = some true := by
  refine Ev.rounds ?_
  unfold laws_FnExactPublicFrom.f
  by_cases c0 : (text.size : Int) > 1048576
  · simp only [if_pos c0]; exact Ev.now _
  simp only [if_neg c0]
  have hz := szS l hf 1048576 (by omega) (by omega)
  by_cases ht : (total l : Int) ≤ 1048576
  · rw [if_pos ht] at hz
    have hl : l.length ≤ 2000000 := by unfold total at ht; omega
    obtain ⟨⟨r, ok⟩, hs, hi⟩ := publicFrom_two text l (by omega)
    refine ev_bind hz (ev_neg (by omega) (ev_bind (toS l hl) (ev_bind hs (ev_bind (toS l hl) (ev_bind hi ?_)))))
    refine ev_pos rfl ?_
    refine Ev.step (f := fun k => _) (fun k => by simp only [laws_FnExactPublicFrom.j0]; rfl) ?_
    exact ev_neg (by simp) (ev_bind (toS l hl) (ev_bind (eqS_yes l hl) (ev_pos rfl (Ev.now _))))
  · rw [if_neg ht] at hz
    exact ev_bind hz (ev_pos (by omega) (Ev.now _))
end Go.Proofs.Ytleegjkloclolaa.Pure
