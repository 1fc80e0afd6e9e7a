/- For all texts and lists of texts: the program's CheckOnce answers as the reference's does, and writes into no argument. No condition. -/
import Derived.Test.YtleegjkloclolaaPAx22
import Derived.Test.YtleegjkloclolaaPU
namespace Go.Proofs.Ytleegjkloclolaa.Pure
open Go.RowKit Go.Proofs.YtleegjkloclolaaW.PrintWords Go.Proofs.YtleegjkloclolaaW.PrintLast Go.Proofs.YtleegjkloclolaaW.PrintMore Go.Proofs.Ytleegjkloclolaa.PB Go.Proofs.Ytleegjkloclolaa.PL Go.Proofs.Ytleegjkloclolaa.PU Go.Proofs.Ytleegjkloclolaa.PA

theorem FnExactCheckOnce (pub text : ByteArray) (l : List ByteArray) (_h0 : pub.size ≤ maxLen) (_h1 : text.size ≤ maxLen) (hf : l.length ≤ maxLen ∧ ∀ s ∈ l, s.size ≤ maxLen) : ∃ k, laws_FnExactCheckOnce.f k pub text l = some true := by
  refine Ev.rounds ?_
  unfold laws_FnExactCheckOnce.f
  by_cases c0 : (pub.size : Int) > 1048576
  · simp only [if_pos c0]; exact Ev.now _
  by_cases c1 : (text.size : Int) > 1048576
  · simp only [if_neg c0, if_pos c1]; exact Ev.now _
  simp only [if_neg c0, if_neg c1]
  have hz := szS l hf 1048576 (by omega) (by omega)
  by_cases ht : (total l : Int) ≤ 1048576
  · rw [if_pos ht] at hz
    have hl : l.length ≤ 2000000 := by unfold total at ht; omega
    obtain ⟨⟨r, ok⟩, hs, hi⟩ := checkOnce_two pub text l (by omega)
    refine ev_bind hz (ev_neg (by omega) (ev_bind (toS l hl) (ev_bind hs (ev_bind (toS l hl) (ev_bind hi ?_)))))
    refine ev_neg (by simp) ?_
    refine Ev.step (f := fun k => _) (fun k => by simp only [laws_FnExactCheckOnce.j0]; rfl) ?_
    exact ev_neg (by simp) (ev_bind (toS l hl) (ev_bind (eqS_yes l hl) (ev_pos rfl (Ev.now _))))
  · rw [if_neg ht] at hz
    exact ev_bind hz (ev_pos (by omega) (Ev.now _))
end Go.Proofs.Ytleegjkloclolaa.Pure
