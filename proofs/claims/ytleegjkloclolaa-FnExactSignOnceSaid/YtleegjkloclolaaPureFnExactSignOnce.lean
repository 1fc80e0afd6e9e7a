/- For all texts: the program's SignOnce answers as the reference's does, its answer owns its memory, and another call changes nothing. No condition. -/
import Derived.Test.YtleegjkloclolaaPAx5
import Derived.Test.YtleegjkloclolaaPAx6
import Derived.Test.YtleegjkloclolaaPAx7
import Derived.Test.YtleegjkloclolaaPT
namespace Go.Proofs.Ytleegjkloclolaa.Pure
open Go.RowKit Go.Proofs.YtleegjkloclolaaW.PrintWords Go.Proofs.YtleegjkloclolaaW.PrintLast Go.Proofs.YtleegjkloclolaaW.PrintMore Go.Proofs.Ytleegjkloclolaa.PB Go.Proofs.Ytleegjkloclolaa.PL Go.Proofs.Ytleegjkloclolaa.PT Go.Proofs.Ytleegjkloclolaa.PA

theorem FnExactSignOnce : laws_FnExactSignOnce.Pure := by
  intro seed text h0 h1
  refine Ev.rounds ?_
  unfold laws_FnExactSignOnce.f
  by_cases c0 : (seed.size : Int) > 1048576
  · simp only [if_pos c0]; exact Ev.now _
  by_cases c1 : (text.size : Int) > 1048576
  · simp only [if_neg c0, if_pos c1]; exact Ev.now _
  simp only [if_neg c0, if_neg c1]
  obtain ⟨⟨l, ok⟩, hs, hi, hl⟩ := signOnce_two seed text
  dsimp only at hl
  refine ev_bind hs (ev_bind hi (ev_bind (eqS_yes l (by omega)) ?_))
  refine ev_pos rfl ?_
  have hm := markS l 1 (by omega) (by omega)
  have hh := heldS l.length 1 (by omega) (by omega)
  have hm' : Ev (fun k => laws_markStringS.f k l 1) (((1 + l.length : Nat) : Int), marks 1 l.length) := hm
  have hh' : Ev (fun k => laws_heldStringS.f k (marks 1 l.length) 1) ((1 + l.length : Nat) : Int) := hh
  refine Ev.step (f := fun k => _) (fun k => by simp only [laws_FnExactSignOnce.j0]; rfl) ?_
  refine ev_neg (by simp) ?_
  refine ev_bind hm' (ev_bind hh' (ev_neg (by omega) (ev_pos rfl ?_)))
  refine ev_bind hi (ev_bind (eqS_yes l (by omega)) (ev_pos rfl ?_))
  refine Ev.step (f := fun k => _) (fun k => by simp only [laws_FnExactSignOnce.j1]; rfl) ?_
  exact ev_neg (by simp) (ev_bind hh' (ev_neg (by omega) (ev_pos rfl (Ev.now _))))
end Go.Proofs.Ytleegjkloclolaa.Pure
