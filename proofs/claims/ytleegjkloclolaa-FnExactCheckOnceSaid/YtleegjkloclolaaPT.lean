/- The exported functions of keys for one use: both sides answer the same. -/
import Derived.Test.YtleegjkloclolaaPAx1
import Derived.Test.YtleegjkloclolaaPAx3
import Derived.Test.YtleegjkloclolaaPAx4
import Derived.Test.YtleegjkloclolaaPS
namespace Go.Proofs.Ytleegjkloclolaa.PT
open Go.RowKit Go.Proofs.YtleegjkloclolaaW.PrintWords Go.Proofs.YtleegjkloclolaaW.PrintLast Go.Proofs.YtleegjkloclolaaW.PrintMore Go.Proofs.Ytleegjkloclolaa.PB Go.Proofs.Ytleegjkloclolaa.PD Go.Proofs.Ytleegjkloclolaa.PK Go.Proofs.Ytleegjkloclolaa.PL Go.Proofs.Ytleegjkloclolaa.PS Go.Proofs.Ytleegjkloclolaa.PA

theorem inS (a b c : Int) : spec_l1In.f a b c = some (decide (b ≤ a ∧ a ≤ c)) := by
  unfold spec_l1In.f
  by_cases h : a ≥ b
  · rw [if_pos h]; simp [show b ≤ a from h]
  · rw [if_neg h]; simp [show ¬ b ≤ a from h]
theorem inI (a b c : Int) : impl_within.f a b c = some (decide (b ≤ a ∧ a ≤ c)) := by
  unfold impl_within.f
  by_cases h : a ≥ b
  · rw [if_pos h]; simp [show b ≤ a from h]
  · rw [if_neg h]; simp [show ¬ b ≤ a from h]
theorem seedS (a : ByteArray) : spec_l2Seed.f a = some (decide (1 ≤ (a.size : Int) ∧ (a.size : Int) ≤ 16)) := by
  unfold spec_l2Seed.f; rw [inS]; rfl
theorem seedI (a : ByteArray) (m : Int) : impl_isSeed.f a m = some (decide (1 ≤ (a.size : Int) ∧ (a.size : Int) ≤ m)) := by
  unfold impl_isSeed.f; rw [inI]; rfl
theorem longS (a : ByteArray) : spec_l2Long.f a = some (decide ((a.size : Int) ≤ 200)) := rfl

def SeedOk (a : ByteArray) (m : Int) : Prop := 1 ≤ (a.size : Int) ∧ (a.size : Int) ≤ m
theorem signOnce_two (seed text : ByteArray) : ∃ r, Ev (fun k => spec_SignOnce.f k seed text) r ∧ Ev (fun k => impl_SignOnce.f k seed text) r ∧ r.1.length ≤ 11 := by
  by_cases h1 : 1 ≤ (seed.size : Int) ∧ (seed.size : Int) ≤ 16
  · by_cases h2 : (text.size : Int) ≤ 200
    · refine ⟨(signM seed text, true), ?_, ?_, by rw [signM_length]; omega⟩
      · refine Ev.congr (f := fun k => (spec_l2Sign.f k seed text).bind fun t => some (t, true)) (fun k => ?_) (ev_bind (signS seed text (by omega) (by omega)) (Ev.now _))
        simp only [spec_SignOnce.f, seedS, longS, Option.bind_some, decide_eq_true h1, decide_eq_true h2, if_true]
      · refine Ev.congr (f := fun k => (impl_sign.f k seed text).bind fun t => some (t, true)) (fun k => ?_) (ev_bind (signI seed text (by omega) (by omega)) (Ev.now _))
        simp only [impl_SignOnce.f, seedI, Option.bind_some, decide_eq_true h1, if_true]
        rw [if_neg (by omega)]
    · refine ⟨([], false), ?_, ?_, by simp⟩
      · refine Ev.congr (f := fun _ => some ([], false)) (fun k => ?_) (Ev.now _)
        simp only [spec_SignOnce.f, seedS, longS, Option.bind_some, decide_eq_true h1, decide_eq_false h2, if_true]
        rfl
      · refine Ev.congr (f := fun _ => some ([], false)) (fun k => ?_) (Ev.now _)
        simp only [impl_SignOnce.f, seedI, Option.bind_some, decide_eq_true h1, if_true]
        rw [if_pos (by omega)]
  · refine ⟨([], false), ?_, ?_, by simp⟩
    · refine Ev.congr (f := fun _ => some ([], false)) (fun k => ?_) (Ev.now _)
      simp only [spec_SignOnce.f, seedS, Option.bind_some, decide_eq_false h1]
      rfl
    · refine Ev.congr (f := fun _ => some ([], false)) (fun k => ?_) (Ev.now _)
      simp only [impl_SignOnce.f, seedI, Option.bind_some, decide_eq_false h1]
      rfl
end Go.Proofs.Ytleegjkloclolaa.PT
