/- Moments and their nights, slots and strings go back and forth. -/
import Derived.Test.YtmjgbngmkkeoiaaDoorPlain
import Derived.Test.YtmjgbngmkkeoiaaDoorH2
namespace Go.Proofs.YtmjgbngmkkeoiaaDoor.Ext
open Go Go.Proofs Go.RowKit Go.Proofs.YtmjgbngmkkeoiaaDoorW.PrintWords Go.Proofs.YtmjgbngmkkeoiaaDoor.G Go.Proofs.YtmjgbngmkkeoiaaDoor.H
theorem j1_any (k : Nat) (s : ByteArray) (hs : s.size < 4294967281) : observatorylaw09_CalendarBack.j1 (k + 1) s true = some true := by
  simp only [observatorylaw09_CalendarBack.j1]
  rcases parse_any s hs with ⟨m, hm, rfl, hp⟩ | ⟨_, hp⟩
  · rw [hp]
    simp only [Option.bind_some, if_true]
    rw [text_ok hm]
    simp
  · rw [hp]
    simp
theorem j0_any (k : Nat) (a b : Int) (s : ByteArray) (hs : s.size < 4294967281) : observatorylaw09_CalendarBack.j0 (k + 2) a b s true = some true := by
  simp only [observatorylaw09_CalendarBack.j0]
  by_cases h : 0 ≤ a ∧ a < 400 ∧ 0 ≤ b ∧ b < 96
  · rw [moment_ok h.1 h.2.1 h.2.2.1 h.2.2.2]
    simp only [Option.bind_some, if_true]
    rw [split_ok ⟨by omega, by omega⟩]
    simp only [Option.bind_some, if_true]
    rw [if_pos (by omega), if_pos (by omega)]
    exact j1_any _ _ hs
  · rw [moment_no h]
    simp only [Option.bind_some]
    rw [if_neg (by decide)]
    exact j1_any _ _ hs
theorem back : observatorylaw09_CalendarBack.Pure := by
  intro m a b s hm ha hb hs
  refine ⟨2, ?_⟩
  unfold observatorylaw09_CalendarBack.f head.f
  simp only [Option.bind_some]
  by_cases hl : (s.size : Int) > 20
  · rw [if_pos hl]
  · rw [if_neg hl]
    by_cases h : isM m
    · have h0 := h.1
      have h1 := h.2
      rw [split_ok h]
      simp only [Option.bind_some, if_true]
      rw [moment_ok (by omega) (by omega) (by omega) (by omega), text_ok h]
      simp only [Option.bind_some, if_true]
      rw [parse_T h]
      simp only [Option.bind_some, if_true]
      rw [if_pos (by omega)]
      exact j0_any 0 a b s (by omega)
    · rw [split_no h]
      simp only [Option.bind_some]
      rw [if_neg (by decide)]
      exact j0_any 0 a b s (by omega)
end Go.Proofs.YtmjgbngmkkeoiaaDoor.Ext
