/- The sidereal angle turns by 60 a slot and by 16 a night: plain arithmetic. -/
import Derived.Test.YtmjgbngmkkeoiaaDoorPlain
import Derived.Test.YtmjgbngmkkeoiaaDoorH3
namespace Go.Proofs.YtmjgbngmkkeoiaaDoor.Ext
open Go Go.Proofs Go.RowKit Go.Proofs.YtmjgbngmkkeoiaaDoorW.PrintWords Go.Proofs.YtmjgbngmkkeoiaaDoor.G Go.Proofs.YtmjgbngmkkeoiaaDoor.H
theorem turns : observatorylaw09_CalendarTurns.Pure := by
  intro m hm
  refine ⟨2, ?_⟩
  unfold observatorylaw09_CalendarTurns.f head.f
  simp only [Option.bind_some]
  by_cases h : isM m
  · have h0 := h.1
    have h1 := h.2
    rw [split_ok h, sid_ok h]
    simp only [Option.bind_some, if_true]
    rw [if_neg (by omega), decide_eq_false (by omega)]
    simp only [observatorylaw09_CalendarTurns.j0, observatorylaw09_CalendarTurns.j1, Bool.false_eq_true, if_false]
    rw [wrap_in (n := m % 96 + 1) (by omega) (by omega), wrap_in (n := m / 96 + 1) (by omega) (by omega), wrap_in (n := (60 * (m % 96) + 16 * (m / 96)) % 5760 + 60) (by omega) (by omega), wrap_in (n := (60 * (m % 96) + 16 * (m / 96)) % 5760 + 16) (by omega) (by omega)]
    rw [Int.tmod_eq_emod_of_nonneg (by omega), Int.tmod_eq_emod_of_nonneg (by omega)]
    have night : ((calendar_Moment.f (m / 96 + 1) (m % 96)).bind fun bt => if bt.2 = 0 then (calendar_Sidereal.f bt.1).bind fun bu => if bu.2 = 0 then if bu.1 = ((60 * (m % 96) + 16 * (m / 96)) % 5760 + 16) % 5760 then some true else some false else some false else some true) = some true := by
      by_cases hn : m / 96 + 1 < 400
      · rw [moment_ok (by omega) hn (by omega) (by omega)]
        simp only [Option.bind_some, if_true]
        rw [sid_at (by omega) hn (by omega) (by omega)]
        simp only [Option.bind_some, if_true]
        rw [if_pos (by omega)]
      · rw [moment_no (by omega)]
        simp
    by_cases hs : m % 96 + 1 < 96
    · rw [moment_ok (by omega) (by omega) (by omega) hs]
      simp only [Option.bind_some, if_true]
      rw [sid_at (by omega) (by omega) (by omega) hs]
      simp only [Option.bind_some, if_true]
      rw [if_pos (by omega)]
      exact night
    · rw [moment_no (by omega)]
      simp only [Option.bind_some]
      rw [if_neg (by decide)]
      exact night
  · rw [split_no h]
    simp only [Option.bind_some]
    rw [if_neg (by decide), if_pos trivial]
    by_cases hn : m < 0
    · rw [if_pos hn]
    · rw [if_neg hn, decide_eq_true]
      unfold isM at h
      omega
end Go.Proofs.YtmjgbngmkkeoiaaDoor.Ext
