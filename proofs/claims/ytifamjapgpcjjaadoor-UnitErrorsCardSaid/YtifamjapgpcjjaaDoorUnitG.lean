/- unit's functions as functions on numbers, with their contracts. -/
import Derived.Test.YtifamjapgpcjjaaDoorUnitF
namespace Go.Proofs.YtifamjapgpcjjaaDoor.Ext
open Go Go.Proofs Go.RowKit Go.Proofs.YtifamjapgpcjjaaDoorW.PrintWords

def mulR (a b c x y z : Int) : Int × Int × Int × Int :=
  if okU a b c ∧ okU x y z then (if okU (a + x) (b + y) (c + z) then (a + x, b + y, c + z, 0) else (0, 0, 0, 9)) else (0, 0, 0, 1)
def powerR (a b c n : Int) : Int × Int × Int × Int :=
  if okU a b c then (if a = 0 ∧ b = 0 ∧ c = 0 then (0, 0, 0, 0) else if okU (a * max (-9) (min 9 n)) (b * max (-9) (min 9 n)) (c * max (-9) (min 9 n)) then (a * max (-9) (min 9 n), b * max (-9) (min 9 n), c * max (-9) (min 9 n), 0) else (0, 0, 0, 9)) else (0, 0, 0, 1)
def textR (a b c : Int) : ByteArray × Int := if okU a b c then (textS a b c, 0) else (⟨#[]⟩, 1)
def unit_Mul.f (a b c x y z : Int) : Option (Int × Int × Int × Int) := some (mulR a b c x y z)
def unit_Power.f (a b c n : Int) : Option (Int × Int × Int × Int) := some (powerR a b c n)
def unit_Text.f (a b c : Int) : Option (ByteArray × Int) := some (textR a b c)
def unit_Parse.f (s : ByteArray) : Option (Int × Int × Int × Int) := if s.size ≤ 200 then some (parseR s) else none

theorem unit_Mul.calls (a0_0 a0_1 a0_2 a1_0 a1_1 a1_2 r1 r2 r3 r4 : Int) (w : World) (h : unit_Mul.f a0_0 a0_1 a0_2 a1_0 a1_1 a1_2 = some (r1, r2, r3, r4)) :
    Calls Tryd.prog 9 #[.agg #[.int .i64 a0_0, .int .i64 a0_1, .int .i64 a0_2], .agg #[.int .i64 a1_0, .int .i64 a1_1, .int .i64 a1_2]] w fun e w' => e = .returned (.tuple #[.agg #[.int .i64 r1, .int .i64 r2, .int .i64 r3], .int .i64 r4]) ∧ Below w.heap.size w w' := by
  unfold unit_Mul.f mulR at h
  by_cases h1 : okU a0_0 a0_1 a0_2
  · by_cases h2 : okU a1_0 a1_1 a1_2
    · rw [if_pos ⟨h1, h2⟩] at h
      by_cases h3 : okU (a0_0 + a1_0) (a0_1 + a1_1) (a0_2 + a1_2)
      · rw [if_pos h3] at h
        cases h
        exact mul_yes _ _ _ _ _ _ w h1 h2 h3
      · rw [if_neg h3] at h
        cases h
        exact mul_range _ _ _ _ _ _ w h1 h2 h3
    · rw [if_neg (fun e => h2 e.2)] at h
      cases h
      exact mul_no_x _ _ _ _ _ _ w h1 h2
  · rw [if_neg (fun e => h1 e.1)] at h
    cases h
    exact mul_no_a _ _ _ _ _ _ w h1
theorem unit_Power.calls (a0_0 a0_1 a0_2 a1 r1 r2 r3 r4 : Int) (w : World) (h : unit_Power.f a0_0 a0_1 a0_2 a1 = some (r1, r2, r3, r4)) :
    Calls Tryd.prog 11 #[.agg #[.int .i64 a0_0, .int .i64 a0_1, .int .i64 a0_2], .int .i64 a1] w fun e w' => e = .returned (.tuple #[.agg #[.int .i64 r1, .int .i64 r2, .int .i64 r3], .int .i64 r4]) ∧ Below w.heap.size w w' := by
  unfold unit_Power.f powerR at h
  by_cases h1 : okU a0_0 a0_1 a0_2
  · rw [if_pos h1] at h
    by_cases h2 : a0_0 = 0 ∧ a0_1 = 0 ∧ a0_2 = 0
    · rw [if_pos h2] at h
      cases h
      obtain ⟨rfl, rfl, rfl⟩ := h2
      exact power_zero a1 w
    · rw [if_neg h2] at h
      by_cases h3 : okU (a0_0 * max (-9) (min 9 a1)) (a0_1 * max (-9) (min 9 a1)) (a0_2 * max (-9) (min 9 a1))
      · rw [if_pos h3] at h
        cases h
        exact power_yes _ _ _ _ w h1 h2 h3
      · rw [if_neg h3] at h
        cases h
        exact power_range _ _ _ _ w h1 h2 h3
  · rw [if_neg h1] at h
    cases h
    exact power_no _ _ _ _ w h1
theorem unit_Text.calls (a0_0 a0_1 a0_2 : Int) (r1 : ByteArray) (r2 : Int) (w : World) (hT : Tabs w) (h : unit_Text.f a0_0 a0_1 a0_2 = some (r1, r2)) :
    Calls Tryd.prog 13 #[.agg #[.int .i64 a0_0, .int .i64 a0_1, .int .i64 a0_2]] w fun e w' => e = .returned (.tuple #[.string r1, .int .i64 r2]) ∧ Below w.heap.size w w' := by
  unfold unit_Text.f textR at h
  by_cases h1 : okU a0_0 a0_1 a0_2
  · rw [if_pos h1] at h
    cases h
    exact text_yes _ _ _ w hT h1
  · rw [if_neg h1] at h
    cases h
    exact text_no _ _ _ w h1
theorem unit_Parse.calls (a0 : ByteArray) (r1 r2 r3 r4 : Int) (w : World) (hT : Tabs w) (h : unit_Parse.f a0 = some (r1, r2, r3, r4)) :
    Calls Tryd.prog 15 #[.string a0] w fun e w' => e = .returned (.tuple #[.agg #[.int .i64 r1, .int .i64 r2, .int .i64 r3], .int .i64 r4]) ∧ Below w.heap.size w w' := by
  unfold unit_Parse.f at h
  split at h
  · rename_i hs
    have e := Option.some.inj h
    have := parse_any a0 hs w hT
    rw [e] at this
    exact this
  · cases h
end Go.Proofs.YtifamjapgpcjjaaDoor.Ext
