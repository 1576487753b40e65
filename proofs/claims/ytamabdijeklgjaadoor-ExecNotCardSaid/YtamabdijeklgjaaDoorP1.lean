-- printed by this session's wip/hyb/hyb.py out of the kit's printer; Lean checks it
import Derived.Test.YtamabdijeklgjaaDoorP0
namespace Go.Proofs.YtamabdijeklgjaaDoor.P
open Go.RowKit Go.Proofs.YtamabdijeklgjaaDoor.Ext Go.Proofs.YtamabdijeklgjaaDoorW.PrintWords Go.Proofs.YtamabdijeklgjaaDoorW.PrintLast Go.Proofs.YtamabdijeklgjaaDoorW.PrintMore
attribute [local go_sem] max2_int min2_int max_two min_two max_three min_three max_four min_four   -- for this text's walks alone
set_option linter.unusedVariables false
set_option linter.unusedSimpArgs false

/-! ### exec_beyond: function 33 -/
def exec_beyond.f (a0 : Int) : Option (Bool) := if a0 < (-1000000000000) then (some true) else (some (decide (a0 > 1000000000000)))
set_option maxHeartbeats 8000000 in
set_option maxRecDepth 100000 in
theorem exec_beyond.calls (a0 : Int) (r : Bool) (w : World) (h : exec_beyond.f a0 = some r) :
    Calls Tryd.prog 33 #[.int .i64 a0] w fun e w' => e = .returned (.bool r) ∧ Drawn0 w w' := by
  have H : (if a0 < (-1000000000000) then (some true) else (some (decide (a0 > 1000000000000)))) = some r := h
  clear h
  by_cases c2 : a0 < (-1000000000000)
  · rw [if_pos c2] at H
    have c2b0 : decide (a0 < (-1000000000000)) = true := decide_eq_true c2
    clear c2
    obtain rfl := Option.some.inj H
    go_enter Tryd.func33, Tryd.ntmps33
    go_wp2
    go_ret
    exact ⟨by first | rfl | (simp; done) | (simp [*]; done), by repeat (first | exact Drawn0.refl _ | apply Drawn0.step)⟩
  · rw [if_neg c2] at H
    have c2b0 : decide (a0 < (-1000000000000)) = false := decide_eq_false c2
    clear c2
    obtain rfl := Option.some.inj H
    go_enter Tryd.func33, Tryd.ntmps33
    go_wp2
    go_ret
    exact ⟨by first | rfl | (simp; done) | (simp [*]; done), by repeat (first | exact Drawn0.refl _ | apply Drawn0.step)⟩

/-- THE ONE PURE STATEMENT of exec_beyond: yours. -/
def exec_beyond.Pure : Prop := ∀ (a0 : Int), (Lit.int .i64 a0).wf = true → exec_beyond.f a0 = some true
theorem exec_beyond.walk (P : exec_beyond.Pure) (a0 : Int) (w : World) (w0 : (Lit.int .i64 a0).wf = true) :
    Calls Tryd.prog 33 #[.int .i64 a0] w fun e w' => e = .returned (.bool true) ∧ Below w.heap.size w w' := by
  have h := P a0 w0
  refine (exec_beyond.calls a0 true w h).mono ?_
  rintro e w' ⟨rfl, hd⟩
  exact ⟨rfl, hd.below⟩

/-! ### exec_scaled: function 50 -/
def exec_scaled.f (a0 : Int) (a1 : Int) : Option (Int) := if (wrap64 ((wrap64 (Int.tdiv (wrap64 (a0 * a1)) 1000)) * 1000)) > (wrap64 (a0 * a1)) then (some (wrap64 ((wrap64 (Int.tdiv (wrap64 (a0 * a1)) 1000)) - 1))) else (some (wrap64 (Int.tdiv (wrap64 (a0 * a1)) 1000)))
set_option maxHeartbeats 8000000 in
set_option maxRecDepth 100000 in
theorem exec_scaled.calls (a0 : Int) (a1 : Int) (r : Int) (w : World) (h : exec_scaled.f a0 a1 = some r) :
    Calls Tryd.prog 50 #[.int .i64 a0, .int .i64 a1] w fun e w' => e = .returned (.int .i64 r) ∧ Drawn0 w w' := by
  have H : (if (wrap64 ((wrap64 (Int.tdiv (wrap64 (a0 * a1)) 1000)) * 1000)) > (wrap64 (a0 * a1)) then (some (wrap64 ((wrap64 (Int.tdiv (wrap64 (a0 * a1)) 1000)) - 1))) else (some (wrap64 (Int.tdiv (wrap64 (a0 * a1)) 1000)))) = some r := h
  clear h
  by_cases c3 : (wrap64 ((wrap64 (Int.tdiv (wrap64 (a0 * a1)) 1000)) * 1000)) > (wrap64 (a0 * a1))
  · rw [if_pos c3] at H
    have c3b0 : decide ((wrap64 (a0 * a1)) < (wrap64 ((wrap64 (Int.tdiv (wrap64 (a0 * a1)) 1000)) * 1000))) = true := decide_eq_true c3
    clear c3
    obtain rfl := Option.some.inj H
    go_enter Tryd.func50, Tryd.ntmps50
    go_wp2
    go_ret
    exact ⟨by first | rfl | (simp; done) | (simp [*]; done), by repeat (first | exact Drawn0.refl _ | apply Drawn0.step)⟩
  · rw [if_neg c3] at H
    have c3b0 : decide ((wrap64 (a0 * a1)) < (wrap64 ((wrap64 (Int.tdiv (wrap64 (a0 * a1)) 1000)) * 1000))) = false := decide_eq_false c3
    clear c3
    obtain rfl := Option.some.inj H
    go_enter Tryd.func50, Tryd.ntmps50
    go_wp2
    go_ret
    exact ⟨by first | rfl | (simp; done) | (simp [*]; done), by repeat (first | exact Drawn0.refl _ | apply Drawn0.step)⟩

end Go.Proofs.YtamabdijeklgjaaDoor.P
