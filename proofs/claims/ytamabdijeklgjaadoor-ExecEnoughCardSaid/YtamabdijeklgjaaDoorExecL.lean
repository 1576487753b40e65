/- The laws on execution: the calls that all of them make. -/
import Derived.Test.YtamabdijeklgjaaDoorExecJ
import Derived.Test.YtamabdijeklgjaaDoorExecI
import Derived.Test.YtamabdijeklgjaaDoorL3
namespace Go.Proofs.YtamabdijeklgjaaDoor.Ext
open Go Go.Proofs Go.RowKit Go.Proofs.YtamabdijeklgjaaDoorW.PrintWords
set_option linter.unusedVariables false
set_option linter.unusedSimpArgs false

theorem few_calls4 (name : ByteArray) (ver : Int) (A : Option Addr) (c : Nat) (l : List FS) (w : World) (hr : Kd.C L.k32 w A l.length l) (hc : l.length ≤ c) :
    Calls Tryd.prog 11 #[.agg #[.string name, .int .i64 ver, .slice A l.length c]] w fun e w' => e = .returned (.bool (decide (l.length ≤ 50) && decide (name.size ≤ 60))) ∧ Below w.heap.size w w' := by
  refine L.observatoryref33_Few.calls name ver A c l _ w hr hc ?_
  unfold L.observatoryref33_Few.f
  by_cases h : (l.length : Int) ≤ 50
  · rw [if_pos h, decide_eq_true (show l.length ≤ 50 by omega), Bool.true_and]
    congr 1
    exact decide_eq_decide.2 (by omega)
  · rw [if_neg h, decide_eq_false (show ¬ l.length ≤ 50 by omega)]
    rfl
theorem few34_calls (name : ByteArray) (ver : Int) (A IA : Option Addr) (c ci ni : Nat) (l : List FS) (w : World) (hr : Kd.C L.k32 w A l.length l) (hc : l.length ≤ c) :
    Calls Tryd.prog 18 #[.agg #[.string name, .int .i64 ver, .slice A l.length c], .slice IA ni ci] w fun e w' => e = .returned (.bool ((decide (l.length ≤ 50) && decide (name.size ≤ 60)) && decide (ni ≤ 6))) ∧ Below w.heap.size w w' := by
  have hB := below_allocs w (.cells #[.string name, .int .i64 ver, .slice A l.length c] 24)
  have HF := Lib.hid (few_calls4 name ver A c l _ (Kd.C_below hr hB) hc)
  have HB := Lib.hid hB
  obtain ⟨q, hq⟩ : ∃ q, (decide (l.length ≤ 50) && decide (name.size ≤ 60)) = q := ⟨_, rfl⟩
  rw [hq] at HF ⊢
  clear hr hc hB hq
  by_cases hni : ni ≤ 6
  · have hn : decide ((ni : Int) ≤ 6) = true := decide_eq_true (by omega)
    rw [decide_eq_true hni]
    go_enter Tryd.func18, Tryd.ntmps18
    go_wp2_with fail
    refine HF.out.mono ?_
    rintro e w1 ⟨rfl, hb⟩
    have HB1 := Lib.hid (below_step HB.out hb)
    clear hb
    cases q with
    | true =>
      go_wp2_with fail
      go_ret
      exact ⟨rfl, HB1.out⟩
    | false =>
      go_wp2_with fail
      go_ret
      exact ⟨rfl, HB1.out⟩
  · have hn : decide ((ni : Int) ≤ 6) = false := decide_eq_false (by omega)
    rw [decide_eq_false hni, Bool.and_false]
    go_enter Tryd.func18, Tryd.ntmps18
    go_wp2_with fail
    refine HF.out.mono ?_
    rintro e w1 ⟨rfl, hb⟩
    have HB1 := Lib.hid (below_step HB.out hb)
    clear hb
    cases q with
    | true =>
      go_wp2_with fail
      go_ret
      exact ⟨rfl, HB1.out⟩
    | false =>
      go_wp2_with fail
      go_ret
      exact ⟨rfl, HB1.out⟩
theorem run_at {name : ByteArray} {ver : Int} {A IA : Option Addr} {c ci : Nat} {l ins : List FS} {bud v0 v1 v2 v3 u er : Int} (h : runE name.data.toList ver l ins.length (pixI ins) bud = ([v0, v1, v2, v3], u, er)) (w : World) (hr : Kd.C L.k32 w A l.length l) (hI : Kd.C L.k32 w IA ins.length ins) (hT : LogicTab w) :
    Calls Tryd.prog 19 #[.agg #[.string name, .int .i64 ver, .slice A l.length c], .slice IA ins.length ci, .int .i64 bud] w fun e w' => e = .returned (.tuple #[.agg #[.int .i64 v0, .int .i64 v1, .int .i64 v2, .int .i64 v3], .int .i64 u, .int .i64 er]) ∧ Below w.heap.size w w' := by
  refine (run_calls name ver A IA c ci l ins bud w hr hI hT).mono ?_
  rintro e w' ⟨x0, x1, x2, x3, hx, rfl, hb⟩
  rw [h] at hx ⊢
  injection hx with e0 hx
  injection hx with e1 hx
  injection hx with e2 hx
  injection hx with e3 _
  subst e0
  subst e1
  subst e2
  subst e3
  exact ⟨rfl, hb⟩
theorem full_at {name : ByteArray} {ver : Int} {A IA : Option Addr} {c ci : Nat} {l ins : List FS} {b0 b1 b2 b3 : Bool} {er : Int} (h : fullE name.data.toList ver l ins.length (pixI ins) = ([b0, b1, b2, b3], er)) (w : World) (hr : Kd.C L.k32 w A l.length l) (hI : Kd.C L.k32 w IA ins.length ins) (hT : LogicTab w) (hl : l.length ≤ 1000000) :
    Calls Tryd.prog 20 #[.agg #[.string name, .int .i64 ver, .slice A l.length c], .slice IA ins.length ci] w fun e w' => e = .returned (.tuple #[.agg #[.bool b0, .bool b1, .bool b2, .bool b3], .int .i64 er]) ∧ Below w.heap.size w w' := by
  refine (full_calls name ver A IA c ci l ins w hr hI hT hl).mono ?_
  rintro e w' ⟨x0, x1, x2, x3, hx, rfl, hb⟩
  rw [h] at hx ⊢
  injection hx with e0 hx
  injection hx with e1 hx
  injection hx with e2 hx
  injection hx with e3 _
  subst e0
  subst e1
  subst e2
  subst e3
  exact ⟨rfl, hb⟩
theorem enough_letters {RA RC : List Int × Int × Int} {RB : List Bool × Int}
    (h : (RA = ([0, 0, 0, 0], 0, 1) ∧ RB = ([false, false, false, false], 1) ∧ RC = ([0, 0, 0, 0], 0, 1)) ∨ (RA = ([0, 0, 0, 0], 0, 9) ∧ RB = ([false, false, false, false], 9) ∧ RC = ([2, 2, 2, 2], 0, 0)) ∨
      (∃ a0 a1 a2 a3 u : Int, Bit2 a0 ∧ Bit2 a1 ∧ Bit2 a2 ∧ Bit2 a3 ∧ RA = ([a0, a1, a2, a3], u, 0) ∧ RB = ([a0 == 1, a1 == 1, a2 == 1, a3 == 1], 0) ∧ RC = ([2, 2, 2, 2], 0, 0))) :
    ∃ (a0 a1 a2 a3 au e1 : Int) (b0 b1 b2 b3 : Bool) (e2 c0 c1 c2 c3 e3 : Int), Hid (RA = ([a0, a1, a2, a3], au, e1)) ∧ Hid (RB = ([b0, b1, b2, b3], e2)) ∧ Hid (RC = ([c0, c1, c2, c3], 0, e3)) ∧
      Hid ((1 = e1 ∧ 1 = e2 ∧ 1 = e3 ∧ false = b0 ∧ false = b1 ∧ false = b2 ∧ false = b3 ∧ 0 = au) ∨ (9 = e1 ∧ 9 = e2 ∧ 0 = e3 ∧ false = b0 ∧ false = b1 ∧ false = b2 ∧ false = b3 ∧ 2 = c0 ∧ 2 = c1 ∧ 2 = c2 ∧ 2 = c3 ∧ 0 = au) ∨
        (0 = e1 ∧ 0 = e2 ∧ 0 = e3 ∧ 2 = c0 ∧ 2 = c1 ∧ 2 = c2 ∧ 2 = c3 ∧ Bit2 a0 ∧ Bit2 a1 ∧ Bit2 a2 ∧ Bit2 a3 ∧ (a0 == 1) = b0 ∧ (a1 == 1) = b1 ∧ (a2 == 1) = b2 ∧ (a3 == 1) = b3)) := by
  rcases h with ⟨rfl, rfl, rfl⟩ | ⟨rfl, rfl, rfl⟩ | ⟨a0, a1, a2, a3, u, h0, h1, h2, h3, rfl, rfl, rfl⟩
  · exact ⟨_, _, _, _, _, _, _, _, _, _, _, _, _, _, _, _, Lib.hid rfl, Lib.hid rfl, Lib.hid rfl, Lib.hid (Or.inl ⟨rfl, rfl, rfl, rfl, rfl, rfl, rfl, rfl⟩)⟩
  · exact ⟨_, _, _, _, _, _, _, _, _, _, _, _, _, _, _, _, Lib.hid rfl, Lib.hid rfl, Lib.hid rfl, Lib.hid (Or.inr (Or.inl ⟨rfl, rfl, rfl, rfl, rfl, rfl, rfl, rfl, rfl, rfl, rfl, rfl⟩))⟩
  · exact ⟨_, _, _, _, _, _, _, _, _, _, _, _, _, _, _, _, Lib.hid rfl, Lib.hid rfl, Lib.hid rfl, Lib.hid (Or.inr (Or.inr ⟨rfl, rfl, rfl, rfl, rfl, rfl, rfl, h0, h1, h2, h3, rfl, rfl, rfl, rfl⟩))⟩
end Go.Proofs.YtamabdijeklgjaaDoor.Ext
