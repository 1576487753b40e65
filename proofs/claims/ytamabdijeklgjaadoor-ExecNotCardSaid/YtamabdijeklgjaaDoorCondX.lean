/- What exec's table holds at the call's begin. -/
import Derived.Test.YtamabdijeklgjaaDoorCond
import Derived.Test.YtamabdijeklgjaaDoorExecB
import Derived.Lib.LaidU8
namespace Go.Proofs.YtamabdijeklgjaaDoor.Ext
open Go Go.Proofs Go.RowKit Go.Proofs.YtamabdijeklgjaaDoorW.PrintWords

theorem gLog : Tryd.prog.globalNamed "observatory/exec.logic" = some 0 := by kernel_rfl
theorem tLog : (Tryd.prog.globals[0]?).map (·.type) = some 106 := by kernel_rfl
theorem cL2 : Tryd.prog.cellsOf 105 = 9 := by kernel_rfl
theorem cL1 : Tryd.prog.cellsOf 74 = 3 := by kernel_rfl
theorem cell3 {W : World} {fuel : Nat} {cs : List Value} {ds ds1 ds2 : List (DataW Unit)} {p : List MemPlace} (hd : DataW.trod (fun _ => ()) Tryd.prog W 0 (fun _ => true) false fuel 106 cs = some (.agg ds, p)) (a b c : Nat) (ha : a < 3) (hb : b < 3) (hc : c < 3) {n : Int}
    (h1 : ds[a]? = some (.agg ds1)) (h2 : ds1[b]? = some (.agg ds2)) (h3 : ds2[c]? = some (.lit (.int .i64 n))) : cs[a * 9 + b * 3 + c]? = some (.int .i64 n) := by
  obtain ⟨f1, d1, q1, e1, t1⟩ := Lib.array_elem Tryd.underlying106 hd a ha
  rw [h1] at e1
  obtain rfl := Option.some.inj e1
  obtain ⟨f2, d2, q2, e2, t2⟩ := Lib.array_elem Tryd.underlying105 t1 b hb
  rw [h2] at e2
  obtain rfl := Option.some.inj e2
  obtain ⟨f3, d3, q3, e3, t3⟩ := Lib.array_elem Tryd.underlying74 t2 c hc
  rw [h3] at e3
  obtain rfl := Option.some.inj e3
  rw [cL2, cL1, c_int] at t3
  obtain ⟨m, hm, hx, _⟩ := DataW.trod_int Tryd.underlying3 t3
  have hnm : m = n := by
    have := congrArg Prod.fst hx
    injection this with this
    injection this with _ this
    exact this.symm
  subst hnm
  have e0 := congrArg (·[0]?) hm
  simp only [List.getElem?_take, List.getElem?_drop] at e0
  rw [if_pos (by omega), if_pos (by omega), if_pos (by omega)] at e0
  rw [show a * 9 + b * 3 + c = a * 9 + (b * 3 + (c * 1 + 0)) by omega]
  exact e0
theorem logic_at {W : World} (h : Lib.VarReads Tryd.prog W "observatory/exec.logic" Rows.laid_observatory_exec_logic) : LogicTab W := by
  obtain ⟨g', t', cs, fuel, p, hg', ht', hvar, hd⟩ := h
  obtain rfl := Option.some.inj (gLog.symm.trans hg')
  obtain rfl := Option.some.inj (tLog.symm.trans ht')
  have key : ∀ i v, logicT[i]? = some v → W.cell? ⟨0, i, none⟩ = some (.int .i64 v) := by
    intro i v hv
    rw [World.var?_cell gLog hvar i, ← Array.getElem?_toList]
    match i, hv with
    | 0, hv =>
      obtain rfl : (0 : Int) = v := by simpa [logicT] using hv
      exact cell3 hd 0 0 0 (by decide) (by decide) (by decide) rfl rfl rfl
    | 1, hv =>
      obtain rfl : (0 : Int) = v := by simpa [logicT] using hv
      exact cell3 hd 0 0 1 (by decide) (by decide) (by decide) rfl rfl rfl
    | 2, hv =>
      obtain rfl : (0 : Int) = v := by simpa [logicT] using hv
      exact cell3 hd 0 0 2 (by decide) (by decide) (by decide) rfl rfl rfl
    | 3, hv =>
      obtain rfl : (0 : Int) = v := by simpa [logicT] using hv
      exact cell3 hd 0 1 0 (by decide) (by decide) (by decide) rfl rfl rfl
    | 4, hv =>
      obtain rfl : (1 : Int) = v := by simpa [logicT] using hv
      exact cell3 hd 0 1 1 (by decide) (by decide) (by decide) rfl rfl rfl
    | 5, hv =>
      obtain rfl : (2 : Int) = v := by simpa [logicT] using hv
      exact cell3 hd 0 1 2 (by decide) (by decide) (by decide) rfl rfl rfl
    | 6, hv =>
      obtain rfl : (0 : Int) = v := by simpa [logicT] using hv
      exact cell3 hd 0 2 0 (by decide) (by decide) (by decide) rfl rfl rfl
    | 7, hv =>
      obtain rfl : (2 : Int) = v := by simpa [logicT] using hv
      exact cell3 hd 0 2 1 (by decide) (by decide) (by decide) rfl rfl rfl
    | 8, hv =>
      obtain rfl : (2 : Int) = v := by simpa [logicT] using hv
      exact cell3 hd 0 2 2 (by decide) (by decide) (by decide) rfl rfl rfl
    | 9, hv =>
      obtain rfl : (0 : Int) = v := by simpa [logicT] using hv
      exact cell3 hd 1 0 0 (by decide) (by decide) (by decide) rfl rfl rfl
    | 10, hv =>
      obtain rfl : (1 : Int) = v := by simpa [logicT] using hv
      exact cell3 hd 1 0 1 (by decide) (by decide) (by decide) rfl rfl rfl
    | 11, hv =>
      obtain rfl : (2 : Int) = v := by simpa [logicT] using hv
      exact cell3 hd 1 0 2 (by decide) (by decide) (by decide) rfl rfl rfl
    | 12, hv =>
      obtain rfl : (1 : Int) = v := by simpa [logicT] using hv
      exact cell3 hd 1 1 0 (by decide) (by decide) (by decide) rfl rfl rfl
    | 13, hv =>
      obtain rfl : (1 : Int) = v := by simpa [logicT] using hv
      exact cell3 hd 1 1 1 (by decide) (by decide) (by decide) rfl rfl rfl
    | 14, hv =>
      obtain rfl : (1 : Int) = v := by simpa [logicT] using hv
      exact cell3 hd 1 1 2 (by decide) (by decide) (by decide) rfl rfl rfl
    | 15, hv =>
      obtain rfl : (2 : Int) = v := by simpa [logicT] using hv
      exact cell3 hd 1 2 0 (by decide) (by decide) (by decide) rfl rfl rfl
    | 16, hv =>
      obtain rfl : (1 : Int) = v := by simpa [logicT] using hv
      exact cell3 hd 1 2 1 (by decide) (by decide) (by decide) rfl rfl rfl
    | 17, hv =>
      obtain rfl : (2 : Int) = v := by simpa [logicT] using hv
      exact cell3 hd 1 2 2 (by decide) (by decide) (by decide) rfl rfl rfl
    | 18, hv =>
      obtain rfl : (1 : Int) = v := by simpa [logicT] using hv
      exact cell3 hd 2 0 0 (by decide) (by decide) (by decide) rfl rfl rfl
    | 19, hv =>
      obtain rfl : (1 : Int) = v := by simpa [logicT] using hv
      exact cell3 hd 2 0 1 (by decide) (by decide) (by decide) rfl rfl rfl
    | 20, hv =>
      obtain rfl : (1 : Int) = v := by simpa [logicT] using hv
      exact cell3 hd 2 0 2 (by decide) (by decide) (by decide) rfl rfl rfl
    | 21, hv =>
      obtain rfl : (0 : Int) = v := by simpa [logicT] using hv
      exact cell3 hd 2 1 0 (by decide) (by decide) (by decide) rfl rfl rfl
    | 22, hv =>
      obtain rfl : (0 : Int) = v := by simpa [logicT] using hv
      exact cell3 hd 2 1 1 (by decide) (by decide) (by decide) rfl rfl rfl
    | 23, hv =>
      obtain rfl : (0 : Int) = v := by simpa [logicT] using hv
      exact cell3 hd 2 1 2 (by decide) (by decide) (by decide) rfl rfl rfl
    | 24, hv =>
      obtain rfl : (2 : Int) = v := by simpa [logicT] using hv
      exact cell3 hd 2 2 0 (by decide) (by decide) (by decide) rfl rfl rfl
    | 25, hv =>
      obtain rfl : (2 : Int) = v := by simpa [logicT] using hv
      exact cell3 hd 2 2 1 (by decide) (by decide) (by decide) rfl rfl rfl
    | 26, hv =>
      obtain rfl : (2 : Int) = v := by simpa [logicT] using hv
      exact cell3 hd 2 2 2 (by decide) (by decide) (by decide) rfl rfl rfl
    | n + 27, hv => simp [logicT] at hv
  exact ⟨World.block_lt_of_cell? W _ (key 0 0 rfl), key⟩
theorem logic_of {W : World} (h : laidMetH Tryd.prog laidX W) : LogicTab W := by
  rw [MakeChecks.laidMetH_plain _ _ _ (by kernel_rfl)] at h
  exact logic_at (Lib.laidMet.reads h (.tail _ (.tail _ (.tail _ (.tail _ (.tail _ (.head _)))))))
end Go.Proofs.YtamabdijeklgjaaDoor.Ext
