/- exec.Full, walked. -/
import Derived.Test.YtamabdijeklgjaaDoorExecE
namespace Go.Proofs.YtamabdijeklgjaaDoor.Ext
open Go Go.Proofs Go.RowKit Go.Proofs.YtamabdijeklgjaaDoorW.PrintWords
set_option linter.unusedVariables false
set_option linter.unusedSimpArgs false

theorem full_results (w : World) (q : Nat) (x0 x1 x2 x3 : Value) (er : Int) (tmps : Array Value) (h : w.heap[q]? = some (.cells #[x0, x1, x2, x3] 48 (0, 0)))
    (t4 : tmps.getD 4 undef = .pointer (some ⟨q, 0, none⟩)) (t5 : tmps.getD 5 undef = .int .i64 er) :
    (results Tryd.f20 tmps).run Tryd.prog w = .ok (.tuple #[.agg #[x0, x1, x2, x3], .int .i64 er]) w := by
  have hr : Tryd.f20.results = [ResultVar.cell 4 48, ResultVar.tmp 5].toArray := rfl
  have e0 := run_loadVar_row (P := Tryd.prog) w q 48 48 #[x0, x1, x2, x3] (0, 0) _ h Tryd.underlying48 rfl (by kernel_rfl)
  unfold results
  rw [hr, List.mapM_toArray]
  simp only [Sem.run_bind, Sem.run_map]
  rw [Array.getD_eq_getD_getElem?] at t4 t5
  simp [List.mapM_cons, t4, t5, asAddr, e0]
/-- exec.Full -/
def fullE (name : List UInt8) (ver : Int) (l : List FS) (ni : Nat) (I : List Int) : List Bool × Int :=
  if (runE name ver l ni I (4 * (l.length : Int))).2.2 = 0 then ((runE name ver l ni I (4 * (l.length : Int))).1.map (· == 1), 0) else ([false, false, false, false], (runE name ver l ni I (4 * (l.length : Int))).2.2)
def FullPost (w : World) (r : List Bool × Int) (e : Ending) (w' : World) : Prop :=
  ∃ b0 b1 b2 b3 : Bool, r.1 = [b0, b1, b2, b3] ∧ e = .returned (.tuple #[.agg #[.bool b0, .bool b1, .bool b2, .bool b3], .int .i64 r.2]) ∧ Below w.heap.size w w'
def maskV (q0 q1 q2 q3 : Bool) (n : Nat) : Array Value := #[.bool (decide (0 < n) && q0), .bool (decide (1 < n) && q1), .bool (decide (2 < n) && q2), .bool (decide (3 < n) && q3)]
set_option maxRecDepth 100000 in
set_option maxHeartbeats 4000000 in
theorem full_calls (name : ByteArray) (ver : Int) (A IA : Option Addr) (c ci : Nat) (l ins : List FS) (w : World) (hr : Kd.C L.k32 w A l.length l) (hI : Kd.C L.k32 w IA ins.length ins) (hT : LogicTab w) (hl : l.length ≤ 1000000) :
    Calls Tryd.prog 20 #[.agg #[.string name, .int .i64 ver, .slice A l.length c], .slice IA ins.length ci] w (FullPost w (fullE name.data.toList ver l ins.length (pixI ins))) := by
  have hB := below_alloc (below_allocs w (.cells #[.string name, .int .i64 ver, .slice A l.length c] 24)) (.cells #[.bool false, .bool false, .bool false, .bool false] 48)
  have HV := Lib.hid (run_calls name ver A IA c ci l ins (4 * (l.length : Int)) ((w.alloc (.cells #[.string name, .int .i64 ver, .slice A l.length c] 24)).alloc (.cells #[.bool false, .bool false, .bool false, .bool false] 48)) (Kd.C_below hr hB) (Kd.C_below hI hB) (hT.below hB))
  have HZ := Lib.hid (blk_two w (.cells #[.string name, .int .i64 ver, .slice A l.length c] 24) #[.bool false, .bool false, .bool false, .bool false] 48)
  have HB := Lib.hid hB
  obtain ⟨Q, hQ⟩ : ∃ Q, fullE name.data.toList ver l ins.length (pixI ins) = Q := ⟨_, rfl⟩
  rw [hQ]
  unfold fullE at hQ
  obtain ⟨⟨rv, ru, re⟩, hRR⟩ : ∃ R, runE name.data.toList ver l ins.length (pixI ins) (4 * (l.length : Int)) = R := ⟨_, rfl⟩
  rw [hRR] at HV hQ
  have HQ := Lib.hid hQ
  have hwz : w.heap.size ≤ w.heap.size + 1 := Nat.le_succ _
  clear hr hI hT hB hQ hRR
  go_enter Tryd.func20, Tryd.ntmps20
  go_wp2_with fail
  refine HV.out.mono ?_
  rintro e w1 ⟨v0, v1, v2, v3, hv, rfl, hb⟩
  have hv' : rv = [v0, v1, v2, v3] := hv
  subst hv'
  have HB1 := Lib.hid (below_step HB.out hb)
  have HZ1 := Lib.hid (blk_below HZ.out hb)
  clear hb HV HZ HB hv
  simp only at HQ ⊢
  by_cases hre : re = 0
  · subst hre
    have HQ2 : Hid (Q = ([v0 == 1, v1 == 1, v2 == 1, v3 == 1], 0)) := Lib.hid (by rw [← HQ.out]; rfl)
    clear HQ
    obtain ⟨q0, h0⟩ : ∃ q, (v0 == 1) = q := ⟨_, rfl⟩
    obtain ⟨q1, h1⟩ : ∃ q, (v1 == 1) = q := ⟨_, rfl⟩
    obtain ⟨q2, h2⟩ : ∃ q, (v2 == 1) = q := ⟨_, rfl⟩
    obtain ⟨q3, h3⟩ : ∃ q, (v3 == 1) = q := ⟨_, rfl⟩
    rw [h0, h1, h2, h3] at HQ2
    have H0 := Lib.hid h0
    have H1 := Lib.hid h1
    have H2 := Lib.hid h2
    have H3 := Lib.hid h3
    clear h0 h1 h2 h3
    go_wp2_with fail
    have HL := Lib.hid (blk_alloc (blk_new w1 (.cells #[.int .i64 v0, .int .i64 v1, .int .i64 v2, .int .i64 v3] 44)) (.cells #[.bool false, .bool false, .bool false, .bool false] 48))
    have HM := Lib.hid (blk_two w1 (.cells #[.int .i64 v0, .int .i64 v1, .int .i64 v2, .int .i64 v3] 44) #[.bool false, .bool false, .bool false, .bool false] 48)
    have HZ2 := Lib.hid (blk_alloc (blk_alloc HZ1.out (.cells #[.int .i64 v0, .int .i64 v1, .int .i64 v2, .int .i64 v3] 44)) (.cells #[.bool false, .bool false, .bool false, .bool false] 48))
    have HB2 := Lib.hid (below_alloc (below_alloc HB1.out (.cells #[.int .i64 v0, .int .i64 v1, .int .i64 v2, .int .i64 v3] 44)) (.cells #[.bool false, .bool false, .bool false, .bool false] 48))
    have hzl : w.heap.size + 1 < w1.heap.size := blk_lt HZ1.out
    clear HZ1 HB1
    generalize (w1.alloc (.cells #[.int .i64 v0, .int .i64 v1, .int .i64 v2, .int .i64 v3] 44)).alloc (.cells #[.bool false, .bool false, .bool false, .bool false] 48) = W at HL HM HZ2 HB2 ⊢
    generalize w1.heap.size = lB at HL HM hzl ⊢
    go_loopg [26] 4 (fun g v26 wx => ∃ cc : Nat, cc + g = 4 ∧ v26 = .int .i64 cc ∧ Hid (wx.heap[lB]? = some (.cells #[.int .i64 v0, .int .i64 v1, .int .i64 v2, .int .i64 v3] 44 (0, 0))) ∧ Hid (wx.heap[lB + 1]? = some (.cells (maskV q0 q1 q2 q3 cc) 48 (0, 0))) ∧ Hid (wx.heap[w.heap.size + 1]? = some (.cells #[.bool false, .bool false, .bool false, .bool false] 48 (0, 0))) ∧ Hid (Below w.heap.size w wx))
    case atStart => exact ⟨0, rfl, rfl, HL, HM, HZ2, HB2⟩
    case round =>
      obtain ⟨cc, hcg, rfl, HLx, HMx, HZx, HBx⟩ := hrel
      clear HL HM HZ2 HB2
      have n1 : lB ≠ lB + 1 := by omega
      have n2 : w.heap.size + 1 ≠ lB + 1 := by omega
      have n3 : lB + 1 ≠ w.heap.size + 1 := by omega
      have n4 : w.heap.size ≠ lB := by omega
      have n5 : lB ≠ w.heap.size := by omega
      have hwm : w.heap.size ≤ lB + 1 := by omega
      have c0 := blk_cell HLx.out 0
      have c1 := blk_cell HLx.out 1
      have c2 := blk_cell HLx.out 2
      have c3 := blk_cell HLx.out 3
      have m0 := blk_cell HMx.out 0
      have m1 := blk_cell HMx.out 1
      have m2 := blk_cell HMx.out 2
      have m3 := blk_cell HMx.out 3
      have g0 := blk_frozen HMx.out 0
      have g1 := blk_frozen HMx.out 1
      have g2 := blk_frozen HMx.out 2
      have g3 := blk_frozen HMx.out 3
      unfold maskV at m0 m1 m2 m3
      cases gk with
      | zero =>
        obtain rfl : cc = 4 := by omega
        have z0 := blk_cell HZx.out 0
        have z1 := blk_cell HZx.out 1
        have z2 := blk_cell HZx.out 2
        have z3 := blk_cell HZx.out 3
        have y0 := blk_frozen HZx.out 0
        have y1 := blk_frozen HZx.out 1
        have y2 := blk_frozen HZx.out 2
        have y3 := blk_frozen HZx.out 3
        go_wp2_with fail
        refine bodyPost_ret (full_results _ (w.heap.size + 1) (.bool q0) (.bool q1) (.bool q2) (.bool q3) 0 _ (blk_put (blk_put (blk_put (blk_put HZx.out 0 _ rfl) 1 _ rfl) 2 _ rfl) 3 _ rfl) rfl rfl) rfl ?_
        rw [HQ2.out]
        exact ⟨q0, q1, q2, q3, rfl, rfl, below_set (below_set (below_set (below_set HBx.out _ _ hwz) _ _ hwz) _ _ hwz) _ _ hwz⟩
      | succ g =>
        have hcs : cc = 0 ∨ cc = 1 ∨ cc = 2 ∨ cc = 3 := by omega
        rcases hcs with rfl | rfl | rfl | rfl
        · have hh := H0.out
          go_wp2_with fail
          go_roundg g
          case measure => omega
          case rel => exact ⟨1, by omega, by go_num, Lib.hid (blk_far (i := 0) (v := .bool q0) HLx.out n1.symm), Lib.hid (blk_put HMx.out 0 (.bool q0) rfl), Lib.hid (blk_far (i := 0) (v := .bool q0) HZx.out n3), Lib.hid (below_set HBx.out _ _ hwm)⟩
        · have hh := H1.out
          go_wp2_with fail
          go_roundg g
          case measure => omega
          case rel => exact ⟨2, by omega, by go_num, Lib.hid (blk_far (i := 1) (v := .bool q1) HLx.out n1.symm), Lib.hid (blk_put HMx.out 1 (.bool q1) rfl), Lib.hid (blk_far (i := 1) (v := .bool q1) HZx.out n3), Lib.hid (below_set HBx.out _ _ hwm)⟩
        · have hh := H2.out
          go_wp2_with fail
          go_roundg g
          case measure => omega
          case rel => exact ⟨3, by omega, by go_num, Lib.hid (blk_far (i := 2) (v := .bool q2) HLx.out n1.symm), Lib.hid (blk_put HMx.out 2 (.bool q2) rfl), Lib.hid (blk_far (i := 2) (v := .bool q2) HZx.out n3), Lib.hid (below_set HBx.out _ _ hwm)⟩
        · have hh := H3.out
          go_wp2_with fail
          go_roundg g
          case measure => omega
          case rel => exact ⟨4, by omega, by go_num, Lib.hid (blk_far (i := 3) (v := .bool q3) HLx.out n1.symm), Lib.hid (blk_put HMx.out 3 (.bool q3) rfl), Lib.hid (blk_far (i := 3) (v := .bool q3) HZx.out n3), Lib.hid (below_set HBx.out _ _ hwm)⟩
  · have HQ2 : Hid (Q = ([false, false, false, false], re)) := Lib.hid (by rw [← HQ.out, if_neg hre])
    have e0 : (re == 0) = false := by simpa using hre
    have e1 : (re != 0) = true := by simpa using hre
    have z0 := blk_cell HZ1.out 0
    have z1 := blk_cell HZ1.out 1
    have z2 := blk_cell HZ1.out 2
    have z3 := blk_cell HZ1.out 3
    have y0 := blk_frozen HZ1.out 0
    have y1 := blk_frozen HZ1.out 1
    have y2 := blk_frozen HZ1.out 2
    have y3 := blk_frozen HZ1.out 3
    have hzl : w.heap.size + 1 < w1.heap.size := blk_lt HZ1.out
    clear HQ hre
    go_wp2_with fail
    refine bodyPost_ret (full_results _ (w.heap.size + 1) (.bool false) (.bool false) (.bool false) (.bool false) re _ (blk_alloc (blk_put (blk_put (blk_put (blk_put HZ1.out 0 _ rfl) 1 _ rfl) 2 _ rfl) 3 _ rfl) _) rfl rfl) rfl ?_
    rw [HQ2.out]
    exact ⟨false, false, false, false, rfl, rfl, below_alloc (below_set (below_set (below_set (below_set HB1.out _ _ hwz) _ _ hwz) _ _ hwz) _ _ hwz) _⟩
end Go.Proofs.YtamabdijeklgjaaDoor.Ext
