/- exec's runner: step, walked. -/
import Derived.Test.YtamabdijeklgjaaDoorExecA
import Derived.Test.YtamabdijeklgjaaDoorGj
namespace Go.Proofs.YtamabdijeklgjaaDoor.Ext
open Go Go.Proofs Go.RowKit Go.Proofs.YtamabdijeklgjaaDoorW.PrintWords
set_option linter.unusedVariables false
set_option linter.unusedSimpArgs false

theorem blk_two (w : World) (o : Obj) (cs : Array Value) (t : TypeId) : ((w.alloc o).alloc (.cells cs t)).heap[w.heap.size + 1]? = some (.cells cs t (0, 0)) := by
  have := blk_new (w.alloc o) (.cells cs t)
  rw [World.size_alloc] at this
  exact this
theorem below_grown {w w' : World} (hb : Below w.heap.size w w') (r : Option Nat) : w.grownBy w' r := ⟨hb.os, hb.tape, hb.output, hb.size, fun k hk _ => hb.block k hk⟩
theorem grown_then {w w1 w2 : World} {row : Option Nat} (h : w.grownBy w1 row) (hb : Below w1.heap.size w1 w2) : w.grownBy w2 row :=
  ⟨hb.os.trans h.os, hb.tape.trans h.tape, hb.output.trans h.output, Nat.le_trans h.size hb.size, fun k hk hr => (hb.block k (Nat.lt_of_lt_of_le hk h.size)).trans (h.block k hk hr)⟩
theorem grown_from {w w1 w2 : World} {row : Option Nat} (hb : Below w.heap.size w w1) (h : w1.grownBy w2 row) : w.grownBy w2 row :=
  ⟨h.os.trans hb.os, h.tape.trans hb.tape, h.output.trans hb.output, Nat.le_trans hb.size h.size, fun k hk hr => (h.block k (Nat.lt_of_lt_of_le hk hb.size) hr).trans (hb.block k hk)⟩
theorem bit3_nat {v : Int} (h : Bit3 v) : ∃ x : Nat, v = (x : Int) ∧ x < 3 := by
  rcases h with rfl | rfl | rfl
  · exact ⟨0, rfl, by omega⟩
  · exact ⟨1, rfl, by omega⟩
  · exact ⟨2, rfl, by omega⟩
def logicT : List Int := [0, 0, 0, 0, 1, 2, 0, 2, 2, 0, 1, 2, 1, 1, 1, 2, 1, 2, 1, 1, 1, 0, 0, 0, 2, 2, 2]
/-- the package's table of the logical operators -/
def LogicTab (w : World) : Prop := 0 < w.heap.size ∧ ∀ i v, logicT[i]? = some v → w.cell? ⟨0, i, none⟩ = some (.int .i64 v)
theorem LogicTab.below {w w' : World} (h : LogicTab w) (hb : Below w.heap.size w w') : LogicTab w' := ⟨Nat.lt_of_lt_of_le h.1 hb.size, fun i v hv => (hb.cell (p := ⟨0, i, none⟩) h.1).trans (h.2 i v hv)⟩
theorem LogicTab.grown {w w' : World} {r : Nat} (h : LogicTab w) (hg : w.grownBy w' (some r)) (hr : r ≠ 0) : LogicTab w' :=
  ⟨Nat.lt_of_lt_of_le h.1 hg.size, fun i v hv => by
    have hb := hg.block 0 h.1 (fun e => hr (by injection e with e; exact e.symm))
    have := h.2 i v hv
    unfold World.cell? at this ⊢
    simp only at this ⊢
    rw [hb]
    exact this⟩
theorem logic_and {a b : Nat} (ha : a < 3) (hb : b < 3) : logicT[a * 3 + b]? = some (logicE 8 a b) := by
  have : ∀ a ∈ List.range 3, ∀ b ∈ List.range 3, logicT[a * 3 + b]? = some (logicE 8 a b) := by decide
  exact this a (by simpa using ha) b (by simpa using hb)
theorem logic_or {a b : Nat} (ha : a < 3) (hb : b < 3) : logicT[9 + a * 3 + b]? = some (logicE 9 a b) := by
  have : ∀ a ∈ List.range 3, ∀ b ∈ List.range 3, logicT[9 + a * 3 + b]? = some (logicE 9 a b) := by decide
  exact this a (by simpa using ha) b (by simpa using hb)
theorem logic_not {a : Nat} (b : Int) (ha : a < 3) : logicT[18 + a * 3 + a]? = some (logicE 10 a b) := by
  have h : ∀ a ∈ List.range 3, logicT[18 + a * 3 + a]? = some (if (a : Int) = 0 then 1 else if (a : Int) = 1 then 0 else 2) := by decide
  exact h a (by simpa using ha)
/-- the runner in memory -/
structure RunAt (w : World) (rB vB bi oi ci n : Nat) (bud used : Int) (V I : List Int) : Prop where
  r : w.heap[rB]? = some (.cells (runCells (.slice (some ⟨bi, oi, none⟩) 4 ci) vB n bud used) 81 (0, 0))
  v : w.heap[vB]? = some (.cells (V.map (Value.int .i64)).toArray 44 (0, 0))
  ib : bi < w.heap.size
  i : ∀ k x, I[k]? = some x → w.cell? ⟨bi, oi + k, none⟩ = some (.int .i64 x)
  len : V.length = n * 4
  ilen : I.length = 16
  bnd : ∀ x ∈ V, -1000000000000 ≤ x ∧ x ≤ 1000000000000
  ibnd : ∀ x ∈ I, -1000000000000 ≤ x ∧ x ≤ 1000000000000
  ne : rB ≠ vB
  nei : rB ≠ bi
section
variable {w w' : World} {rB vB bi oi ci n : Nat} {bud used : Int} {V I : List Int}
theorem RunAt.below (h : RunAt w rB vB bi oi ci n bud used V I) (hb : Below w.heap.size w w') : RunAt w' rB vB bi oi ci n bud used V I :=
  ⟨blk_below h.r hb, blk_below h.v hb, Nat.lt_of_lt_of_le h.ib hb.size, fun k x hx => (hb.cell (p := ⟨bi, oi + k, none⟩) h.ib).trans (h.i k x hx), h.len, h.ilen, h.bnd, h.ibnd, h.ne, h.nei⟩
/-- after a payment -/
theorem RunAt.paid (h : RunAt w rB vB bi oi ci n bud used V I) (hg : w.grownBy w' (some rB)) {u : Int} (hr : w'.heap[rB]? = some (.cells (runCells (.slice (some ⟨bi, oi, none⟩) 4 ci) vB n bud u) 81 (0, 0))) : RunAt w' rB vB bi oi ci n bud u V I :=
  ⟨hr, (hg.block vB (blk_lt h.v) (fun e => h.ne (by injection e with e; exact e.symm))).trans h.v, Nat.lt_of_lt_of_le h.ib hg.size, fun k x hx => by
    have hb := hg.block bi h.ib (fun e => h.nei (by injection e with e; exact e.symm))
    have := h.i k x hx
    unfold World.cell? at this ⊢
    simp only at this ⊢
    rw [hb]
    exact this, h.len, h.ilen, h.bnd, h.ibnd, h.ne, h.nei⟩
theorem RunAt.cell (h : RunAt w rB vB bi oi ci n bud used V I) (p : Nat) (hp : p < V.length) : w.cell? ⟨vB, p, none⟩ = some (.int .i64 (V.getD p 0)) := by
  have := blk_cell h.v p
  rw [this]
  rw [List.getD_eq_getElem?_getD, List.getElem?_eq_getElem hp]
  simp [hp]
theorem RunAt.rng (h : RunAt w rB vB bi oi ci n bud used V I) (p : Nat) : -1000000000000 ≤ V.getD p 0 ∧ V.getD p 0 ≤ 1000000000000 := by
  rw [List.getD_eq_getElem?_getD]
  cases e : V[p]? with
  | none => simp
  | some x => exact h.bnd x (List.mem_of_getElem? e)
end
/-- a step's value in a cell, and what is used -/
def valE (I : List Int) (bud : Int) (s : FS) (c : Nat) (x : EX) : Option (Int × Int) :=
  if 8 ≤ s.f0 then some (logicE s.f0 (opA s c x.v) (opB s c x.v), x.used)
  else if bud ≤ x.used then some (2, x.used)
  else if farE (vecE I s c (opA s c x.v) (opB s c x.v)) = true then none
  else some (vecE I s c (opA s c x.v) (opB s c x.v), x.used + 1)
theorem cellE_val (I : List Int) (bud : Int) (s : FS) (i c : Nat) (x : EX) : cellE I bud s i c x = (valE I bud s c x).map fun p => ⟨x.v.set (i * 4 + c) p.1, p.2⟩ := by
  unfold cellE valE
  repeat' split
  all_goals rfl
def StepPost (w : World) (rB vB bi oi ci n : Nat) (bud : Int) (V I : List Int) (r : Option (Int × Int)) (e : Ending) (w' : World) : Prop := match r with
  | none => e = .returned (.tuple #[.int .i64 0, .int .i64 9]) ∧ w.grownBy w' (some rB)
  | some p => e = .returned (.tuple #[.int .i64 p.1, .int .i64 0]) ∧ RunAt w' rB vB bi oi ci n bud p.2 V I ∧ w.grownBy w' (some rB)
set_option maxRecDepth 100000 in
set_option maxHeartbeats 4000000 in
theorem rstep_calls (rB vB bi oi ci n : Nat) (bud used : Int) (V I : List Int) (k a d nn : Int) (i cc : Nat) (ms : List Bool) (m : Bool) (w : World) (h : RunAt w rB vB bi oi ci n bud used V I) (hT : LogicTab w)
    (hsm : stepM ms ⟨k, a, d, nn⟩ = some m) (hml : ms.length = i) (hi : i < n) (hn : n ≤ 40) (hc : cc < 4) (hmask : Msk Bit3 (ms ++ [m]) (i * 4 + cc) V) (hu0 : 0 ≤ used) (hu1 : used ≤ 160) :
    Calls Tryd.prog 34 #[.pointer (some ⟨rB, 0, none⟩), .agg #[.int .i64 k, .int .i64 a, .int .i64 d, .int .i64 nn], .int .i64 cc] w (StepPost w rB vB bi oi ci n bud V I (valE I bud ⟨k, a, d, nn⟩ cc ⟨V, used⟩)) := by
  have hop := (stepM_args hsm).1
  have hN : 0 ≤ nn ∧ nn ≤ (oprOf k).most := ⟨(stepM_args hsm).2.1, (stepM_args hsm).2.2.1⟩
  have hA : 0 ≤ a ∧ a < n := by
    have h1 : okArg (oprOf k) ms 0 a = true := (stepM_args hsm).2.2.2.1
    by_cases h0 : (0 : Int) < (oprOf k).arity
    · have := okArg_lt h1 h0
      omega
    · rcases okArg_yes h1 with ⟨_, h2⟩ | ⟨h2, _⟩
      · omega
      · exact absurd h2 h0
  have hD : 0 ≤ d ∧ d < n := by
    have h1 : okArg (oprOf k) ms 1 d = true := (stepM_args hsm).2.2.2.2
    by_cases h0 : (1 : Int) < (oprOf k).arity
    · have := okArg_lt h1 h0
      omega
    · rcases okArg_yes h1 with ⟨_, h2⟩ | ⟨h2, _⟩
      · omega
      · exact absurd h2 h0
  obtain ⟨a, rfl⟩ := Int.eq_ofNat_of_zero_le hA.1
  obtain ⟨d, rfl⟩ := Int.eq_ofNat_of_zero_le hD.1
  have han : (a : Int) < (n : Int) := hA.2
  have hdn : (d : Int) < (n : Int) := hD.2
  have hcc : (cc : Int) < 4 := by omega
  have hcc0 : (0 : Int) ≤ (cc : Int) := by omega
  have ha0 : (0 : Int) ≤ (a : Int) := by omega
  have hd0 : (0 : Int) ≤ (d : Int) := by omega
  have hVa : a * 4 + cc < V.length := by rw [h.len]; omega
  have hVd : d * 4 + cc < V.length := by rw [h.len]; omega
  have ya := h.cell _ hVa
  have yd := h.cell _ hVd
  have ra := h.rng (a * 4 + cc)
  have rd := h.rng (d * 4 + cc)
  obtain ⟨va, hva⟩ : ∃ va, V.getD (a * 4 + cc) 0 = va := ⟨_, rfl⟩
  obtain ⟨vd, hvd⟩ : ∃ vd, V.getD (d * 4 + cc) 0 = vd := ⟨_, rfl⟩
  rw [hva] at ya ra
  rw [hvd] at yd rd
  have HVA := Lib.hid hva
  have HVD := Lib.hid hvd
  have H := Lib.hid h
  have HT := Lib.hid hT
  have HSM := Lib.hid hsm
  have HML := Lib.hid hml
  have HMK := Lib.hid hmask
  have r1 := blk_cell h.r 1
  unfold runCells at r1
  simp at r1
  have lr := blk_lt h.r
  have lv := blk_lt h.v
  obtain ⟨R, hR⟩ : ∃ R, valE I bud ⟨k, a, d, nn⟩ cc ⟨V, used⟩ = R := ⟨_, rfl⟩
  rw [hR]
  have HR := Lib.hid hR
  clear hva hvd h hT hsm hml hmask hR hA hD hVa hVd
  have BP : (((w.alloc (.cells #[.pointer (some ⟨rB, 0, none⟩)] 78)).alloc (.cells #[.int .i64 k, .int .i64 (a : Nat), .int .i64 (d : Nat), .int .i64 nn] 32)).alloc (.cells #[.int .i64 (cc : Nat)] 3)).heap[w.heap.size]? = some (.cells #[.pointer (some ⟨rB, 0, none⟩)] 78 (0, 0)) := blk_alloc (blk_alloc (blk_new w _) _) _
  have BS : (((w.alloc (.cells #[.pointer (some ⟨rB, 0, none⟩)] 78)).alloc (.cells #[.int .i64 k, .int .i64 (a : Nat), .int .i64 (d : Nat), .int .i64 nn] 32)).alloc (.cells #[.int .i64 (cc : Nat)] 3)).heap[w.heap.size + 1]? = some (.cells #[.int .i64 k, .int .i64 (a : Nat), .int .i64 (d : Nat), .int .i64 nn] 32 (0, 0)) := blk_alloc (blk_two w _ _ _) _
  have BC : (((w.alloc (.cells #[.pointer (some ⟨rB, 0, none⟩)] 78)).alloc (.cells #[.int .i64 k, .int .i64 (a : Nat), .int .i64 (d : Nat), .int .i64 nn] 32)).alloc (.cells #[.int .i64 (cc : Nat)] 3)).heap[w.heap.size + 1 + 1]? = some (.cells #[.int .i64 (cc : Nat)] 3 (0, 0)) := by
    have := blk_two (w.alloc (.cells #[.pointer (some ⟨rB, 0, none⟩)] 78)) (.cells #[.int .i64 k, .int .i64 (a : Nat), .int .i64 (d : Nat), .int .i64 nn] 32) #[.int .i64 (cc : Nat)] 3
    rw [World.size_alloc] at this
    exact this
  have HBW : Below w.heap.size w (((w.alloc (.cells #[.pointer (some ⟨rB, 0, none⟩)] 78)).alloc (.cells #[.int .i64 k, .int .i64 (a : Nat), .int .i64 (d : Nat), .int .i64 nn] 32)).alloc (.cells #[.int .i64 (cc : Nat)] 3)) := below_alloc (below_alloc (below_allocs w _) _) _
  have HSZ : Hid ((((w.alloc (.cells #[.pointer (some ⟨rB, 0, none⟩)] 78)).alloc (.cells #[.int .i64 k, .int .i64 (a : Nat), .int .i64 (d : Nat), .int .i64 nn] 32)).alloc (.cells #[.int .i64 (cc : Nat)] 3)).heap.size = w.heap.size + 3) := Lib.hid (by simp)
  have HBP := Lib.hid BP
  have HBS := Lib.hid BS
  have HBC := Lib.hid BC
  have HBB := Lib.hid HBW
  have q1 := (HBW.cell (p := ⟨rB, 1, none⟩) lr).trans r1
  have q2 := (HBW.cell (p := ⟨vB, a * 4 + cc, none⟩) lv).trans ya
  have q3 := (HBW.cell (p := ⟨vB, d * 4 + cc, none⟩) lv).trans yd
  have q4 := blk_cell BP 0
  have q5 := blk_cell BS 1
  have q6 := blk_cell BS 2
  have q7 := blk_cell BC 0
  clear BP BS BC HBW r1 ya yd
  go_enter Tryd.func34, Tryd.ntmps34
  go_upto_region 1 with fail
  generalize ((w.alloc (.cells #[.pointer (some ⟨rB, 0, none⟩)] 78)).alloc (.cells #[.int .i64 k, .int .i64 (a : Nat), .int .i64 (d : Nat), .int .i64 nn] 32)).alloc (.cells #[.int .i64 (cc : Nat)] 3) = W at q1 q2 q3 q4 q5 q6 q7 HSZ HBP HBS HBC HBB ⊢
  have n1 := World.new_ne W _ q1
  have n2 := World.new_ne W _ q2
  have n3 := World.new_ne W _ q3
  have n4 := World.new_ne W _ q4
  have n5 := World.new_ne W _ q5
  have n6 := World.new_ne W _ q6
  have n7 := World.new_ne W _ q7
  go_cut [8, 9] (fun s8 s9 wx => ∃ p8 p9 : Nat, w.heap.size ≤ p8 ∧ w.heap.size ≤ p9 ∧ s8 = .pointer (some ⟨p8, 0, none⟩) ∧ s9 = .pointer (some ⟨p9, 0, none⟩) ∧ Hid (wx.heap[p8]? = some (.cells #[.int .i64 va] 3 (0, 0))) ∧ Hid (wx.heap[p9]? = some (.cells #[.int .i64 vd] 3 (0, 0))) ∧ Hid (wx.heap[w.heap.size]? = some (.cells #[.pointer (some ⟨rB, 0, none⟩)] 78 (0, 0))) ∧ Hid (wx.heap[w.heap.size + 1]? = some (.cells #[.int .i64 k, .int .i64 (a : Nat), .int .i64 (d : Nat), .int .i64 nn] 32 (0, 0))) ∧ Hid (wx.heap[w.heap.size + 1 + 1]? = some (.cells #[.int .i64 (cc : Nat)] 3 (0, 0))) ∧ Hid (Below w.heap.size w wx))
  case first =>
    go_region_held3 (fun w' => w'.cell? ⟨rB, 1, none⟩ = some (.slice (some ⟨vB, 0, none⟩) n n) ∧ w'.cell? ⟨vB, a * 4 + cc, none⟩ = some (.int .i64 va) ∧ w'.cell? ⟨vB, d * 4 + cc, none⟩ = some (.int .i64 vd) ∧ w'.cell? ⟨w.heap.size, 0, none⟩ = some (.pointer (some ⟨rB, 0, none⟩)) ∧ w'.cell? ⟨w.heap.size + 1, 1, none⟩ = some (.int .i64 (a : Nat)) ∧ w'.cell? ⟨w.heap.size + 1, 2, none⟩ = some (.int .i64 (d : Nat)) ∧ w'.cell? ⟨w.heap.size + 1 + 1, 0, none⟩ = some (.int .i64 (cc : Nat))) (go_keep) (fail)
    all_goals
      go_wp2_with fail
      go_meet
    · exact ⟨W.heap.size, W.heap.size + 1, by have := HSZ.out; omega, by have := HSZ.out; omega, rfl, rfl, Lib.hid (blk_drew (blk_alloc (blk_new W _) _)), Lib.hid (blk_drew (blk_two W _ _ _)), Lib.hid (blk_drew (blk_alloc (blk_alloc HBP.out _) _)), Lib.hid (blk_drew (blk_alloc (blk_alloc HBS.out _) _)), Lib.hid (blk_drew (blk_alloc (blk_alloc HBC.out _) _)), Lib.hid (below_alloc (below_alloc HBB.out _) _).drew⟩
    · exact ⟨W.heap.size + 1, W.heap.size, by have := HSZ.out; omega, by have := HSZ.out; omega, rfl, rfl, Lib.hid (blk_drew (blk_two W _ _ _)), Lib.hid (blk_drew (blk_alloc (blk_new W _) _)), Lib.hid (blk_drew (blk_alloc (blk_alloc HBP.out _) _)), Lib.hid (blk_drew (blk_alloc (blk_alloc HBS.out _) _)), Lib.hid (blk_drew (blk_alloc (blk_alloc HBC.out _) _)), Lib.hid (below_alloc (below_alloc HBB.out _) _).drew⟩
  case rest =>
    obtain ⟨p8, p9, hp8, hp9, rfl, rfl, H8, H9, HP, HS, HC, HB⟩ := hcut
    clear q1 q2 q3 q4 q5 q6 q7 n1 n2 n3 n4 n5 n6 n7 HSZ HBP HBS HBC HBB
    have hopk : isOp k = true := hop
    clear hop
    have HRB := Lib.hid (H.out.below HB.out)
    have HTB := Lib.hid (HT.out.below HB.out)
    have c8 := blk_cell H8.out 0
    have c9 := blk_cell H9.out 0
    have cp := blk_cell HP.out 0
    have s0 := blk_cell HS.out 0
    have s1 := blk_cell HS.out 1
    have s2 := blk_cell HS.out 2
    have s3 := blk_cell HS.out 3
    have cq := blk_cell HC.out 0
    by_cases h8 : 8 ≤ k
    · have hmk2 : Msk Bit3 (ms ++ [m]) (ms.length * 4 + cc) V := by rw [HML.out]; exact HMK.out
      have hba := logic_args HSM.out h8 hc hmk2
      clear hmk2
      have hb1 : Bit3 va := by rw [← HVA.out]; exact hba.1
      have hb2 : k ≤ 9 → Bit3 vd := fun hh => by rw [← HVD.out]; exact hba.2 hh
      have hRR : R = some (logicE k va vd, used) := by
        rw [← HR.out, ← HVA.out, ← HVD.out]
        unfold valE
        rw [if_pos h8]
        rfl
      obtain ⟨x, rfl, hx⟩ := bit3_nat hb1
      have hx1 : (x : Int) < 3 := by omega
      have hx0 : (0 : Int) ≤ (x : Int) := by omega
      have hk : k = 8 ∨ k = 9 ∨ k = 10 := by rcases isOp_cases hopk with h | h | h | h | h | h | h | h | h | h <;> omega
      clear hba hb1
      rcases hk with rfl | rfl | rfl
      · obtain ⟨y, rfl, hy⟩ := bit3_nat (hb2 (by decide))
        have hy1 : (y : Int) < 3 := by omega
        have hy0 : (0 : Int) ≤ (y : Int) := by omega
        have tb := HTB.out.2 _ _ (logic_and hx hy)
        subst hRR
        clear hb2 h8 hopk
        go_wp2_with fail
        go_quiet (fail)
        go_wp2_with fail
        refine bodyPost_ret (results_tmp2 rfl _ _ _) rfl ?_
        exact ⟨rfl, H.out.below (bdr HB.out _), below_grown (bdr HB.out _) _⟩
      · obtain ⟨y, rfl, hy⟩ := bit3_nat (hb2 (by decide))
        have hy1 : (y : Int) < 3 := by omega
        have hy0 : (0 : Int) ≤ (y : Int) := by omega
        have tb := HTB.out.2 _ _ (logic_or hx hy)
        subst hRR
        clear hb2 h8 hopk
        go_wp2_with fail
        go_quiet (fail)
        go_wp2_with fail
        refine bodyPost_ret (results_tmp2 rfl _ _ _) rfl ?_
        exact ⟨rfl, H.out.below (bdr HB.out _), below_grown (bdr HB.out _) _⟩
      · have tb := HTB.out.2 _ _ (logic_not vd hx)
        subst hRR
        clear hb2 h8 hopk
        go_wp2_with fail
        go_quiet (fail)
        go_wp2_with fail
        refine bodyPost_ret (results_tmp2 rfl _ _ _) rfl ?_
        exact ⟨rfl, H.out.below (bdr HB.out _), below_grown (bdr HB.out _) _⟩
    · by_cases hbu : bud ≤ used
      · have hRR : R = some (2, used) := by
          rw [← HR.out]
          unfold valE
          rw [if_neg h8, if_pos hbu]
        subst hRR
        have hk : ¬ k = 8 ∧ ¬ k = 9 ∧ ¬ k = 10 := by omega
        obtain ⟨k8, k9, k10⟩ := hk
        have k8' : (k == 8) = false := by simpa using k8
        have k9' : (k == 9) = false := by simpa using k9
        have k10' : (k == 10) = false := by simpa using k10
        clear h8 hopk k8 k9 k10
        go_wp2_with fail
        refine (pay_no rB vB n _ bud used _ HRB.out.r hbu).mono ?_
        rintro e w2 ⟨rfl, hb⟩
        have HB2 := Lib.hid (below_step HB.out hb)
        clear hb
        go_wp2_with fail
        refine bodyPost_ret (results_tmp2 rfl _ _ _) rfl ?_
        exact ⟨rfl, H.out.below HB2.out, below_grown HB2.out _⟩
      · have hk : ¬ k = 8 ∧ ¬ k = 9 ∧ ¬ k = 10 := by omega
        obtain ⟨k8, k9, k10⟩ := hk
        have k8' : (k == 8) = false := by simpa using k8
        have k9' : (k == 9) = false := by simpa using k9
        have k10' : (k == 10) = false := by simpa using k10
        clear k8 k9 k10
        go_wp2_with fail
        clear k8' k9' k10'
        refine (pay_yes rB vB n _ bud used _ HRB.out.r (by omega) hu0 (by omega)).mono ?_
        rintro e w2 ⟨rfl, hr2, hg2⟩
        have HR2 := Lib.hid (HRB.out.paid hg2 hr2)
        have HG2 := Lib.hid (show w.grownBy w2 (some rB) from grown_from HB.out hg2)
        have ne8 : some p8 ≠ some rB := fun e => by injection e with e; omega
        have ne9 : some p9 ≠ some rB := fun e => by injection e with e; omega
        have neP : some w.heap.size ≠ some rB := fun e => by injection e with e; omega
        have neS : some (w.heap.size + 1) ≠ some rB := fun e => by injection e with e; omega
        have neC : some (w.heap.size + 1 + 1) ≠ some rB := fun e => by injection e with e; omega
        have K8 := Lib.hid (blk_grown H8.out hg2 ne8)
        have K9 := Lib.hid (blk_grown H9.out hg2 ne9)
        have KP := Lib.hid (blk_grown HP.out hg2 neP)
        have KS := Lib.hid (blk_grown HS.out hg2 neS)
        have KC := Lib.hid (blk_grown HC.out hg2 neC)
        clear c8 c9 cp s0 s1 s2 s3 cq H8 H9 HP HS HC hr2 hg2 HRB
        have c8 := blk_cell K8.out 0
        have c9 := blk_cell K9.out 0
        have cp := blk_cell KP.out 0
        have s0 := blk_cell KS.out 0
        have s3 := blk_cell KS.out 3
        have cq := blk_cell KC.out 0
        have l8 := blk_lt K8.out
        have l9 := blk_lt K9.out
        have lP := blk_lt KP.out
        have lS := blk_lt KS.out
        have lC := blk_lt KC.out
        have hk : k = 1 ∨ k = 2 ∨ k = 3 ∨ k = 4 ∨ k = 5 ∨ k = 6 ∨ k = 7 := by rcases isOp_cases hopk with h | h | h | h | h | h | h | h | h | h <;> omega
        rcases hk with rfl | rfl | rfl | rfl | rfl | rfl | rfl
        · clear h8 hopk
          have hN3 : nn ≤ 3 := hN.2
          obtain ⟨q, rfl⟩ := Int.eq_ofNat_of_zero_le hN.1
          have hq4 : q < 4 := by omega
          have hvec : vecE I ⟨1, (a : Nat), (d : Nat), (q : Nat)⟩ cc va vd = I.getD (q * 4 + cc) 0 := by
            unfold vecE
            simp
          obtain ⟨z, hz⟩ : ∃ z : Int, I.getD (q * 4 + cc) 0 = z := ⟨_, rfl⟩
          replace hvec := hvec.trans hz
          obtain ⟨fq, hfq⟩ : ∃ fq, farE z = fq := ⟨_, rfl⟩
          have hRR : R = if fq = true then none else some (z, used + 1) := by
            rw [← HR.out]
            unfold valE
            dsimp only
            rw [if_neg (show ¬ (8 : Int) ≤ 1 by decide), if_neg (show ¬ bud ≤ used by omega)]
            rw [show opA ⟨1, (a : Nat), (d : Nat), (q : Nat)⟩ cc V = va from HVA.out, show opB ⟨1, (a : Nat), (d : Nat), (q : Nat)⟩ cc V = vd from HVD.out, hvec, hfq]
          have hB3 := below_allocs w2 (.cells #[.nilFunc, .func (.func 44) #[] #[.pointer (some ⟨w.heap.size, 0, none⟩), .pointer (some ⟨w.heap.size + 1, 0, none⟩), .pointer (some ⟨w.heap.size + 1 + 1, 0, none⟩)], .func (.func 45) #[] #[.pointer (some ⟨p8, 0, none⟩), .pointer (some ⟨p9, 0, none⟩)], .func (.func 46) #[] #[.pointer (some ⟨p8, 0, none⟩), .pointer (some ⟨p9, 0, none⟩)], .func (.func 47) #[] #[.pointer (some ⟨p8, 0, none⟩), .pointer (some ⟨p9, 0, none⟩)], .func (.func 49) #[] #[.pointer (some ⟨p8, 0, none⟩), .pointer (some ⟨w.heap.size + 1, 0, none⟩)], .func (.func 51) #[] #[.pointer (some ⟨p8, 0, none⟩), .pointer (some ⟨p9, 0, none⟩)], .func (.func 52) #[] #[.pointer (some ⟨p8, 0, none⟩), .pointer (some ⟨w.heap.size + 1, 0, none⟩)]] 109)
          have J8 := Lib.hid (blk_below K8.out hB3)
          have J9 := Lib.hid (blk_below K9.out hB3)
          have JP := Lib.hid (blk_below KP.out hB3)
          have JS := Lib.hid (blk_below KS.out hB3)
          have JC := Lib.hid (blk_below KC.out hB3)
          have HR3 := Lib.hid (HR2.out.below hB3)
          have HG3 := Lib.hid (grown_then HG2.out hB3)
          have HZ := Lib.hid hz
          have HFQ := Lib.hid hfq
          have HRR := Lib.hid hRR
          clear hB3 hvec hz hfq hRR
          go_wp2_with (first | ((with_reducible refine wpList_store_new rfl 109 _ _ rfl _ #[.nilFunc, .func (.func 44) #[] #[.pointer (some ⟨w.heap.size, 0, none⟩), .pointer (some ⟨w.heap.size + 1, 0, none⟩), .pointer (some ⟨w.heap.size + 1 + 1, 0, none⟩)], .func (.func 45) #[] #[.pointer (some ⟨p8, 0, none⟩), .pointer (some ⟨p9, 0, none⟩)], .func (.func 46) #[] #[.pointer (some ⟨p8, 0, none⟩), .pointer (some ⟨p9, 0, none⟩)], .func (.func 47) #[] #[.pointer (some ⟨p8, 0, none⟩), .pointer (some ⟨p9, 0, none⟩)], .func (.func 49) #[] #[.pointer (some ⟨p8, 0, none⟩), .pointer (some ⟨w.heap.size + 1, 0, none⟩)], .func (.func 51) #[] #[.pointer (some ⟨p8, 0, none⟩), .pointer (some ⟨p9, 0, none⟩)], .func (.func 52) #[] #[.pointer (some ⟨p8, 0, none⟩), .pointer (some ⟨w.heap.size + 1, 0, none⟩)]] ?hx ?hy (by kernel_rfl) rfl (by kernel_rfl) ?_); (case hx => rfl); (case hy => rfl)) | fail)
          clear c8 c9 cp s0 s3 cq l8 l9 lP lS lC
          generalize w2.alloc (.cells #[.nilFunc, .func (.func 44) #[] #[.pointer (some ⟨w.heap.size, 0, none⟩), .pointer (some ⟨w.heap.size + 1, 0, none⟩), .pointer (some ⟨w.heap.size + 1 + 1, 0, none⟩)], .func (.func 45) #[] #[.pointer (some ⟨p8, 0, none⟩), .pointer (some ⟨p9, 0, none⟩)], .func (.func 46) #[] #[.pointer (some ⟨p8, 0, none⟩), .pointer (some ⟨p9, 0, none⟩)], .func (.func 47) #[] #[.pointer (some ⟨p8, 0, none⟩), .pointer (some ⟨p9, 0, none⟩)], .func (.func 49) #[] #[.pointer (some ⟨p8, 0, none⟩), .pointer (some ⟨w.heap.size + 1, 0, none⟩)], .func (.func 51) #[] #[.pointer (some ⟨p8, 0, none⟩), .pointer (some ⟨p9, 0, none⟩)], .func (.func 52) #[] #[.pointer (some ⟨p8, 0, none⟩), .pointer (some ⟨w.heap.size + 1, 0, none⟩)]] 109) = W3 at J8 J9 JP JS JC HR3 HG3 ⊢
          have hq : W3.cell? ⟨bi, oi + q * 4 + cc, none⟩ = some (.int .i64 (I.getD (q * 4 + cc) 0)) := by
            have hl : q * 4 + cc < I.length := by rw [HR3.out.ilen]; omega
            have := HR3.out.i (q * 4 + cc) I[q * 4 + cc] (List.getElem?_eq_getElem hl)
            rw [Nat.add_assoc, this, List.getD_eq_getElem?_getD, List.getElem?_eq_getElem hl]
            rfl
          have HCL := Lib.hid (in_calls _ _ _ rB bi oi ci q cc 0 _ W3 (blk_cell JP.out 0) (by have := blk_cell HR3.out.r 0; simpa [runCells] using this) (blk_cell JS.out 3) (blk_cell JC.out 0) hq hq4 hc)
          rw [HZ.out] at HCL
          refine HCL.out.mono ?_
          rintro e w4 ⟨rfl, hb⟩
          have HB4 := Lib.hid hb
          clear hb
          go_wp2_with fail
          refine (far_calls z _).mono ?_
          rintro e w5 ⟨rfl, hb⟩
          rw [HFQ.out]
          have HB5 := Lib.hid (below_step HB4.out hb)
          clear hb
          cases fq with
          | true =>
            go_wp2_with fail
            refine bodyPost_ret (results_tmp2 rfl _ _ _) rfl ?_
            rw [show R = none from by rw [HRR.out]; simp]
            exact ⟨rfl, grown_then HG3.out HB5.out⟩
          | false =>
            go_wp2_with fail
            refine bodyPost_ret (results_tmp2 rfl _ _ _) rfl ?_
            rw [show R = some (z, used + 1) from by rw [HRR.out]; simp]
            exact ⟨rfl, HR3.out.below HB5.out, grown_then HG3.out HB5.out⟩
        · clear h8 hopk
          have hvec : vecE I ⟨2, (a : Nat), (d : Nat), nn⟩ cc va vd = va + vd := by
            unfold vecE
            simp
          obtain ⟨z, hz⟩ : ∃ z : Int, va + vd = z := ⟨_, rfl⟩
          replace hvec := hvec.trans hz
          obtain ⟨fq, hfq⟩ : ∃ fq, farE z = fq := ⟨_, rfl⟩
          have hRR : R = if fq = true then none else some (z, used + 1) := by
            rw [← HR.out]
            unfold valE
            dsimp only
            rw [if_neg (show ¬ (8 : Int) ≤ 2 by decide), if_neg (show ¬ bud ≤ used by omega)]
            rw [show opA ⟨2, (a : Nat), (d : Nat), nn⟩ cc V = va from HVA.out, show opB ⟨2, (a : Nat), (d : Nat), nn⟩ cc V = vd from HVD.out, hvec, hfq]
          have hB3 := below_allocs w2 (.cells #[.nilFunc, .func (.func 44) #[] #[.pointer (some ⟨w.heap.size, 0, none⟩), .pointer (some ⟨w.heap.size + 1, 0, none⟩), .pointer (some ⟨w.heap.size + 1 + 1, 0, none⟩)], .func (.func 45) #[] #[.pointer (some ⟨p8, 0, none⟩), .pointer (some ⟨p9, 0, none⟩)], .func (.func 46) #[] #[.pointer (some ⟨p8, 0, none⟩), .pointer (some ⟨p9, 0, none⟩)], .func (.func 47) #[] #[.pointer (some ⟨p8, 0, none⟩), .pointer (some ⟨p9, 0, none⟩)], .func (.func 49) #[] #[.pointer (some ⟨p8, 0, none⟩), .pointer (some ⟨w.heap.size + 1, 0, none⟩)], .func (.func 51) #[] #[.pointer (some ⟨p8, 0, none⟩), .pointer (some ⟨p9, 0, none⟩)], .func (.func 52) #[] #[.pointer (some ⟨p8, 0, none⟩), .pointer (some ⟨w.heap.size + 1, 0, none⟩)]] 109)
          have J8 := Lib.hid (blk_below K8.out hB3)
          have J9 := Lib.hid (blk_below K9.out hB3)
          have JP := Lib.hid (blk_below KP.out hB3)
          have JS := Lib.hid (blk_below KS.out hB3)
          have JC := Lib.hid (blk_below KC.out hB3)
          have HR3 := Lib.hid (HR2.out.below hB3)
          have HG3 := Lib.hid (grown_then HG2.out hB3)
          have HZ := Lib.hid hz
          have HFQ := Lib.hid hfq
          have HRR := Lib.hid hRR
          clear hB3 hvec hz hfq hRR
          go_wp2_with (first | ((with_reducible refine wpList_store_new rfl 109 _ _ rfl _ #[.nilFunc, .func (.func 44) #[] #[.pointer (some ⟨w.heap.size, 0, none⟩), .pointer (some ⟨w.heap.size + 1, 0, none⟩), .pointer (some ⟨w.heap.size + 1 + 1, 0, none⟩)], .func (.func 45) #[] #[.pointer (some ⟨p8, 0, none⟩), .pointer (some ⟨p9, 0, none⟩)], .func (.func 46) #[] #[.pointer (some ⟨p8, 0, none⟩), .pointer (some ⟨p9, 0, none⟩)], .func (.func 47) #[] #[.pointer (some ⟨p8, 0, none⟩), .pointer (some ⟨p9, 0, none⟩)], .func (.func 49) #[] #[.pointer (some ⟨p8, 0, none⟩), .pointer (some ⟨w.heap.size + 1, 0, none⟩)], .func (.func 51) #[] #[.pointer (some ⟨p8, 0, none⟩), .pointer (some ⟨p9, 0, none⟩)], .func (.func 52) #[] #[.pointer (some ⟨p8, 0, none⟩), .pointer (some ⟨w.heap.size + 1, 0, none⟩)]] ?hx ?hy (by kernel_rfl) rfl (by kernel_rfl) ?_); (case hx => rfl); (case hy => rfl)) | fail)
          clear c8 c9 cp s0 s3 cq l8 l9 lP lS lC
          generalize w2.alloc (.cells #[.nilFunc, .func (.func 44) #[] #[.pointer (some ⟨w.heap.size, 0, none⟩), .pointer (some ⟨w.heap.size + 1, 0, none⟩), .pointer (some ⟨w.heap.size + 1 + 1, 0, none⟩)], .func (.func 45) #[] #[.pointer (some ⟨p8, 0, none⟩), .pointer (some ⟨p9, 0, none⟩)], .func (.func 46) #[] #[.pointer (some ⟨p8, 0, none⟩), .pointer (some ⟨p9, 0, none⟩)], .func (.func 47) #[] #[.pointer (some ⟨p8, 0, none⟩), .pointer (some ⟨p9, 0, none⟩)], .func (.func 49) #[] #[.pointer (some ⟨p8, 0, none⟩), .pointer (some ⟨w.heap.size + 1, 0, none⟩)], .func (.func 51) #[] #[.pointer (some ⟨p8, 0, none⟩), .pointer (some ⟨p9, 0, none⟩)], .func (.func 52) #[] #[.pointer (some ⟨p8, 0, none⟩), .pointer (some ⟨w.heap.size + 1, 0, none⟩)]] 109) = W3 at J8 J9 JP JS JC HR3 HG3 ⊢
          have HCL := Lib.hid (add_calls p8 p9 va vd W3 (blk_cell J8.out 0) (blk_cell J9.out 0) ra.1 ra.2 rd.1 rd.2)
          rw [HZ.out] at HCL
          refine HCL.out.mono ?_
          rintro e w4 ⟨rfl, hb⟩
          have HB4 := Lib.hid (by rw [← hb]; exact Below.refl _ _ : Below W3.heap.size W3 w4)
          clear hb
          go_wp2_with fail
          refine (far_calls z _).mono ?_
          rintro e w5 ⟨rfl, hb⟩
          rw [HFQ.out]
          have HB5 := Lib.hid (below_step HB4.out hb)
          clear hb
          cases fq with
          | true =>
            go_wp2_with fail
            refine bodyPost_ret (results_tmp2 rfl _ _ _) rfl ?_
            rw [show R = none from by rw [HRR.out]; simp]
            exact ⟨rfl, grown_then HG3.out HB5.out⟩
          | false =>
            go_wp2_with fail
            refine bodyPost_ret (results_tmp2 rfl _ _ _) rfl ?_
            rw [show R = some (z, used + 1) from by rw [HRR.out]; simp]
            exact ⟨rfl, HR3.out.below HB5.out, grown_then HG3.out HB5.out⟩
        · clear h8 hopk
          have hvec : vecE I ⟨3, (a : Nat), (d : Nat), nn⟩ cc va vd = va - vd := by
            unfold vecE
            simp
          obtain ⟨z, hz⟩ : ∃ z : Int, va - vd = z := ⟨_, rfl⟩
          replace hvec := hvec.trans hz
          obtain ⟨fq, hfq⟩ : ∃ fq, farE z = fq := ⟨_, rfl⟩
          have hRR : R = if fq = true then none else some (z, used + 1) := by
            rw [← HR.out]
            unfold valE
            dsimp only
            rw [if_neg (show ¬ (8 : Int) ≤ 3 by decide), if_neg (show ¬ bud ≤ used by omega)]
            rw [show opA ⟨3, (a : Nat), (d : Nat), nn⟩ cc V = va from HVA.out, show opB ⟨3, (a : Nat), (d : Nat), nn⟩ cc V = vd from HVD.out, hvec, hfq]
          have hB3 := below_allocs w2 (.cells #[.nilFunc, .func (.func 44) #[] #[.pointer (some ⟨w.heap.size, 0, none⟩), .pointer (some ⟨w.heap.size + 1, 0, none⟩), .pointer (some ⟨w.heap.size + 1 + 1, 0, none⟩)], .func (.func 45) #[] #[.pointer (some ⟨p8, 0, none⟩), .pointer (some ⟨p9, 0, none⟩)], .func (.func 46) #[] #[.pointer (some ⟨p8, 0, none⟩), .pointer (some ⟨p9, 0, none⟩)], .func (.func 47) #[] #[.pointer (some ⟨p8, 0, none⟩), .pointer (some ⟨p9, 0, none⟩)], .func (.func 49) #[] #[.pointer (some ⟨p8, 0, none⟩), .pointer (some ⟨w.heap.size + 1, 0, none⟩)], .func (.func 51) #[] #[.pointer (some ⟨p8, 0, none⟩), .pointer (some ⟨p9, 0, none⟩)], .func (.func 52) #[] #[.pointer (some ⟨p8, 0, none⟩), .pointer (some ⟨w.heap.size + 1, 0, none⟩)]] 109)
          have J8 := Lib.hid (blk_below K8.out hB3)
          have J9 := Lib.hid (blk_below K9.out hB3)
          have JP := Lib.hid (blk_below KP.out hB3)
          have JS := Lib.hid (blk_below KS.out hB3)
          have JC := Lib.hid (blk_below KC.out hB3)
          have HR3 := Lib.hid (HR2.out.below hB3)
          have HG3 := Lib.hid (grown_then HG2.out hB3)
          have HZ := Lib.hid hz
          have HFQ := Lib.hid hfq
          have HRR := Lib.hid hRR
          clear hB3 hvec hz hfq hRR
          go_wp2_with (first | ((with_reducible refine wpList_store_new rfl 109 _ _ rfl _ #[.nilFunc, .func (.func 44) #[] #[.pointer (some ⟨w.heap.size, 0, none⟩), .pointer (some ⟨w.heap.size + 1, 0, none⟩), .pointer (some ⟨w.heap.size + 1 + 1, 0, none⟩)], .func (.func 45) #[] #[.pointer (some ⟨p8, 0, none⟩), .pointer (some ⟨p9, 0, none⟩)], .func (.func 46) #[] #[.pointer (some ⟨p8, 0, none⟩), .pointer (some ⟨p9, 0, none⟩)], .func (.func 47) #[] #[.pointer (some ⟨p8, 0, none⟩), .pointer (some ⟨p9, 0, none⟩)], .func (.func 49) #[] #[.pointer (some ⟨p8, 0, none⟩), .pointer (some ⟨w.heap.size + 1, 0, none⟩)], .func (.func 51) #[] #[.pointer (some ⟨p8, 0, none⟩), .pointer (some ⟨p9, 0, none⟩)], .func (.func 52) #[] #[.pointer (some ⟨p8, 0, none⟩), .pointer (some ⟨w.heap.size + 1, 0, none⟩)]] ?hx ?hy (by kernel_rfl) rfl (by kernel_rfl) ?_); (case hx => rfl); (case hy => rfl)) | fail)
          clear c8 c9 cp s0 s3 cq l8 l9 lP lS lC
          generalize w2.alloc (.cells #[.nilFunc, .func (.func 44) #[] #[.pointer (some ⟨w.heap.size, 0, none⟩), .pointer (some ⟨w.heap.size + 1, 0, none⟩), .pointer (some ⟨w.heap.size + 1 + 1, 0, none⟩)], .func (.func 45) #[] #[.pointer (some ⟨p8, 0, none⟩), .pointer (some ⟨p9, 0, none⟩)], .func (.func 46) #[] #[.pointer (some ⟨p8, 0, none⟩), .pointer (some ⟨p9, 0, none⟩)], .func (.func 47) #[] #[.pointer (some ⟨p8, 0, none⟩), .pointer (some ⟨p9, 0, none⟩)], .func (.func 49) #[] #[.pointer (some ⟨p8, 0, none⟩), .pointer (some ⟨w.heap.size + 1, 0, none⟩)], .func (.func 51) #[] #[.pointer (some ⟨p8, 0, none⟩), .pointer (some ⟨p9, 0, none⟩)], .func (.func 52) #[] #[.pointer (some ⟨p8, 0, none⟩), .pointer (some ⟨w.heap.size + 1, 0, none⟩)]] 109) = W3 at J8 J9 JP JS JC HR3 HG3 ⊢
          have HCL := Lib.hid (sub_calls p8 p9 va vd W3 (blk_cell J8.out 0) (blk_cell J9.out 0) ra.1 ra.2 rd.1 rd.2)
          rw [HZ.out] at HCL
          refine HCL.out.mono ?_
          rintro e w4 ⟨rfl, hb⟩
          have HB4 := Lib.hid (by rw [← hb]; exact Below.refl _ _ : Below W3.heap.size W3 w4)
          clear hb
          go_wp2_with fail
          refine (far_calls z _).mono ?_
          rintro e w5 ⟨rfl, hb⟩
          rw [HFQ.out]
          have HB5 := Lib.hid (below_step HB4.out hb)
          clear hb
          cases fq with
          | true =>
            go_wp2_with fail
            refine bodyPost_ret (results_tmp2 rfl _ _ _) rfl ?_
            rw [show R = none from by rw [HRR.out]; simp]
            exact ⟨rfl, grown_then HG3.out HB5.out⟩
          | false =>
            go_wp2_with fail
            refine bodyPost_ret (results_tmp2 rfl _ _ _) rfl ?_
            rw [show R = some (z, used + 1) from by rw [HRR.out]; simp]
            exact ⟨rfl, HR3.out.below HB5.out, grown_then HG3.out HB5.out⟩
        · clear h8 hopk
          have hvec : vecE I ⟨4, (a : Nat), (d : Nat), nn⟩ cc va vd = prodE va vd := by
            unfold vecE
            simp
          obtain ⟨z, hz⟩ : ∃ z : Int, prodE va vd = z := ⟨_, rfl⟩
          replace hvec := hvec.trans hz
          obtain ⟨fq, hfq⟩ : ∃ fq, farE z = fq := ⟨_, rfl⟩
          have hRR : R = if fq = true then none else some (z, used + 1) := by
            rw [← HR.out]
            unfold valE
            dsimp only
            rw [if_neg (show ¬ (8 : Int) ≤ 4 by decide), if_neg (show ¬ bud ≤ used by omega)]
            rw [show opA ⟨4, (a : Nat), (d : Nat), nn⟩ cc V = va from HVA.out, show opB ⟨4, (a : Nat), (d : Nat), nn⟩ cc V = vd from HVD.out, hvec, hfq]
          have hB3 := below_allocs w2 (.cells #[.nilFunc, .func (.func 44) #[] #[.pointer (some ⟨w.heap.size, 0, none⟩), .pointer (some ⟨w.heap.size + 1, 0, none⟩), .pointer (some ⟨w.heap.size + 1 + 1, 0, none⟩)], .func (.func 45) #[] #[.pointer (some ⟨p8, 0, none⟩), .pointer (some ⟨p9, 0, none⟩)], .func (.func 46) #[] #[.pointer (some ⟨p8, 0, none⟩), .pointer (some ⟨p9, 0, none⟩)], .func (.func 47) #[] #[.pointer (some ⟨p8, 0, none⟩), .pointer (some ⟨p9, 0, none⟩)], .func (.func 49) #[] #[.pointer (some ⟨p8, 0, none⟩), .pointer (some ⟨w.heap.size + 1, 0, none⟩)], .func (.func 51) #[] #[.pointer (some ⟨p8, 0, none⟩), .pointer (some ⟨p9, 0, none⟩)], .func (.func 52) #[] #[.pointer (some ⟨p8, 0, none⟩), .pointer (some ⟨w.heap.size + 1, 0, none⟩)]] 109)
          have J8 := Lib.hid (blk_below K8.out hB3)
          have J9 := Lib.hid (blk_below K9.out hB3)
          have JP := Lib.hid (blk_below KP.out hB3)
          have JS := Lib.hid (blk_below KS.out hB3)
          have JC := Lib.hid (blk_below KC.out hB3)
          have HR3 := Lib.hid (HR2.out.below hB3)
          have HG3 := Lib.hid (grown_then HG2.out hB3)
          have HZ := Lib.hid hz
          have HFQ := Lib.hid hfq
          have HRR := Lib.hid hRR
          clear hB3 hvec hz hfq hRR
          go_wp2_with (first | ((with_reducible refine wpList_store_new rfl 109 _ _ rfl _ #[.nilFunc, .func (.func 44) #[] #[.pointer (some ⟨w.heap.size, 0, none⟩), .pointer (some ⟨w.heap.size + 1, 0, none⟩), .pointer (some ⟨w.heap.size + 1 + 1, 0, none⟩)], .func (.func 45) #[] #[.pointer (some ⟨p8, 0, none⟩), .pointer (some ⟨p9, 0, none⟩)], .func (.func 46) #[] #[.pointer (some ⟨p8, 0, none⟩), .pointer (some ⟨p9, 0, none⟩)], .func (.func 47) #[] #[.pointer (some ⟨p8, 0, none⟩), .pointer (some ⟨p9, 0, none⟩)], .func (.func 49) #[] #[.pointer (some ⟨p8, 0, none⟩), .pointer (some ⟨w.heap.size + 1, 0, none⟩)], .func (.func 51) #[] #[.pointer (some ⟨p8, 0, none⟩), .pointer (some ⟨p9, 0, none⟩)], .func (.func 52) #[] #[.pointer (some ⟨p8, 0, none⟩), .pointer (some ⟨w.heap.size + 1, 0, none⟩)]] ?hx ?hy (by kernel_rfl) rfl (by kernel_rfl) ?_); (case hx => rfl); (case hy => rfl)) | fail)
          clear c8 c9 cp s0 s3 cq l8 l9 lP lS lC
          generalize w2.alloc (.cells #[.nilFunc, .func (.func 44) #[] #[.pointer (some ⟨w.heap.size, 0, none⟩), .pointer (some ⟨w.heap.size + 1, 0, none⟩), .pointer (some ⟨w.heap.size + 1 + 1, 0, none⟩)], .func (.func 45) #[] #[.pointer (some ⟨p8, 0, none⟩), .pointer (some ⟨p9, 0, none⟩)], .func (.func 46) #[] #[.pointer (some ⟨p8, 0, none⟩), .pointer (some ⟨p9, 0, none⟩)], .func (.func 47) #[] #[.pointer (some ⟨p8, 0, none⟩), .pointer (some ⟨p9, 0, none⟩)], .func (.func 49) #[] #[.pointer (some ⟨p8, 0, none⟩), .pointer (some ⟨w.heap.size + 1, 0, none⟩)], .func (.func 51) #[] #[.pointer (some ⟨p8, 0, none⟩), .pointer (some ⟨p9, 0, none⟩)], .func (.func 52) #[] #[.pointer (some ⟨p8, 0, none⟩), .pointer (some ⟨w.heap.size + 1, 0, none⟩)]] 109) = W3 at J8 J9 JP JS JC HR3 HG3 ⊢
          have HCL := Lib.hid (mult_calls p8 p9 va vd W3 (blk_cell J8.out 0) (blk_cell J9.out 0) ra.1 ra.2 rd.1 rd.2)
          rw [HZ.out] at HCL
          refine HCL.out.mono ?_
          rintro e w4 ⟨rfl, hb⟩
          have HB4 := Lib.hid (by rw [← hb]; exact Below.refl _ _ : Below W3.heap.size W3 w4)
          clear hb
          go_wp2_with fail
          refine (far_calls z _).mono ?_
          rintro e w5 ⟨rfl, hb⟩
          rw [HFQ.out]
          have HB5 := Lib.hid (below_step HB4.out hb)
          clear hb
          cases fq with
          | true =>
            go_wp2_with fail
            refine bodyPost_ret (results_tmp2 rfl _ _ _) rfl ?_
            rw [show R = none from by rw [HRR.out]; simp]
            exact ⟨rfl, grown_then HG3.out HB5.out⟩
          | false =>
            go_wp2_with fail
            refine bodyPost_ret (results_tmp2 rfl _ _ _) rfl ?_
            rw [show R = some (z, used + 1) from by rw [HRR.out]; simp]
            exact ⟨rfl, HR3.out.below HB5.out, grown_then HG3.out HB5.out⟩
        · clear h8 hopk
          have hN6 : nn ≤ 1000000 := hN.2
          have hvec : vecE I ⟨5, (a : Nat), (d : Nat), nn⟩ cc va vd = scaledE va nn := by
            unfold vecE
            simp
          obtain ⟨z, hz⟩ : ∃ z : Int, scaledE va nn = z := ⟨_, rfl⟩
          replace hvec := hvec.trans hz
          obtain ⟨fq, hfq⟩ : ∃ fq, farE z = fq := ⟨_, rfl⟩
          have hRR : R = if fq = true then none else some (z, used + 1) := by
            rw [← HR.out]
            unfold valE
            dsimp only
            rw [if_neg (show ¬ (8 : Int) ≤ 5 by decide), if_neg (show ¬ bud ≤ used by omega)]
            rw [show opA ⟨5, (a : Nat), (d : Nat), nn⟩ cc V = va from HVA.out, show opB ⟨5, (a : Nat), (d : Nat), nn⟩ cc V = vd from HVD.out, hvec, hfq]
          have hB3 := below_allocs w2 (.cells #[.nilFunc, .func (.func 44) #[] #[.pointer (some ⟨w.heap.size, 0, none⟩), .pointer (some ⟨w.heap.size + 1, 0, none⟩), .pointer (some ⟨w.heap.size + 1 + 1, 0, none⟩)], .func (.func 45) #[] #[.pointer (some ⟨p8, 0, none⟩), .pointer (some ⟨p9, 0, none⟩)], .func (.func 46) #[] #[.pointer (some ⟨p8, 0, none⟩), .pointer (some ⟨p9, 0, none⟩)], .func (.func 47) #[] #[.pointer (some ⟨p8, 0, none⟩), .pointer (some ⟨p9, 0, none⟩)], .func (.func 49) #[] #[.pointer (some ⟨p8, 0, none⟩), .pointer (some ⟨w.heap.size + 1, 0, none⟩)], .func (.func 51) #[] #[.pointer (some ⟨p8, 0, none⟩), .pointer (some ⟨p9, 0, none⟩)], .func (.func 52) #[] #[.pointer (some ⟨p8, 0, none⟩), .pointer (some ⟨w.heap.size + 1, 0, none⟩)]] 109)
          have J8 := Lib.hid (blk_below K8.out hB3)
          have J9 := Lib.hid (blk_below K9.out hB3)
          have JP := Lib.hid (blk_below KP.out hB3)
          have JS := Lib.hid (blk_below KS.out hB3)
          have JC := Lib.hid (blk_below KC.out hB3)
          have HR3 := Lib.hid (HR2.out.below hB3)
          have HG3 := Lib.hid (grown_then HG2.out hB3)
          have HZ := Lib.hid hz
          have HFQ := Lib.hid hfq
          have HRR := Lib.hid hRR
          clear hB3 hvec hz hfq hRR
          go_wp2_with (first | ((with_reducible refine wpList_store_new rfl 109 _ _ rfl _ #[.nilFunc, .func (.func 44) #[] #[.pointer (some ⟨w.heap.size, 0, none⟩), .pointer (some ⟨w.heap.size + 1, 0, none⟩), .pointer (some ⟨w.heap.size + 1 + 1, 0, none⟩)], .func (.func 45) #[] #[.pointer (some ⟨p8, 0, none⟩), .pointer (some ⟨p9, 0, none⟩)], .func (.func 46) #[] #[.pointer (some ⟨p8, 0, none⟩), .pointer (some ⟨p9, 0, none⟩)], .func (.func 47) #[] #[.pointer (some ⟨p8, 0, none⟩), .pointer (some ⟨p9, 0, none⟩)], .func (.func 49) #[] #[.pointer (some ⟨p8, 0, none⟩), .pointer (some ⟨w.heap.size + 1, 0, none⟩)], .func (.func 51) #[] #[.pointer (some ⟨p8, 0, none⟩), .pointer (some ⟨p9, 0, none⟩)], .func (.func 52) #[] #[.pointer (some ⟨p8, 0, none⟩), .pointer (some ⟨w.heap.size + 1, 0, none⟩)]] ?hx ?hy (by kernel_rfl) rfl (by kernel_rfl) ?_); (case hx => rfl); (case hy => rfl)) | fail)
          clear c8 c9 cp s0 s3 cq l8 l9 lP lS lC
          generalize w2.alloc (.cells #[.nilFunc, .func (.func 44) #[] #[.pointer (some ⟨w.heap.size, 0, none⟩), .pointer (some ⟨w.heap.size + 1, 0, none⟩), .pointer (some ⟨w.heap.size + 1 + 1, 0, none⟩)], .func (.func 45) #[] #[.pointer (some ⟨p8, 0, none⟩), .pointer (some ⟨p9, 0, none⟩)], .func (.func 46) #[] #[.pointer (some ⟨p8, 0, none⟩), .pointer (some ⟨p9, 0, none⟩)], .func (.func 47) #[] #[.pointer (some ⟨p8, 0, none⟩), .pointer (some ⟨p9, 0, none⟩)], .func (.func 49) #[] #[.pointer (some ⟨p8, 0, none⟩), .pointer (some ⟨w.heap.size + 1, 0, none⟩)], .func (.func 51) #[] #[.pointer (some ⟨p8, 0, none⟩), .pointer (some ⟨p9, 0, none⟩)], .func (.func 52) #[] #[.pointer (some ⟨p8, 0, none⟩), .pointer (some ⟨w.heap.size + 1, 0, none⟩)]] 109) = W3 at J8 J9 JP JS JC HR3 HG3 ⊢
          have HCL := Lib.hid (scale_calls p8 (w.heap.size + 1) va nn W3 (blk_cell J8.out 0) (blk_cell JS.out 3) ra.1 ra.2 hN.1 hN6)
          rw [HZ.out] at HCL
          refine HCL.out.mono ?_
          rintro e w4 ⟨rfl, hb⟩
          have HB4 := Lib.hid hb
          clear hb
          go_wp2_with fail
          refine (far_calls z _).mono ?_
          rintro e w5 ⟨rfl, hb⟩
          rw [HFQ.out]
          have HB5 := Lib.hid (below_step HB4.out hb)
          clear hb
          cases fq with
          | true =>
            go_wp2_with fail
            refine bodyPost_ret (results_tmp2 rfl _ _ _) rfl ?_
            rw [show R = none from by rw [HRR.out]; simp]
            exact ⟨rfl, grown_then HG3.out HB5.out⟩
          | false =>
            go_wp2_with fail
            refine bodyPost_ret (results_tmp2 rfl _ _ _) rfl ?_
            rw [show R = some (z, used + 1) from by rw [HRR.out]; simp]
            exact ⟨rfl, HR3.out.below HB5.out, grown_then HG3.out HB5.out⟩
        · clear h8 hopk
          have hvec : vecE I ⟨6, (a : Nat), (d : Nat), nn⟩ cc va vd = max va vd := by
            unfold vecE
            simp
          obtain ⟨z, hz⟩ : ∃ z : Int, max va vd = z := ⟨_, rfl⟩
          replace hvec := hvec.trans hz
          obtain ⟨fq, hfq⟩ : ∃ fq, farE z = fq := ⟨_, rfl⟩
          have hRR : R = if fq = true then none else some (z, used + 1) := by
            rw [← HR.out]
            unfold valE
            dsimp only
            rw [if_neg (show ¬ (8 : Int) ≤ 6 by decide), if_neg (show ¬ bud ≤ used by omega)]
            rw [show opA ⟨6, (a : Nat), (d : Nat), nn⟩ cc V = va from HVA.out, show opB ⟨6, (a : Nat), (d : Nat), nn⟩ cc V = vd from HVD.out, hvec, hfq]
          have hB3 := below_allocs w2 (.cells #[.nilFunc, .func (.func 44) #[] #[.pointer (some ⟨w.heap.size, 0, none⟩), .pointer (some ⟨w.heap.size + 1, 0, none⟩), .pointer (some ⟨w.heap.size + 1 + 1, 0, none⟩)], .func (.func 45) #[] #[.pointer (some ⟨p8, 0, none⟩), .pointer (some ⟨p9, 0, none⟩)], .func (.func 46) #[] #[.pointer (some ⟨p8, 0, none⟩), .pointer (some ⟨p9, 0, none⟩)], .func (.func 47) #[] #[.pointer (some ⟨p8, 0, none⟩), .pointer (some ⟨p9, 0, none⟩)], .func (.func 49) #[] #[.pointer (some ⟨p8, 0, none⟩), .pointer (some ⟨w.heap.size + 1, 0, none⟩)], .func (.func 51) #[] #[.pointer (some ⟨p8, 0, none⟩), .pointer (some ⟨p9, 0, none⟩)], .func (.func 52) #[] #[.pointer (some ⟨p8, 0, none⟩), .pointer (some ⟨w.heap.size + 1, 0, none⟩)]] 109)
          have J8 := Lib.hid (blk_below K8.out hB3)
          have J9 := Lib.hid (blk_below K9.out hB3)
          have JP := Lib.hid (blk_below KP.out hB3)
          have JS := Lib.hid (blk_below KS.out hB3)
          have JC := Lib.hid (blk_below KC.out hB3)
          have HR3 := Lib.hid (HR2.out.below hB3)
          have HG3 := Lib.hid (grown_then HG2.out hB3)
          have HZ := Lib.hid hz
          have HFQ := Lib.hid hfq
          have HRR := Lib.hid hRR
          clear hB3 hvec hz hfq hRR
          go_wp2_with (first | ((with_reducible refine wpList_store_new rfl 109 _ _ rfl _ #[.nilFunc, .func (.func 44) #[] #[.pointer (some ⟨w.heap.size, 0, none⟩), .pointer (some ⟨w.heap.size + 1, 0, none⟩), .pointer (some ⟨w.heap.size + 1 + 1, 0, none⟩)], .func (.func 45) #[] #[.pointer (some ⟨p8, 0, none⟩), .pointer (some ⟨p9, 0, none⟩)], .func (.func 46) #[] #[.pointer (some ⟨p8, 0, none⟩), .pointer (some ⟨p9, 0, none⟩)], .func (.func 47) #[] #[.pointer (some ⟨p8, 0, none⟩), .pointer (some ⟨p9, 0, none⟩)], .func (.func 49) #[] #[.pointer (some ⟨p8, 0, none⟩), .pointer (some ⟨w.heap.size + 1, 0, none⟩)], .func (.func 51) #[] #[.pointer (some ⟨p8, 0, none⟩), .pointer (some ⟨p9, 0, none⟩)], .func (.func 52) #[] #[.pointer (some ⟨p8, 0, none⟩), .pointer (some ⟨w.heap.size + 1, 0, none⟩)]] ?hx ?hy (by kernel_rfl) rfl (by kernel_rfl) ?_); (case hx => rfl); (case hy => rfl)) | fail)
          clear c8 c9 cp s0 s3 cq l8 l9 lP lS lC
          generalize w2.alloc (.cells #[.nilFunc, .func (.func 44) #[] #[.pointer (some ⟨w.heap.size, 0, none⟩), .pointer (some ⟨w.heap.size + 1, 0, none⟩), .pointer (some ⟨w.heap.size + 1 + 1, 0, none⟩)], .func (.func 45) #[] #[.pointer (some ⟨p8, 0, none⟩), .pointer (some ⟨p9, 0, none⟩)], .func (.func 46) #[] #[.pointer (some ⟨p8, 0, none⟩), .pointer (some ⟨p9, 0, none⟩)], .func (.func 47) #[] #[.pointer (some ⟨p8, 0, none⟩), .pointer (some ⟨p9, 0, none⟩)], .func (.func 49) #[] #[.pointer (some ⟨p8, 0, none⟩), .pointer (some ⟨w.heap.size + 1, 0, none⟩)], .func (.func 51) #[] #[.pointer (some ⟨p8, 0, none⟩), .pointer (some ⟨p9, 0, none⟩)], .func (.func 52) #[] #[.pointer (some ⟨p8, 0, none⟩), .pointer (some ⟨w.heap.size + 1, 0, none⟩)]] 109) = W3 at J8 J9 JP JS JC HR3 HG3 ⊢
          have HCL := Lib.hid (max_calls p8 p9 va vd W3 (blk_cell J8.out 0) (blk_cell J9.out 0))
          rw [HZ.out] at HCL
          refine HCL.out.mono ?_
          rintro e w4 ⟨rfl, hb⟩
          have HB4 := Lib.hid (by rw [← hb]; exact Below.refl _ _ : Below W3.heap.size W3 w4)
          clear hb
          go_wp2_with fail
          refine (far_calls z _).mono ?_
          rintro e w5 ⟨rfl, hb⟩
          rw [HFQ.out]
          have HB5 := Lib.hid (below_step HB4.out hb)
          clear hb
          cases fq with
          | true =>
            go_wp2_with fail
            refine bodyPost_ret (results_tmp2 rfl _ _ _) rfl ?_
            rw [show R = none from by rw [HRR.out]; simp]
            exact ⟨rfl, grown_then HG3.out HB5.out⟩
          | false =>
            go_wp2_with fail
            refine bodyPost_ret (results_tmp2 rfl _ _ _) rfl ?_
            rw [show R = some (z, used + 1) from by rw [HRR.out]; simp]
            exact ⟨rfl, HR3.out.below HB5.out, grown_then HG3.out HB5.out⟩
        · clear h8 hopk
          have hvec : vecE I ⟨7, (a : Nat), (d : Nat), nn⟩ cc va vd = (if nn ≤ va then 1 else 0) := by
            unfold vecE
            simp
          obtain ⟨z, hz⟩ : ∃ z : Int, (if nn ≤ va then 1 else 0) = z := ⟨_, rfl⟩
          replace hvec := hvec.trans hz
          obtain ⟨fq, hfq⟩ : ∃ fq, farE z = fq := ⟨_, rfl⟩
          have hRR : R = if fq = true then none else some (z, used + 1) := by
            rw [← HR.out]
            unfold valE
            dsimp only
            rw [if_neg (show ¬ (8 : Int) ≤ 7 by decide), if_neg (show ¬ bud ≤ used by omega)]
            rw [show opA ⟨7, (a : Nat), (d : Nat), nn⟩ cc V = va from HVA.out, show opB ⟨7, (a : Nat), (d : Nat), nn⟩ cc V = vd from HVD.out, hvec, hfq]
          have hB3 := below_allocs w2 (.cells #[.nilFunc, .func (.func 44) #[] #[.pointer (some ⟨w.heap.size, 0, none⟩), .pointer (some ⟨w.heap.size + 1, 0, none⟩), .pointer (some ⟨w.heap.size + 1 + 1, 0, none⟩)], .func (.func 45) #[] #[.pointer (some ⟨p8, 0, none⟩), .pointer (some ⟨p9, 0, none⟩)], .func (.func 46) #[] #[.pointer (some ⟨p8, 0, none⟩), .pointer (some ⟨p9, 0, none⟩)], .func (.func 47) #[] #[.pointer (some ⟨p8, 0, none⟩), .pointer (some ⟨p9, 0, none⟩)], .func (.func 49) #[] #[.pointer (some ⟨p8, 0, none⟩), .pointer (some ⟨w.heap.size + 1, 0, none⟩)], .func (.func 51) #[] #[.pointer (some ⟨p8, 0, none⟩), .pointer (some ⟨p9, 0, none⟩)], .func (.func 52) #[] #[.pointer (some ⟨p8, 0, none⟩), .pointer (some ⟨w.heap.size + 1, 0, none⟩)]] 109)
          have J8 := Lib.hid (blk_below K8.out hB3)
          have J9 := Lib.hid (blk_below K9.out hB3)
          have JP := Lib.hid (blk_below KP.out hB3)
          have JS := Lib.hid (blk_below KS.out hB3)
          have JC := Lib.hid (blk_below KC.out hB3)
          have HR3 := Lib.hid (HR2.out.below hB3)
          have HG3 := Lib.hid (grown_then HG2.out hB3)
          have HZ := Lib.hid hz
          have HFQ := Lib.hid hfq
          have HRR := Lib.hid hRR
          clear hB3 hvec hz hfq hRR
          go_wp2_with (first | ((with_reducible refine wpList_store_new rfl 109 _ _ rfl _ #[.nilFunc, .func (.func 44) #[] #[.pointer (some ⟨w.heap.size, 0, none⟩), .pointer (some ⟨w.heap.size + 1, 0, none⟩), .pointer (some ⟨w.heap.size + 1 + 1, 0, none⟩)], .func (.func 45) #[] #[.pointer (some ⟨p8, 0, none⟩), .pointer (some ⟨p9, 0, none⟩)], .func (.func 46) #[] #[.pointer (some ⟨p8, 0, none⟩), .pointer (some ⟨p9, 0, none⟩)], .func (.func 47) #[] #[.pointer (some ⟨p8, 0, none⟩), .pointer (some ⟨p9, 0, none⟩)], .func (.func 49) #[] #[.pointer (some ⟨p8, 0, none⟩), .pointer (some ⟨w.heap.size + 1, 0, none⟩)], .func (.func 51) #[] #[.pointer (some ⟨p8, 0, none⟩), .pointer (some ⟨p9, 0, none⟩)], .func (.func 52) #[] #[.pointer (some ⟨p8, 0, none⟩), .pointer (some ⟨w.heap.size + 1, 0, none⟩)]] ?hx ?hy (by kernel_rfl) rfl (by kernel_rfl) ?_); (case hx => rfl); (case hy => rfl)) | fail)
          clear c8 c9 cp s0 s3 cq l8 l9 lP lS lC
          generalize w2.alloc (.cells #[.nilFunc, .func (.func 44) #[] #[.pointer (some ⟨w.heap.size, 0, none⟩), .pointer (some ⟨w.heap.size + 1, 0, none⟩), .pointer (some ⟨w.heap.size + 1 + 1, 0, none⟩)], .func (.func 45) #[] #[.pointer (some ⟨p8, 0, none⟩), .pointer (some ⟨p9, 0, none⟩)], .func (.func 46) #[] #[.pointer (some ⟨p8, 0, none⟩), .pointer (some ⟨p9, 0, none⟩)], .func (.func 47) #[] #[.pointer (some ⟨p8, 0, none⟩), .pointer (some ⟨p9, 0, none⟩)], .func (.func 49) #[] #[.pointer (some ⟨p8, 0, none⟩), .pointer (some ⟨w.heap.size + 1, 0, none⟩)], .func (.func 51) #[] #[.pointer (some ⟨p8, 0, none⟩), .pointer (some ⟨p9, 0, none⟩)], .func (.func 52) #[] #[.pointer (some ⟨p8, 0, none⟩), .pointer (some ⟨w.heap.size + 1, 0, none⟩)]] 109) = W3 at J8 J9 JP JS JC HR3 HG3 ⊢
          have HCL := Lib.hid (least_calls p8 (w.heap.size + 1) va nn W3 (blk_cell J8.out 0) (blk_cell JS.out 3))
          rw [HZ.out] at HCL
          refine HCL.out.mono ?_
          rintro e w4 ⟨rfl, hb⟩
          have HB4 := Lib.hid (by rw [← hb]; exact Below.refl _ _ : Below W3.heap.size W3 w4)
          clear hb
          go_wp2_with fail
          refine (far_calls z _).mono ?_
          rintro e w5 ⟨rfl, hb⟩
          rw [HFQ.out]
          have HB5 := Lib.hid (below_step HB4.out hb)
          clear hb
          cases fq with
          | true =>
            go_wp2_with fail
            refine bodyPost_ret (results_tmp2 rfl _ _ _) rfl ?_
            rw [show R = none from by rw [HRR.out]; simp]
            exact ⟨rfl, grown_then HG3.out HB5.out⟩
          | false =>
            go_wp2_with fail
            refine bodyPost_ret (results_tmp2 rfl _ _ _) rfl ?_
            rw [show R = some (z, used + 1) from by rw [HRR.out]; simp]
            exact ⟨rfl, HR3.out.below HB5.out, grown_then HG3.out HB5.out⟩
end Go.Proofs.YtamabdijeklgjaaDoor.Ext
