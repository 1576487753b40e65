/- Several texts in one (UnitsSpec UnitsA UnitsB). -/
import Derived.Test.YtamabdijeklgjaaDoorGk
import Derived.Test.YtamabdijeklgjaaDoorGd
import Derived.Test.YtamabdijeklgjaaDoorGg
/- What flow.Units answers, in plain Lean. -/
namespace Go.Proofs.YtamabdijeklgjaaDoor.Ext
open Go Go.Proofs

def sameU (u v : US) : Bool := decide (u.f0 = v.f0) && decide (u.f1 = v.f1) && decide (u.f2 = v.f2)
/-- a step's unit, and its error -/
def unitOf (ins us : List US) (s : FS) : US × Int :=
  if s.f0 = 1 then (ins.getD s.f3.toNat us0, 0)
  else if s.f0 = 4 then mulE (us.getD s.f1.toNat us0) (us.getD s.f2.toNat us0)
  else if s.f0 = 5 then (us.getD s.f1.toNat us0, 0)
  else if s.f0 = 2 ∨ s.f0 = 3 ∨ s.f0 = 6 then (us.getD s.f1.toNat us0, if sameU (us.getD s.f1.toNat us0) (us.getD s.f2.toNat us0) = true then 0 else 15)
  else (us0, 0)
/-- the units of the steps that are left, behind those that stand; or the error -/
def unitsL (ins : List US) : List FS → List US → List US × Int
  | [], us => (us, 0)
  | s :: r, us => if (unitOf ins us s).2 ≠ 0 then ([], (unitOf ins us s).2) else unitsL ins r (us ++ [(unitOf ins us s).1])
def unitsE (name : List UInt8) (ver : Int) (l : List FS) (ins : List US) : List US × Int :=
  if validB name ver l = true ∧ ins.length = 4 ∧ (∀ u ∈ ins, okUS u) then unitsL ins l [] else ([], 1)
/-- the input's test in the code: the product with the unit 1 -/
theorem mulE_one (u : US) : (mulE u us0).2 = if okUS u then 0 else 1 := by
  have h0 : okUS us0 := by decide
  unfold mulE
  by_cases h : okUS u
  · have h3 : okU (u.f0 + us0.f0) (u.f1 + us0.f1) (u.f2 + us0.f2) := by
      show okU (u.f0 + 0) (u.f1 + 0) (u.f2 + 0)
      rw [Int.add_zero, Int.add_zero, Int.add_zero]
      exact h
    rw [if_pos ⟨h, h0⟩, if_pos h3, if_pos h]
  · rw [if_neg (fun k => h k.1), if_neg h]
/-- what a step of a valid pipeline keeps -/
theorem masks_at : ∀ (l : List FS) (ms r : List Bool) (i : Nat) (s : FS), masksL l ms = some r → l[i]? = some s → ∃ ms' m, ms'.length = ms.length + i ∧ stepM ms' s = some m
  | [], _, _, _, _, _, h => by simp at h
  | x :: l, ms, r, i, s, h, hx => by
    rw [masksL] at h
    split at h
    · rename_i m hm
      cases i with
      | zero =>
        have : x = s := by simpa using hx
        subst this
        exact ⟨ms, m, by simp, hm⟩
      | succ i =>
        obtain ⟨ms', m', h1, h2⟩ := masks_at l (ms ++ [m]) r i s h (by simpa using hx)
        exact ⟨ms', m', by rw [h1]; simp; omega, h2⟩
    · cases h
theorem stepM_args {ms : List Bool} {s : FS} {m : Bool} (h : stepM ms s = some m) : isOp s.f0 = true ∧ 0 ≤ s.f3 ∧ s.f3 ≤ (oprOf s.f0).most ∧ okArg (oprOf s.f0) ms 0 s.f1 = true ∧ okArg (oprOf s.f0) ms 1 s.f2 = true := by
  unfold stepM at h
  split at h
  · rename_i hc
    simp only [Bool.and_eq_true, decide_eq_true_eq] at hc
    exact ⟨hc.1.1.1.1, hc.1.1.1.2, hc.1.1.2, hc.1.2, hc.2⟩
  · cases h
theorem okArg_lt {o : Opr} {ms : List Bool} {k a : Int} (h : okArg o ms k a = true) (hk : k < o.arity) : 0 ≤ a ∧ a < ms.length := by
  rcases okArg_yes h with ⟨h1, _⟩ | ⟨_, h1, h2⟩
  · omega
  · have := (List.getElem?_eq_some_iff.1 h2).1
    omega
theorem step_two {ms : List Bool} {s : FS} {m : Bool} (h : stepM ms s = some m) (hk : s.f0 = 2 ∨ s.f0 = 3 ∨ s.f0 = 4 ∨ s.f0 = 6) : 0 ≤ s.f1 ∧ s.f1 < ms.length ∧ 0 ≤ s.f2 ∧ s.f2 < ms.length := by
  obtain ⟨_, _, _, h1, h2⟩ := stepM_args h
  have ha : (oprOf s.f0).arity = 2 := by rcases hk with e | e | e | e <;> (rw [e]; rfl)
  have e1 := okArg_lt h1 (by omega)
  have e2 := okArg_lt h2 (by omega)
  exact ⟨e1.1, e1.2, e2.1, e2.2⟩
theorem step_one {ms : List Bool} {s : FS} {m : Bool} (h : stepM ms s = some m) (hk : s.f0 = 5) : 0 ≤ s.f1 ∧ s.f1 < ms.length := by
  obtain ⟨_, _, _, h1, h2⟩ := stepM_args h
  have ha : (oprOf s.f0).arity = 1 := by rw [hk]; rfl
  exact okArg_lt h1 (by omega)
theorem step_in {ms : List Bool} {s : FS} {m : Bool} (h : stepM ms s = some m) (hk : s.f0 = 1) : 0 ≤ s.f3 ∧ s.f3 ≤ 3 := by
  obtain ⟨_, h1, h2, _, _⟩ := stepM_args h
  have ha : (oprOf s.f0).most = 3 := by rw [hk]; rfl
  omega
theorem isOp_cases {k : Int} (h : isOp k = true) : k = 1 ∨ k = 2 ∨ k = 3 ∨ k = 4 ∨ k = 5 ∨ k = 6 ∨ k = 7 ∨ k = 8 ∨ k = 9 ∨ k = 10 := by
  unfold isOp at h
  simp only [Bool.and_eq_true, decide_eq_true_eq] at h
  omega
end Go.Proofs.YtamabdijeklgjaaDoor.Ext

/- flow.Units, walked: the early ends. -/
namespace Go.Proofs.YtamabdijeklgjaaDoor.Ext
open Go Go.Proofs Go.RowKit Go.Proofs.YtamabdijeklgjaaDoorW.PrintWords
set_option linter.unusedVariables false
set_option linter.unusedSimpArgs false

set_option maxRecDepth 100000 in
set_option maxHeartbeats 1000000 in
theorem units_invalid (name : ByteArray) (ver : Int) (A I : Option Addr) (c ci ni : Nat) (l : List FS) (w : World) (hr : Kd.C L.k32 w A l.length l) (h : validB name.data.toList ver l = false ∨ ni ≠ 4) (hni : ni ≤ 9223372036854775807) :
    Calls Tryd.prog 12 #[.agg #[.string name, .int .i64 ver, .slice A l.length c], .slice I ni ci] w fun e w' => e = .returned (.tuple #[.slice none 0 0, .int .i64 1]) ∧ Below w.heap.size w w' := by
  have hB := below_allocs w (.cells #[.string name, .int .i64 ver, .slice A l.length c] 24)
  have HV := Lib.hid (valid_of_reads name ver A c l (w.alloc (.cells #[.string name, .int .i64 ver, .slice A l.length c] 24)) (Kd.C_below hr hB))
  have HB := Lib.hid hB
  obtain ⟨q, hq⟩ : ∃ q, validB name.data.toList ver l = q := ⟨_, rfl⟩
  rw [hq] at HV h
  clear hq hB hr
  cases q with
  | false =>
    clear h
    go_enter Tryd.func12, Tryd.ntmps12
    go_wp2_with fail
    refine HV.out.mono ?_
    rintro e w1 ⟨rfl, hb⟩
    have HB1 := Lib.hid (below_step HB.out hb)
    clear hb
    go_wp2_with fail
    refine bodyPost_ret (results_tmp2 rfl _ _ _) rfl ?_
    exact ⟨rfl, HB1.out⟩
  | true =>
    have hn4 : ((ni : Int) == 4) = false := by
      rcases h with h | h
      · cases h
      · simp; omega
    have hn4b : ((ni : Int) != 4) = true := by unfold bne; rw [hn4]; rfl
    clear h
    go_enter Tryd.func12, Tryd.ntmps12
    go_wp2_with fail
    refine HV.out.mono ?_
    rintro e w1 ⟨rfl, hb⟩
    have HB1 := Lib.hid (below_step HB.out hb)
    clear hb
    go_wp2_with fail
    refine bodyPost_ret (results_tmp2 rfl _ _ _) rfl ?_
    exact ⟨rfl, HB1.out⟩
end Go.Proofs.YtamabdijeklgjaaDoor.Ext

/- flow.Units, walked: the inputs in memory. -/
namespace Go.Proofs.YtamabdijeklgjaaDoor.Ext
open Go Go.Proofs Go.RowKit Go.Proofs.YtamabdijeklgjaaDoorW.PrintWords
set_option linter.unusedVariables false
set_option linter.unusedSimpArgs false

def unitC (x : US) : List Value := [.int .i64 x.f0, .int .i64 x.f1, .int .i64 x.f2]
/-- the units lie at block b from o on -/
def UnitsAt (w : World) (b o : Nat) (l : List US) : Prop := b < w.heap.size ∧ ∀ i x, l[i]? = some x → ∀ j v, (unitC x)[j]? = some v → w.cell? ⟨b, o + i * 3 + j, none⟩ = some v
theorem UnitsAt.below {w w' : World} {b o : Nat} {l : List US} (h : UnitsAt w b o l) (hb : Below w.heap.size w w') : UnitsAt w' b o l :=
  ⟨Nat.lt_of_lt_of_le h.1 hb.size, fun i x hi j v hv => (hb.cell (p := ⟨b, o + i * 3 + j, none⟩) h.1).trans (h.2 i x hi j v hv)⟩
theorem units_view {w : World} {A : Option Addr} {l : List US} (h : Kd.C L.k34 w A l.length l) (h0 : l ≠ []) : ∃ b o, A = some ⟨b, o, none⟩ ∧ UnitsAt w b o l := by
  have hl : 0 < l.length := List.length_pos_iff.2 h0
  have key : ∀ i : Nat, i < l.length → ∃ ad, A = some ad ∧ ∀ x, l[i]? = some x → ∀ j v, (unitC x)[j]? = some v → w.cell? (ad.add (i * 3 + j)) = some v := by
    intro i hi
    obtain ⟨ad, c, e, _, hK, hc0⟩ := Kd.C_get h L.z34 (i : Int) (by omega) (by omega)
    have hc : ∀ j u, c[j]? = some u → w.cell? (ad.add ((i : Int).toNat * 3 + j)) = some u := hc0
    refine ⟨ad, e, fun x hx j v hv => ?_⟩
    have hk := L.k34_open hK
    have hx' : l.getD ((i : Int).toNat) L.z34 = x := by
      rw [Int.toNat_natCast, List.getD_eq_getElem?_getD, hx]
      rfl
    rw [hx'] at hk
    have := hc j v (by rw [hk]; exact hv)
    simpa using this
  obtain ⟨ad, rfl, h1⟩ := key 0 hl
  have hx0 : l[0]? = some l[0] := List.getElem?_eq_getElem hl
  have hc := h1 _ hx0 0 _ rfl
  obtain ⟨b, o, sp⟩ := ad
  have hadd : ∀ k, (⟨b, o, sp⟩ : Addr).add k = if k = 0 then ⟨b, o, sp⟩ else ⟨b, o + k, none⟩ := by
    intro k
    unfold Addr.add
    split <;> simp_all
  cases sp with
  | some s =>
    rw [hadd] at hc
    simp [World.cell?] at hc
    split at hc <;> simp at hc
  | none =>
    refine ⟨b, o, rfl, World.block_lt_of_cell? w _ (show w.cell? ⟨b, o, none⟩ = _ from by simpa [hadd] using hc), fun i x hi j v hv => ?_⟩
    obtain ⟨ad', e, h2⟩ := key i (List.getElem?_eq_some_iff.1 hi).1
    injection e with e
    subst e
    have := h2 x hi j v hv
    rw [hadd] at this
    split at this
    · rename_i h0
      rw [show o + i * 3 + j = o by omega]
      exact this
    · rw [show o + i * 3 + j = o + (i * 3 + j) by omega]
      exact this
end Go.Proofs.YtamabdijeklgjaaDoor.Ext
