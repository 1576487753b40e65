/- Several texts in one (ParF ParG ParR). -/
import Derived.Test.YtamabdijeklgjaaDoorGe
import Derived.Test.YtamabdijeklgjaaDoorGc
import Derived.RegionDies
import Derived.Test.YtamabdijeklgjaaDoorWTab
import Derived.Deep.AppendLies
/- flow.parser's makes, operand, walked. -/
namespace Go.Proofs.YtamabdijeklgjaaDoor.Ext
open Go Go.Proofs Go.RowKit Go.Proofs.YtamabdijeklgjaaDoorW.PrintWords
set_option linter.unusedVariables false
set_option linter.unusedSimpArgs false

theorem encFS_get : ∀ (l : List FS) (i : Nat) (x : FS), l[i]? = some x → ∀ j v, (stepC x)[j]? = some v → (encFS l)[i * 4 + j]? = some v
  | [], i, x, h, j, v, _ => by simp at h
  | y :: l, 0, x, h, j, v, hv => by
    simp at h
    subst h
    have hj : j < 4 := by have := (List.getElem?_eq_some_iff.1 hv).1; simpa [stepC] using this
    show (stepC y ++ encFS l)[0 * 4 + j]? = some v
    rw [List.getElem?_append_left (by simp [stepC]; omega)]
    simpa using hv
  | y :: l, i + 1, x, h, j, v, hv => by
    have := encFS_get l i x (by simpa using h) j v hv
    show (stepC y ++ encFS l)[(i + 1) * 4 + j]? = some v
    rw [List.getElem?_append_right (by simp [stepC]; omega)]
    rw [show (i + 1) * 4 + j - (stepC y).length = i * 4 + j by simp [stepC]; omega]
    exact this
theorem PAt.c2 {w : World} {B b g : Nat} {NV SV : Value} {s : PState} (h : PAt w B b g NV SV s) : w.cell? ⟨b, 2, none⟩ = some NV := by
  obtain ⟨TA, tc, h1, _⟩ := h
  exact blk_cell h1 2
theorem PAt.c5 {w : World} {B b g : Nat} {NV SV : Value} {s : PState} (h : PAt w B b g NV SV s) : w.cell? ⟨b, 5, none⟩ = some SV := by
  obtain ⟨TA, tc, h1, _⟩ := h
  exact blk_cell h1 5
theorem PAt.own1 {w : World} {B b g : Nat} {NV SV : Value} {s : PState} (h : PAt w B b g NV SV s) : w.ownsRow B 9 1 NV s.names.length (encN s.names) := by
  obtain ⟨TA, tc, h1, h2, h3, h4, h5, h6⟩ := h
  exact h4
theorem PAt.own2 {w : World} {B b g : Nat} {NV SV : Value} {s : PState} (h : PAt w B b g NV SV s) : w.ownsRow B 32 4 SV s.steps.length (encFS s.steps) := by
  obtain ⟨TA, tc, h1, h2, h3, h4, h5, h6⟩ := h
  exact h5
theorem PAt.len {w : World} {B b g : Nat} {NV SV : Value} {s : PState} (h : PAt w B b g NV SV s) : s.names.length ≤ 40 ∧ s.steps.length = s.names.length := by
  obtain ⟨TA, tc, h1, h2, h3, h4, h5, h6, h7, h8, h9⟩ := h
  exact ⟨h7, h8⟩
def idxV : Option Nat → Int
  | none => -1
  | some i => i
def idxP (ws : List (List UInt8)) (x : List UInt8) : Int := idxV (ws.findIdx? (· == x))
theorem idx_from (x : List UInt8) : ∀ (ws : List (List UInt8)) (k : Nat), Lib.idxFromS (ws.map bs) (bs x) k = match ws.findIdx? (· == x) with | none => -1 | some i => ((k + i : Nat) : Int)
  | [], k => rfl
  | y :: ws, k => by
    have ih := idx_from x ws (k + 1)
    rw [List.map_cons, Lib.idxFromS, List.findIdx?_cons]
    by_cases h : y = x
    · subst h
      simp
    · have h' : bs y ≠ bs x := fun e => h (bs_inj e)
      have h2 : (y == x) = false := by simpa using h
      rw [if_neg h', ih, h2]
      cases ws.findIdx? (· == x) with
      | none => rfl
      | some i => simp [Int.add_assoc, Int.add_comm 1]
theorem idx_bs (ws : List (List UInt8)) (x : List UInt8) : Lib.idxOfS (ws.map bs) (bs x) = idxP ws x := by
  unfold Lib.idxOfS idxP
  rw [idx_from]
  cases ws.findIdx? (· == x) <;> simp [idxV]
/-- slices.Index over a row of the call's own -/
theorem index_own {w : World} {base : Nat} (ws : List (List UInt8)) (v : Value) (x : List UInt8) (ho : w.ownsRow base 9 1 v ws.length (encN ws)) (hl : ws.length ≤ 1000) :
    Calls Tryd.prog 76 #[v, .string (bs x)] w fun e w' => e = .returned (.int .i64 (idxP ws x)) ∧ w = w' := by
  rw [← idx_bs]
  by_cases h0 : ws.length = 0
  · have hw : ws = [] := List.length_eq_zero_iff.1 h0
    subst hw
    obtain ⟨A, c, rfl⟩ := own_view ho
    refine (Any.slices_Index_string_empty Tryd.lays109 A c (bs x) w).mono ?_
    rintro e w' ⟨rfl, rfl⟩
    exact ⟨rfl, rfl⟩
  · obtain ⟨g, c, rfl, _, hlt⟩ := ho.form (by omega)
    have hc := ho.cells (g := g) rfl
    refine (Any.slices_Index_string Tryd.lays109 g 0 ws.length c (ws.map bs) (bs x) w (by simp) (by omega) ?_).mono ?_
    · intro j hj
      have hj' : j < ws.length := by simpa using hj
      have := hc j (.string (bs ws[j])) (by unfold encN; rw [List.getElem?_map, List.getElem?_eq_getElem hj']; rfl)
      rw [Addr.add_mid] at this
      rw [this]
      simp [List.getD_eq_getElem?_getD, List.getElem?_eq_getElem hj']
    · rintro e w' ⟨rfl, rfl⟩
      exact ⟨by rw [List.take_of_length_le (by simp)], rfl⟩
theorem opr_field4 (a b c d e f : Value) (w : World) : (Instr.field 68 (.agg #[a, b, c, d, e, f]) 4).run Tryd.prog w = .ok e w := by kernel_rfl
set_option maxRecDepth 100000 in
set_option maxHeartbeats 2000000 in
theorem makes_calls (B b g : Nat) (NV SV : Value) (s : PState) (i : Nat) (w : World) (h : PAt w B b g NV SV s) (hi : i < s.steps.length) :
    Calls Tryd.prog 64 #[.pointer (some ⟨b, 0, none⟩), .int .i64 i] w fun e w' => e = .returned (.bool (makesP s i)) ∧ Below w.heap.size w w' := by
  have c5 := h.c5
  have ho := h.own2
  have hbl := h.lt
  obtain ⟨gS, c, rfl, _, hlt⟩ := ho.form (by omega)
  obtain ⟨x, hx⟩ : ∃ x, s.steps[i]? = some x := ⟨_, List.getElem?_eq_getElem hi⟩
  have hk := ho.cells (g := gS) rfl (i * 4) (.int .i64 x.f0) (encFS_get s.steps i x hx 0 _ rfl)
  unfold makesP
  rw [hx]
  rw [Addr.add_mid, Nat.zero_add] at hk
  dsimp only
  have hi' : (i : Int) < (s.steps.length : Int) := by omega
  have hi0 : (0 : Int) ≤ (i : Int) := by omega
  have hi2 : s.steps.length ≤ 40 := by have := h.len; omega
  generalize s.steps.length = n at c5 hi' hi2
  generalize x.f0 = k at hk
  obtain ⟨p, hp⟩ : ∃ p, oprOf k = p := ⟨_, rfl⟩
  have hlk := look_new1 k p hp false
  have hlk0 := look_new k p hp false
  rw [hp]
  simp only [if_false, Bool.false_eq_true] at hlk hlk0
  have HA : Hid (Below w.heap.size w ((w.alloc (.map oprE.toArray 10)).drew)) := Lib.hid (below_allocs _ _).drew
  have k5 := (HA.out.cell (p := ⟨b, 5, none⟩) hbl).trans c5
  have k6 := (HA.out.cell (p := ⟨gS, i * 4, none⟩) hlt).trans hk
  have hf4 := opr_field4
  clear hx ho h hi hp
  go_enter Tryd.func64, Tryd.ntmps64
  go_upto_region 1 with fail
  go_region_held3 (fun w' => w'.cell? ⟨b, 5, none⟩ = some (.slice (some ⟨gS, 0, none⟩) n c) ∧ w'.cell? ⟨gS, i * 4, none⟩ = some (.int .i64 k)) (first | exact ⟨k5, k6⟩ | go_keep)
    (first | (go_at_call 28; refine (operators_calls _).mono ?_; rintro e w' ⟨rfl, rfl⟩))
  all_goals
    go_wp2_with fail
    go_ret
    exact ⟨rfl, HA.out⟩
theorem undrew {B : Nat} {w w1 : World} (h : Below B w.drew w1) : Below B w w1 := ⟨h.os, h.tape, h.output, h.size, h.block⟩
theorem undrew_g {b : Option Nat} {w w1 : World} (h : w.drew.grownBy w1 b) : w.grownBy w1 b := ⟨h.os, h.tape, h.output, h.size, h.block⟩
theorem freeP_ok {s s1 : PState} {x : List UInt8} (h : freeP s = .ok x s1) : s1 = s ∧ x = s.hd.text ∧ s.toks ≠ [] := by
  unfold freeP at h
  split at h
  · rename_i hc
    injection h with h1 h2
    rw [Bool.and_eq_true] at hc
    exact ⟨h2.symm, h1.symm, seesP_ne hc.1⟩
  · cases h
set_option maxRecDepth 100000 in
set_option maxHeartbeats 2000000 in
theorem operand_calls (B b g : Nat) (NV SV : Value) (s : PState) (mask : Bool) (w : World) (h : PAt w B b g NV SV s) :
    Calls Tryd.prog 77 #[.pointer (some ⟨b, 0, none⟩), .bool mask] w (PPost intV B b g NV SV w (operandP s mask)) := by
  have H := Lib.hid h
  have HL := Lib.hid h.len
  have c2 := h.c2
  obtain ⟨NA, nc, rfl⟩ := own_view h.own1
  obtain ⟨R, hR⟩ : ∃ R, operandP s mask = R := ⟨_, rfl⟩
  rw [hR]
  have HR := Lib.hid hR
  clear hR h
  unfold operandP at HR
  obtain ⟨F, hF⟩ : ∃ F, freeP s = F := ⟨_, rfl⟩
  rw [hF] at HR
  cases F with
  | bad e0 a0 =>
    have HF := Lib.hid hF
    clear hF
    go_enter Tryd.func77, Tryd.ntmps77
    go_upto_region 1 with fail
    go_region_dies
    all_goals
      go_at_call 59
      refine (free_calls B b g _ SV s _ H.out.drew).mono ?_
      intro e w1 hpost
      obtain ⟨rfl, hb⟩ := hpost.bad_ HF.out
      rw [show R = .bad e0 a0 from HR.out.symm]
      exact ⟨rfl, rfl, undrew hb⟩
  | ok x s1 =>
    have HF := Lib.hid hF
    obtain ⟨rfl, hxx, hne⟩ := freeP_ok hF
    clear hF hxx
    obtain ⟨q, hq⟩ : ∃ q, s1.names.findIdx? (· == x) = q := ⟨_, rfl⟩
    have HQ : Hid (idxP s1.names x = idxV q) := Lib.hid (by unfold idxP; rw [hq])
    have HI : Hid (∀ i, q = some i → i < s1.names.length) := Lib.hid (by intro i e; rw [e] at hq; exact (List.findIdx?_eq_some_iff_getElem.1 hq).1)
    simp only [PR.andThen] at HR
    rw [hq] at HR
    clear hq
    obtain ⟨z, hz⟩ : ∃ z, idxP s1.names x = z := ⟨_, rfl⟩
    have HZ := Lib.hid hz
    clear hz
    go_enter Tryd.func77, Tryd.ntmps77
    go_upto_region 1 with fail
    go_cut [5] (fun s5 wx => s5 = .int .i64 z ∧ Hid (PAt wx B b g (.slice NA s1.names.length nc) SV s1) ∧ Hid (w.grownBy wx (some b)))
    case first =>
      go_region_held3 (fun w' => w'.cell? ⟨b, 2, none⟩ = some (.slice NA s1.names.length nc)) (first | exact hp.c2 | go_keep)
        (first
          | (go_at_call 59; refine (free_calls B b g _ SV s1 _ H.out.drew).mono ?_; intro e w1 hpost; obtain ⟨rfl, hp, hg⟩ := hpost.ok_ HF.out; unfold strV)
          | (go_at_call 76; refine (index_own s1.names _ x hp.own1 (by have := HL.out; omega)).mono ?_; rintro e w2 ⟨rfl, rfl⟩; rw [HZ.out]))
      all_goals
        have HP := Lib.hid hp
        have HG := Lib.hid (undrew_g hg)
        clear hp hg
        go_wp2_with fail
        go_meet
        exact ⟨rfl, HP, HG⟩
    case rest =>
      obtain ⟨rfl, HP, HG⟩ := hcut
      cases q with
      | none =>
        have hz : z = -1 := by rw [← HZ.out, HQ.out]; rfl
        clear HZ HQ
        subst hz
        go_wp2_with fail
        refine (fail_in B b g _ SV s1 7 _ HP.out).mono ?_
        rintro e w' ⟨rfl, rfl⟩
        rw [show R = failP 7 s1 from HR.out.symm]
        exact ⟨rfl, rfl, below_of_grown HG.out (by obtain ⟨_, _, _, _, _, _, _, h6, _⟩ := H.out; exact h6) H.out.lt⟩
      | some i =>
        have hz : z = i := by rw [← HZ.out, HQ.out]; rfl
        have hi : i < s1.steps.length := by have := HI.out i rfl; have := HL.out; omega
        clear HZ HQ HI
        subst hz
        go_wp2_with fail
        refine (makes_calls B b g _ SV s1 i _ HP.out hi).mono ?_
        rintro e w2 ⟨rfl, hb⟩
        have HP2 := Lib.hid (HP.out.below hb)
        have HG2 := Lib.hid (grown_below HG.out hb)
        obtain ⟨m, hm⟩ : ∃ m, makesP s1 i = m := ⟨_, rfl⟩
        rw [hm]
        rw [hm] at HR
        clear hb hm HP HG
        by_cases hmm : m = mask
        rotate_left
        · rw [if_pos (by simpa using hmm)] at HR
          have hmq : (m == mask) = false := by simpa using hmm
          clear hmm
          go_wp2_with fail
          refine (fail_in B b g _ SV s1 1 _ HP2.out).mono ?_
          rintro e w' ⟨rfl, rfl⟩
          rw [show R = failP 1 s1 from HR.out.symm]
          exact ⟨rfl, rfl, below_of_grown HG2.out (by obtain ⟨_, _, _, _, _, _, _, h6, _⟩ := H.out; exact h6) H.out.lt⟩
        · subst hmm
          rw [if_neg (by simp)] at HR
          go_wp2_with fail
          refine (take_calls B b g _ SV s1 _ HP2.out hne).mono ?_
          rintro e w3 ⟨rfl, hp, hg⟩
          have HP3 := Lib.hid hp
          have HG3 := Lib.hid (grown_trans HG2.out hg)
          clear hp hg
          go_wp2_with fail
          go_ret
          rw [show R = .ok (i : Int) s1.rest from HR.out.symm]
          exact ⟨rfl, HP3.out, HG3.out⟩
end Go.Proofs.YtamabdijeklgjaaDoor.Ext

/- flow.parser.step, walked. -/
namespace Go.Proofs.YtamabdijeklgjaaDoor.Ext
open Go Go.Proofs Go.RowKit Go.Proofs.YtamabdijeklgjaaDoorW.PrintWords
set_option linter.unusedVariables false
set_option linter.unusedSimpArgs false

def fsV (x : FS) : Value := .agg #[.int .i64 x.f0, .int .i64 x.f1, .int .i64 x.f2, .int .i64 x.f3]
theorem word_uniq : ∀ a ∈ oprL, ∀ b ∈ oprL, a.2.word = b.2.word → a.2.word ≠ [] → a = b := by decide +kernel
theorem sym_uniq : ∀ a ∈ oprL, ∀ b ∈ oprL, a.2.sym = b.2.sym → a.2.sym ≠ [] → a = b := by decide +kernel
theorem seesP_cons {s : PState} {k : Int} {x : List UInt8} (h : seesP s k x = true) (hx : x ≠ []) : ∃ t r, s.toks = t :: r ∧ t.kind = k ∧ t.text = x := by
  unfold seesP at h
  cases ht : s.toks with
  | nil => rw [ht] at h; cases h
  | cons t r =>
    rw [ht] at h
    simp only [Bool.and_eq_true, Bool.or_eq_true, decide_eq_true_eq] at h
    exact ⟨t, r, rfl, h.1, h.2.resolve_left hx⟩
theorem headWord_hit {s : PState} {k : Int} {o : Opr} (h : (k, o) ∈ oprL) (hw : o.word ≠ []) (hs : seesP s 1 o.word = true) : headWord s = some (k, o) := by
  obtain ⟨t, r, ht, hk, hx⟩ := seesP_cons hs hw
  unfold headWord wordOp
  rw [ht]
  simp only
  rw [if_pos hk]
  cases hf : oprL.find? fun p => !p.2.word.isEmpty && p.2.word == t.text with
  | none =>
    have := List.find?_eq_none.1 hf _ h
    exfalso
    apply this
    have h1 : o.word.isEmpty = false := by cases ho : o.word <;> simp_all
    simp [h1, hx]
  | some p =>
    have h1 := List.find?_some hf
    have h2 := List.mem_of_find?_eq_some hf
    simp only [Bool.and_eq_true, beq_iff_eq] at h1
    rw [word_uniq _ h2 _ h (h1.2.trans hx) (by rw [h1.2, hx]; exact hw)]
theorem headWord_none {s : PState} (h : ∀ k o, (k, o) ∈ oprL → o.word = [] ∨ seesP s 1 o.word = false) : headWord s = none := by
  unfold headWord wordOp
  cases ht : s.toks with
  | nil => rfl
  | cons t r =>
    simp only
    by_cases hk : t.kind = 1
    · rw [if_pos hk]
      refine List.find?_eq_none.2 fun p hp hh => ?_
      simp only [Bool.and_eq_true, beq_iff_eq] at hh
      rcases h p.1 p.2 hp with h1 | h1
      · rw [h1] at hh; simp at hh
      · unfold seesP at h1
        rw [ht] at h1
        simp [hk, hh.2] at h1
    · rw [if_neg hk]
theorem headSym_hit {s : PState} {k : Int} {o : Opr} (h : (k, o) ∈ oprL) (hw : o.sym ≠ []) (hs : seesP s 4 o.sym = true) : headSym s = some (k, o) := by
  obtain ⟨t, r, ht, hk, hx⟩ := seesP_cons hs hw
  unfold headSym symOp
  rw [ht]
  simp only
  rw [if_pos hk]
  cases hf : oprL.find? fun p => !p.2.sym.isEmpty && p.2.sym == t.text with
  | none =>
    have := List.find?_eq_none.1 hf _ h
    exfalso
    apply this
    have h1 : o.sym.isEmpty = false := by cases ho : o.sym <;> simp_all
    simp [h1, hx]
  | some p =>
    have h1 := List.find?_some hf
    have h2 := List.mem_of_find?_eq_some hf
    simp only [Bool.and_eq_true, beq_iff_eq] at h1
    rw [sym_uniq _ h2 _ h (h1.2.trans hx) (by rw [h1.2, hx]; exact hw)]
theorem headSym_none {s : PState} (h : ∀ k o, (k, o) ∈ oprL → o.sym = [] ∨ seesP s 4 o.sym = false) : headSym s = none := by
  unfold headSym symOp
  cases ht : s.toks with
  | nil => rfl
  | cons t r =>
    simp only
    by_cases hk : t.kind = 4
    · rw [if_pos hk]
      refine List.find?_eq_none.2 fun p hp hh => ?_
      simp only [Bool.and_eq_true, beq_iff_eq] at hh
      rcases h p.1 p.2 hp with h1 | h1
      · rw [h1] at hh; simp at hh
      · unfold seesP at h1
        rw [ht] at h1
        simp [hk, hh.2] at h1
    · rw [if_neg hk]
/-- what stays to be done behind the first i operands -/
def restP (k : Int) (o : Opr) (a b : Int) (s : PState) : PR FS := (optP (decide (0 < o.most)) s fun s => numberP s 0 o.most).andThen fun n s4 => .ok ⟨k, a, b, n⟩ s4
def fromP (k : Int) (o : Opr) : Nat → Int → Int → PState → PR FS
  | 0, a, b, s => (optP (decide (1 ≤ o.arity)) s fun s => operandP s o.takes).andThen fun a s2 => (optP (decide (2 ≤ o.arity)) s2 fun s => operandP s o.takes).andThen fun b s3 => restP k o a b s3
  | 1, a, b, s => (optP (decide (2 ≤ o.arity)) s fun s => operandP s o.takes).andThen fun b s3 => restP k o a b s3
  | _ + 2, a, b, s => restP k o a b s
theorem stepP_word {s : PState} {k : Int} {o : Opr} (h : headWord s = some (k, o)) : stepP s = fromP k o 0 0 0 s.rest := by
  unfold stepP
  rw [h]
  rfl
theorem fromP_done {k : Int} {o : Opr} {i : Nat} {a b : Int} {s : PState} (h : o.arity = i) (hi : i ≤ 2) (ha : i < 1 → a = 0) (hb : i < 2 → b = 0) : fromP k o i a b s = restP k o a b s := by
  match i, h, hi, ha, hb with
  | 0, h, _, ha, hb =>
    rw [ha (by omega), hb (by omega)]
    have h1 : decide (1 ≤ o.arity) = false := by simp; omega
    have h2 : decide (2 ≤ o.arity) = false := by simp; omega
    show (optP (decide (1 ≤ o.arity)) s fun s => operandP s o.takes).andThen (fun a s2 => (optP (decide (2 ≤ o.arity)) s2 fun s => operandP s o.takes).andThen fun b s3 => restP k o a b s3) = _
    rw [h1, h2]
    rfl
  | 1, h, _, ha, hb =>
    rw [hb (by omega)]
    have h2 : decide (2 ≤ o.arity) = false := by simp; omega
    show (optP (decide (2 ≤ o.arity)) s fun s => operandP s o.takes).andThen (fun b s3 => restP k o a b s3) = _
    rw [h2]
    rfl
  | 2, h, _, ha, hb => rfl
def setArg (i : Nat) (v a b : Int) : Int × Int := if i = 0 then (v, b) else (a, v)
theorem fromP_step {k : Int} {o : Opr} {i : Nat} {a b : Int} {s : PState} (h : (i : Int) < o.arity) (hi : i < 2) : fromP k o i a b s = (operandP s o.takes).andThen fun v s2 => fromP k o (i + 1) (setArg i v a b).1 (setArg i v a b).2 s2 := by
  match i, h, hi with
  | 0, h, _ =>
    show (optP (decide (1 ≤ o.arity)) s fun s => operandP s o.takes).andThen _ = _
    unfold optP
    rw [if_pos (by simp; omega)]
    rfl
  | 1, h, _ =>
    show (optP (decide (2 ≤ o.arity)) s fun s => operandP s o.takes).andThen _ = _
    unfold optP
    rw [if_pos (by simp; omega)]
    rfl
theorem opr_small : ∀ p ∈ oprL, 0 ≤ p.2.arity ∧ p.2.arity ≤ 2 := by decide +kernel
theorem opr_arity {k : Int} {o : Opr} (h : (k, o) ∈ oprL) : ∃ n : Nat, n ≤ 2 ∧ o.arity = n := by
  have := opr_small _ h
  exact ⟨o.arity.toNat, by dsimp at this; omega, by dsimp at this; omega⟩
theorem grown_below_l {w w1 w2 : World} {b : Nat} (h : Below w.heap.size w w1) (hg : w1.grownBy w2 (some b)) : w.grownBy w2 (some b) := grown_trans (grown_of_b h _) hg
theorem below_up_b {w w1 w2 : World} {B b : Nat} (hBb : B ≤ b) (hg : w.grownBy w1 (some b)) (hb : b < w.heap.size) (k : Below B w1 w2) : Below B w w2 := by
  have h1 := below_of_grown hg hBb hb
  exact ⟨k.os.trans h1.os, k.tape.trans h1.tape, k.output.trans h1.output, Nat.le_trans h1.size k.size, fun i hi => (k.block i hi).trans (h1.block i hi)⟩
theorem fs_put {w : World} {N : Nat} {a0 a1 a2 a3 : Value} (hb : w.heap[N]? = some (.cells #[a0, a1, a2, a3] 32 (0, 0))) (v0 v1 v2 v3 : Value) : ((((w.setCell ⟨N, 0, none⟩ v0).setCell ⟨N, 1, none⟩ v1).setCell ⟨N, 2, none⟩ v2).setCell ⟨N, 3, none⟩ v3).heap[N]? = some (.cells #[v0, v1, v2, v3] 32 (0, 0)) :=
  blk_put (blk_put (blk_put (blk_put hb 0 v0 rfl) 1 v1 rfl) 2 v2 rfl) 3 v3 rfl
theorem fs_done {w w2 : World} {B b g N : Nat} {NV SV : Value} {s0 s : PState} (h0 : PAt w B b g NV SV s0) (h : PAt w2 B b g NV SV s) (hg : w.grownBy w2 (some b)) (hN : w.heap.size ≤ N) (v0 v1 v2 v3 : Value) :
    PAt ((((w2.setCell ⟨N, 0, none⟩ v0).setCell ⟨N, 1, none⟩ v1).setCell ⟨N, 2, none⟩ v2).setCell ⟨N, 3, none⟩ v3) B b g NV SV s ∧ w.grownBy ((((w2.setCell ⟨N, 0, none⟩ v0).setCell ⟨N, 1, none⟩ v1).setCell ⟨N, 2, none⟩ v2).setCell ⟨N, 3, none⟩ v3) (some b) :=
  ⟨h0.far (h0.far (h0.far (h0.far h _ _ hN) _ _ hN) _ _ hN) _ _ hN, far_grown (far_grown (far_grown (far_grown hg _ _ hN) _ _ hN) _ _ hN) _ _ hN⟩
theorem PAt.farg {w w1 w2 : World} {B b g p : Nat} {NV SV : Value} {s0 s : PState} (h0 : PAt w B b g NV SV s0) (h : PAt w1 B b g NV SV s) (hg : w1.grownBy w2 (some p)) (hp : w.heap.size ≤ p) : PAt w2 B b g NV SV s := by
  have hl := h0.lt
  obtain ⟨_, _, _, _, _, f4, f5, _, _, _, _⟩ := h0
  obtain ⟨TA, tc, g1, g2, g3, g4, g5, g6, g7, g8, g9⟩ := h
  have apart : ∀ {e : TypeId} {size n : Nat} {V : Value} {xs : List Value}, w.ownsRow B e size V n xs → V.ownBlock = none ∨ V.ownBlock ≠ some p := by
    intro e size n V xs ho
    cases hv : V.ownBlock with
    | none => exact Or.inl rfl
    | some k =>
      have := (ho.lt k hv).2
      exact Or.inr (by simp; omega)
  exact ⟨TA, tc, (hg.block b (blk_lt g1) (by simp; omega)).trans g1, g2, g3.keep fun cs hh => (hg.block g (blk_lt hh) (by simp; omega)).trans hh, g4.kept hg (apart f4), g5.kept hg (apart f5), g6, g7, g8, g9⟩
theorem farg_grown {w w1 w2 : World} {b p : Nat} (h : w.grownBy w1 (some b)) (hg : w1.grownBy w2 (some p)) (hp : w.heap.size ≤ p) : w.grownBy w2 (some b) :=
  ⟨hg.os.trans h.os, hg.tape.trans h.tape, hg.output.trans h.output, Nat.le_trans h.size hg.size, fun k hk hne => (hg.block k (Nat.lt_of_lt_of_le hk h.size) (by simp; omega)).trans (h.block k hk hne)⟩
/-- the operator of the symbols seen so far -/
def SymIn (s : PState) (seen : Array Nat) (z : Int) : Prop := (∀ k o, (k, o) ∈ oprL → seen.contains (k.toNat - 1) = true → o.sym = [] ∨ seesP s 4 o.sym = false ∨ z = k) ∧ (z = 0 ∨ ∃ o, (z, o) ∈ oprL ∧ o.sym ≠ [] ∧ seesP s 4 o.sym = true)
theorem opr_pos : ∀ p ∈ oprL, 1 ≤ p.1 := by decide +kernel
theorem symIn_skip {s : PState} {seen : Array Nat} {z k : Int} {o : Opr} (h : SymIn s seen z) (ho : (k, o) ∈ oprL) (hw : o.sym = [] ∨ seesP s 4 o.sym = false) : SymIn s (seen.push (k.toNat - 1)) z := by
  refine ⟨fun k' o' h' hc => ?_, h.2⟩
  rw [contains_push, Bool.or_eq_true] at hc
  rcases hc with hc | hc
  · exact h.1 k' o' h' hc
  · obtain ⟨rfl, rfl⟩ := born_inj h' ho (by simpa using hc)
    exact hw.elim Or.inl fun h => Or.inr (Or.inl h)
theorem symIn_put {s : PState} {seen : Array Nat} {z k : Int} {o : Opr} (h : SymIn s seen z) (ho : (k, o) ∈ oprL) (hw : o.sym ≠ []) (hs : seesP s 4 o.sym = true) : SymIn s (seen.push (k.toNat - 1)) k := by
  refine ⟨fun k' o' h' hc => ?_, Or.inr ⟨o, ho, hw, hs⟩⟩
  by_cases h1 : o'.sym = []
  · exact Or.inl h1
  · cases h2 : seesP s 4 o'.sym with
    | false => exact Or.inr (Or.inl rfl)
    | true =>
      have := (headSym_hit ho hw hs).symm.trans (headSym_hit h' h1 h2)
      injection this with this
      injection this with e1 e2
      exact Or.inr (Or.inr e1)
theorem symIn_all {s : PState} {seen : Array Nat} {z : Int} (h : SymIn s seen z) (hall : ∀ k o, (k, o) ∈ oprL → seen.contains (k.toNat - 1) = true) : (headSym s = none ∧ z = 0) ∨ ∃ o, headSym s = some (z, o) ∧ 1 ≤ z := by
  rcases h.2 with rfl | ⟨o, ho, hw, hs⟩
  · left
    refine ⟨headSym_none fun k o hko => ?_, rfl⟩
    rcases h.1 k o hko (hall k o hko) with h1 | h1 | h1
    · exact Or.inl h1
    · exact Or.inr h1
    · have := opr_pos _ hko
      dsimp at this
      omega
  · exact Or.inr ⟨o, headSym_hit ho hw hs, opr_pos _ ho⟩
theorem stepP_sym {s : PState} (h : headWord s = none) : stepP s = (operandP s false).andThen fun a s1 => match headSym s1 with
    | none => failP 5 s1
    | some (k, _) => (operandP s1.rest false).andThen fun b s3 => .ok ⟨k, a, b, 0⟩ s3 := by
  unfold stepP
  rw [h]
  rfl
theorem headSym_ne {s : PState} {p : Int × Opr} (h : headSym s = some p) : s.toks ≠ [] := by
  intro e
  unfold headSym at h
  rw [e] at h
  cases h
set_option maxRecDepth 100000 in
set_option maxHeartbeats 4000000 in
theorem step_calls (B b g : Nat) (NV SV : Value) (s : PState) (w : World) (h : PAt w B b g NV SV s) :
    Calls Tryd.prog 63 #[.pointer (some ⟨b, 0, none⟩)] w (PPost fsV B b g NV SV w (stepP s)) := by
  have H := Lib.hid h
  have HBb : Hid (B ≤ b) := Lib.hid (by obtain ⟨_, _, _, _, _, _, _, h6, _⟩ := h; exact h6)
  have hbl := h.lt
  obtain ⟨R, hR⟩ : ∃ R, stepP s = R := ⟨_, rfl⟩
  rw [hR]
  have HR := Lib.hid hR
  clear hR h
  have K1 : Hid ((w.alloc (.cells #[.int .i64 0, .int .i64 0, .int .i64 0, .int .i64 0] 32)).heap[w.heap.size]? = some (.cells #[.int .i64 0, .int .i64 0, .int .i64 0, .int .i64 0] 32 (0, 0))) := Lib.hid (blk_new w _)
  have B1 := Lib.hid (below_allocs w (.cells #[.int .i64 0, .int .i64 0, .int .i64 0, .int .i64 0] 32))
  go_enter Tryd.func63, Tryd.ntmps63
  go_wp2_with fail
  refine (operators_calls _).mono ?_
  rintro e w1 ⟨rfl, rfl⟩
  obtain ⟨N2, hN2⟩ : ∃ N2, w.heap.size = N2 := ⟨_, rfl⟩
  have HN2 := Lib.hid hN2
  generalize w.alloc (.cells #[.int .i64 0, .int .i64 0, .int .i64 0, .int .i64 0] 32) = W0 at K1 B1
  have hlt2 : N2 < W0.heap.size := by rw [← hN2]; exact blk_lt K1.out
  rw [hN2] at K1
  have K2 := Lib.hid (blk_alloc K1.out (.map oprE.toArray 10))
  have B2 := Lib.hid (below_alloc B1.out (.map oprE.toArray 10))
  have HT : Hid (TabAt (W0.alloc (.map oprE.toArray 10)) W0.heap.size) := Lib.hid (blk_new W0 _)
  have hs1 : Hid ((W0.alloc (.map oprE.toArray 10)).heap.size = W0.heap.size + 1) := Lib.hid (by simp)
  generalize W0.heap.size = r at HT hlt2 hs1
  generalize W0.alloc (.map oprE.toArray 10) = W1 at HT K2 B2 hs1
  clear K1 B1
  have hrg := run_range_opr W1 r HT.out
  have HI2 : Hid ((W1.alloc (.mapIter (some r) 10 #[] 10)).heap[W1.heap.size]? = some (.mapIter (some r) 10 #[] 10)) := Lib.hid (blk_new W1 _)
  have HT2 : Hid (TabAt (W1.alloc (.mapIter (some r) 10 #[] 10)) r) := Lib.hid (blk_alloc HT.out _)
  have B3 := Lib.hid (below_alloc B2.out (.mapIter (some r) 10 #[] 10))
  have K3 := Lib.hid (blk_alloc K2.out (.mapIter (some r) 10 #[] 10))
  rw [hN2]
  go_wp2_with fail
  have hNN : N2 < W1.heap.size := by rw [hs1.out]; omega
  clear hrg HT K2 B2 hs1 hlt2 hN2
  generalize W1.alloc (.mapIter (some r) 10 #[] 10) = W2 at HT2 HI2 B3 K3
  generalize W1.heap.size = N at HI2 hNN
  go_loopg [] 10 (fun g1 wx => ∃ (seen : Array Nat) (c0 : Nat), leftN seen ≤ g1 ∧ 10 ≤ c0 ∧ Hid (∀ k o, (k, o) ∈ oprL → seen.contains (k.toNat - 1) = true → o.word = [] ∨ seesP s 1 o.word = false) ∧ Hid (wx.heap[N]? = some (.mapIter (some r) 10 seen c0)) ∧ Hid (TabAt wx r) ∧ Hid (Below w.heap.size w wx) ∧ Hid (wx.heap[N2]? = some (.cells #[.int .i64 0, .int .i64 0, .int .i64 0, .int .i64 0] 32 (0, 0))))
  case atStart => exact ⟨#[], 10, by decide +kernel, by decide, Lib.hid (fun k o _ h => by simp at h), HI2, HT2, B3, K3⟩
  case round =>
    obtain ⟨seen, c0, hl1, hc0, HS, HI, HT, HB, HK⟩ := hrel
    rcases map_step wr N r c0 seen HI.out HT.out hc0 with ⟨hall, hnx⟩ | ⟨k, o, wn, hko, hns, hnx, hent, hIn, hg, hless⟩
    · have HW := Lib.hid (headWord_none (fun k o h => HS.out k o h (hall k o h)))
      have HRn : Hid _ := Lib.hid ((stepP_sym HW.out).symm.trans HR.out)
      have PW := Lib.hid (H.out.below HB.out)
      have hwN2 : w.heap.size ≤ N2 := by rw [HN2.out]; exact Nat.le_refl _
      have G0 := Lib.hid (grown_of_b HB.out (some b))
      clear hall HS
      go_wp2_with fail
      clear hnx HI HT HB HR
      refine (operand_calls B b g NV SV s false _ PW.out).mono ?_
      intro e w3 hpost
      obtain ⟨F, hF⟩ : ∃ F, operandP s false = F := ⟨_, rfl⟩
      rw [hF] at HRn hpost
      clear hF
      cases F with
      | bad e0 a0 =>
        obtain ⟨rfl, hb⟩ := hpost
        rw [show R = .bad e0 a0 from HRn.out.symm]
        exact ⟨rfl, rfl, below_up_b HBb.out G0.out hbl hb⟩
      | ok a s1 =>
        obtain ⟨rfl, hp, hg⟩ := hpost
        have P3 := Lib.hid hp
        have G3 := Lib.hid (grown_trans G0.out hg)
        have K3 := Lib.hid (blk_grown HK.out hg (by intro e; injection e with e; omega))
        have h23 : N2 < w3.heap.size := blk_lt K3.out
        have Q4 : Hid ((w3.alloc (.cells #[.int .i64 0, .int .i64 a, .int .i64 0, .int .i64 0] 32)).heap[w3.heap.size]? = some (.cells #[.int .i64 0, .int .i64 a, .int .i64 0, .int .i64 0] 32 (0, 0))) := Lib.hid (blk_new w3 _)
        clear hp hg G0 PW HK
        unfold intV
        go_wp2_with fail
        refine (operators_calls _).mono ?_
        rintro e w1 ⟨rfl, rfl⟩
        have P4 := Lib.hid (P3.out.below (below_allocs _ (.cells #[.int .i64 0, .int .i64 a, .int .i64 0, .int .i64 0] 32)))
        have G4 := Lib.hid (grown_alloc G3.out (.cells #[.int .i64 0, .int .i64 a, .int .i64 0, .int .i64 0] 32))
        have K4 := Lib.hid (blk_alloc K3.out (.cells #[.int .i64 0, .int .i64 a, .int .i64 0, .int .i64 0] 32))
        clear P3 G3 K3
        have h48 : w3.heap.size < (w3.alloc (.cells #[.int .i64 0, .int .i64 a, .int .i64 0, .int .i64 0] 32)).heap.size := blk_lt Q4.out
        generalize w3.alloc (.cells #[.int .i64 0, .int .i64 a, .int .i64 0, .int .i64 0] 32) = W4 at Q4 P4 G4 K4 h48
        generalize w3.heap.size = N8 at Q4 h48 h23
        have T5 : Hid (TabAt (W4.alloc (.map oprE.toArray 10)) W4.heap.size) := Lib.hid (blk_new W4 _)
        have P5 := Lib.hid (P4.out.below (below_allocs _ (.map oprE.toArray 10)))
        have G5 := Lib.hid (grown_alloc G4.out (.map oprE.toArray 10))
        have K5 := Lib.hid (blk_alloc K4.out (.map oprE.toArray 10))
        have Q5 := Lib.hid (blk_alloc Q4.out (.map oprE.toArray 10))
        have h45 : W4.heap.size < (W4.alloc (.map oprE.toArray 10)).heap.size := blk_lt T5.out
        clear P4 G4 K4 Q4
        generalize W4.alloc (.map oprE.toArray 10) = W5 at Q5 P5 G5 K5 T5 h45
        generalize W4.heap.size = r3 at T5 h45 h48
        have hrg := run_range_opr W5 r3 T5.out
        have I6 : Hid ((W5.alloc (.mapIter (some r3) 10 #[] 10)).heap[W5.heap.size]? = some (.mapIter (some r3) 10 #[] 10)) := Lib.hid (blk_new W5 _)
        have T6 := Lib.hid (blk_alloc T5.out (.mapIter (some r3) 10 #[] 10))
        have P6 := Lib.hid (P5.out.below (below_allocs _ (.mapIter (some r3) 10 #[] 10)))
        have G6 := Lib.hid (grown_alloc G5.out (.mapIter (some r3) 10 #[] 10))
        have K6 := Lib.hid (blk_alloc K5.out (.mapIter (some r3) 10 #[] 10))
        have Q6 := Lib.hid (blk_alloc Q5.out (.mapIter (some r3) 10 #[] 10))
        clear P5 G5 K5 Q5 T5
        go_wp2_with fail
        clear hrg
        generalize W5.alloc (.mapIter (some r3) 10 #[] 10) = W6 at Q6 P6 G6 K6 T6 I6
        generalize W5.heap.size = N3 at I6 h45
        go_loopg [] 10 (fun g1 wx => ∃ (seen : Array Nat) (c0 : Nat) (z : Int), leftN seen ≤ g1 ∧ 10 ≤ c0 ∧ Hid (SymIn s1 seen z) ∧ Hid (wx.heap[N3]? = some (.mapIter (some r3) 10 seen c0)) ∧ Hid (TabAt wx r3) ∧ Hid (PAt wx B b g NV SV s1) ∧ Hid (w.grownBy wx (some b)) ∧ Hid (wx.heap[N2]? = some (.cells #[.int .i64 0, .int .i64 0, .int .i64 0, .int .i64 0] 32 (0, 0))) ∧ Hid (wx.heap[N8]? = some (.cells #[.int .i64 z, .int .i64 a, .int .i64 0, .int .i64 0] 32 (0, 0))))
        case atStart => exact ⟨#[], 10, 0, by decide +kernel, by decide, Lib.hid ⟨fun k o _ h => by simp at h, Or.inl rfl⟩, I6, T6, P6, G6, K6, Q6⟩
        case round =>
          clear P6 G6 K6 Q6 T6 I6
          obtain ⟨seen, c0, z, hl1, hc0, HS, HI, HT, HP, HG, HK, HQ⟩ := hrel
          have hQd : some N8 ≠ some N3 := by intro e; injection e with e; omega
          have hKd : some N2 ≠ some N3 := by intro e; injection e with e; omega
          rcases map_step wr N3 r3 c0 seen HI.out HT.out hc0 with ⟨hall, hnx⟩ | ⟨k, o, wn, hko, hns, hnx, hent, hIn, hg, hless⟩
          · have HA := Lib.hid (symIn_all HS.out hall)
            clear hall HS
            have q0 := blk_cell HQ.out 0
            clear hQd hKd HI HT
            have h8w : w.heap.size ≤ N8 := by omega
            have h28 : N2 ≠ N8 := by omega
            have hmB : ∀ (x : Nat), w.heap.size ≤ x → some x ≠ some b := by intro x hx e; injection e with e; omega
            have HM := Lib.hid hmB
            clear hmB
            rcases HA.out with ⟨hs0, rfl⟩ | ⟨o, hs0, hz1⟩
            · have HRf : Hid (failP 5 s1 = R) := Lib.hid (by
                have := HRn.out
                simp only [PR.andThen, hs0] at this
                exact this)
              clear HA hs0 HRn
              go_wp2_with fail
              refine (fail_in B b g NV SV s1 5 _ HP.out).mono ?_
              rintro e w' ⟨rfl, rfl⟩
              rw [show R = failP 5 s1 from HRf.out.symm]
              exact ⟨rfl, rfl, below_of_grown HG.out HBb.out hbl⟩
            · have HRf : Hid (((operandP s1.rest false).andThen fun b s3 => .ok ⟨z, a, b, 0⟩ s3) = R) := Lib.hid (by
                have := HRn.out
                simp only [PR.andThen, hs0] at this
                exact this)
              have hne := headSym_ne hs0
              have hz2 : (z == 0) = false := by simp; omega
              clear HA hs0 HRn
              go_wp2_with fail
              refine (take_calls B b g NV SV s1 _ HP.out hne).mono ?_
              rintro e w8 ⟨rfl, hp, hg⟩
              have P8 := Lib.hid hp
              have G8 := Lib.hid (grown_trans HG.out hg)
              have K8 := Lib.hid (blk_grown HK.out hg (HM.out _ hwN2))
              have Q8 := Lib.hid (blk_grown HQ.out hg (HM.out _ h8w))
              clear hp hg HP HG HK HQ q0 hne hz1 hz2
              go_wp2_with fail
              obtain ⟨F, hF⟩ : ∃ F, operandP s1.rest false = F := ⟨_, rfl⟩
              refine (operand_calls B b g NV SV s1.rest false _ P8.out).mono ?_
              intro e w9 hpost
              rw [hF] at HRf hpost
              clear hF
              cases F with
              | bad e0 a0 =>
                obtain ⟨rfl, hb⟩ := hpost
                rw [show R = .bad e0 a0 from HRf.out.symm]
                exact ⟨rfl, rfl, below_up_b HBb.out G8.out hbl hb⟩
              | ok d s4 =>
                obtain ⟨rfl, hp, hg⟩ := hpost
                have P9 := Lib.hid hp
                have G9 := Lib.hid (grown_trans G8.out hg)
                have R9 := Lib.hid (blk_grown Q8.out hg (HM.out _ h8w))
                have K9 := Lib.hid (blk_grown K8.out hg (HM.out _ hwN2))
                have c0 := blk_cell R9.out 0
                have c1 := blk_cell R9.out 1
                have c2 := blk_cell R9.out 2
                have c3 := blk_cell R9.out 3
                have f2 := blk_frozen R9.out 2
                have z0 := blk_cell K9.out 0
                have z1 := blk_cell K9.out 1
                have z2 := blk_cell K9.out 2
                have z3 := blk_cell K9.out 3
                have y0 := blk_frozen K9.out 0
                have y1 := blk_frozen K9.out 1
                have y2 := blk_frozen K9.out 2
                have y3 := blk_frozen K9.out 3
                clear hp hg G8 P8 K8 Q8
                unfold intV
                go_wp2_with fail
                have hE := blk_grown K9.out (setCell_grown w9 ⟨N8, 2, none⟩ (.int .i64 d)) (by intro e; injection e with e; exact h28 e)
                refine cell_end rfl rfl (fs_put hE _ _ _ _) Tryd.underlying32 rfl (by kernel_rfl) rfl ?_
                rw [show R = .ok ⟨z, a, d, 0⟩ s4 from HRf.out.symm]
                exact ⟨rfl, fs_done H.out (H.out.far P9.out _ _ h8w) (far_grown G9.out _ _ h8w) hwN2 _ _ _ _⟩
          · cases gk with
            | zero => omega
            | succ g1 =>
            have HTn := Lib.hid (tab_grown HT.out HI.out hg)
            have HPn := Lib.hid (H.out.farg HP.out hg (by omega))
            have HGn := Lib.hid (farg_grown HG.out hg (by omega))
            have HKn := Lib.hid (blk_grown HK.out hg hKd)
            have HQn := Lib.hid (blk_grown HQ.out hg hQd)
            have HIn := Lib.hid hIn
            have HKO := Lib.hid hko
            have hem := word_empty o.sym
            simp only [oprV, oprCells] at hent hnx
            clear hIn hg HI HT HP HG HK HQ hko hns hKd hQd
            by_cases hw : o.sym = []
            · have HSn := Lib.hid (symIn_skip HS.out HKO.out (Or.inl hw))
              rw [decide_eq_true hw] at hem
              clear hw HS
              go_wp2_with fail
              go_roundg g1
              case measure => omega
              case rel => exact ⟨_, 10, z, by omega, by decide, HSn, Lib.hid (blk_alloc HIn.out _), Lib.hid (blk_alloc HTn.out _), Lib.hid (HPn.out.below (below_allocs _ _)), Lib.hid (grown_alloc HGn.out _), Lib.hid (blk_alloc HKn.out _), Lib.hid (blk_alloc HQn.out _)⟩
            · have hem2 : (!(bs o.sym).toList.isEmpty) = true := by rw [hem, decide_eq_false hw]; rfl
              rw [decide_eq_false hw] at hem
              have hsee : Calls Tryd.prog 58 #[.pointer (some ⟨b, 0, none⟩), .int .i64 4, .string (bs o.sym)] (wn.alloc (.cells #[.string (bs o.word), .string (bs o.sym), .int .i64 o.arity, .bool o.takes, .bool o.makes, .int .i64 o.most] 68)) _ := sees_calls B b g NV SV s1 4 o.sym _ (HPn.out.below (below_allocs _ _))
              have HSE := Lib.hid hsee
              clear hsee
              cases hse : seesP s1 4 o.sym with
              | false =>
                have HSn := Lib.hid (symIn_skip HS.out HKO.out (Or.inr hse))
                have HSF := Lib.hid hse
                clear hw HS hse
                go_wp2_with fail
                refine HSE.out.mono ?_
                rintro e w1 ⟨rfl, rfl⟩
                rw [HSF.out]
                go_wp2_with fail
                go_roundg g1
                case measure => omega
                case rel => exact ⟨_, 10, z, by omega, by decide, HSn, Lib.hid (blk_alloc HIn.out _), Lib.hid (blk_alloc HTn.out _), Lib.hid (HPn.out.below (below_allocs _ _)), Lib.hid (grown_alloc HGn.out _), Lib.hid (blk_alloc HKn.out _), Lib.hid (blk_alloc HQn.out _)⟩
              | true =>
                have HSn := Lib.hid (symIn_put HS.out HKO.out hw hse)
                have HSF := Lib.hid hse
                clear hw HS hse
                go_wp2_with fail
                refine HSE.out.mono ?_
                rintro e w1 ⟨rfl, rfl⟩
                rw [HSF.out]
                have f0 := blk_frozen (blk_alloc HQn.out (.cells #[.string (bs o.word), .string (bs o.sym), .int .i64 o.arity, .bool o.takes, .bool o.makes, .int .i64 o.most] 68)) 0
                have g0 := blk_cell (blk_alloc HQn.out (.cells #[.string (bs o.word), .string (bs o.sym), .int .i64 o.arity, .bool o.takes, .bool o.makes, .int .i64 o.most] 68)) 0
                go_wp2_with fail
                have hst := setCell_grown (wn.alloc (.cells #[.string (bs o.word), .string (bs o.sym), .int .i64 o.arity, .bool o.takes, .bool o.makes, .int .i64 o.most] 68)) ⟨N8, 0, none⟩ (.int .i64 k)
                have h8w : w.heap.size ≤ N8 := by omega
                go_roundg g1
                case measure => omega
                case rel => exact ⟨_, 10, k, by omega, by decide, HSn, Lib.hid (blk_grown (blk_alloc HIn.out _) hst (by intro e; injection e with e; dsimp at e; omega)), Lib.hid (blk_grown (blk_alloc HTn.out _) hst (by intro e; injection e with e; dsimp at e; omega)), Lib.hid (H.out.far (HPn.out.below (below_allocs _ _)) _ _ h8w), Lib.hid (far_grown (grown_alloc HGn.out _) _ _ h8w), Lib.hid (blk_grown (blk_alloc HKn.out _) hst (by intro e; injection e with e; dsimp at e; omega)), Lib.hid (blk_put (blk_alloc HQn.out _) 0 _ rfl)⟩
    · cases gk with
      | zero => omega
      | succ g1 =>
      have HTn := Lib.hid (tab_grown HT.out HI.out hg)
      have HBn := Lib.hid (below_iter HB.out hg (by rw [HN2.out]; omega))
      have HKn := Lib.hid ((hg.block N2 (blk_lt HK.out) (by simp; omega)).trans HK.out)
      have HIn := Lib.hid hIn
      have HKO := Lib.hid hko
      have hem := word_empty o.word
      have hwn : N2 < wn.heap.size := Nat.lt_of_lt_of_le (blk_lt HK.out) hg.size
      simp only [oprV, oprCells] at hent hnx
      clear hIn hg HI HT HB HK hko hns
      by_cases hw : o.word = []
      · have HSn : Hid (∀ k' o', (k', o') ∈ oprL → (seen.push (k.toNat - 1)).contains (k'.toNat - 1) = true → o'.word = [] ∨ seesP s 1 o'.word = false) := Lib.hid (by
          intro k' o' h' hc
          rw [contains_push, Bool.or_eq_true] at hc
          rcases hc with hc | hc
          · exact HS.out k' o' h' hc
          · obtain ⟨rfl, rfl⟩ := born_inj h' HKO.out (by simpa using hc)
            exact Or.inl hw)
        rw [decide_eq_true hw] at hem
        clear hw HS
        go_wp2_with fail
        go_roundg g1
        case measure => omega
        case rel => exact ⟨_, 10, by omega, by decide, HSn, Lib.hid (blk_alloc HIn.out _), Lib.hid (blk_alloc HTn.out _), Lib.hid (below_alloc HBn.out _), Lib.hid (blk_alloc HKn.out _)⟩
      · have hem2 : (!(bs o.word).toList.isEmpty) = true := by rw [hem, decide_eq_false hw]; rfl
        rw [decide_eq_false hw] at hem
        have hsee : Calls Tryd.prog 58 #[.pointer (some ⟨b, 0, none⟩), .int .i64 1, .string (bs o.word)] (wn.alloc (.cells #[.string (bs o.word), .string (bs o.sym), .int .i64 o.arity, .bool o.takes, .bool o.makes, .int .i64 o.most] 68)) _ := sees_calls B b g NV SV s 1 o.word _ (H.out.below (below_alloc HBn.out _))
        have HSE := Lib.hid hsee
        clear hsee
        cases hse : seesP s 1 o.word with
        | false =>
          have HSn : Hid (∀ k' o', (k', o') ∈ oprL → (seen.push (k.toNat - 1)).contains (k'.toNat - 1) = true → o'.word = [] ∨ seesP s 1 o'.word = false) := Lib.hid (by
            intro k' o' h' hc
            rw [contains_push, Bool.or_eq_true] at hc
            rcases hc with hc | hc
            · exact HS.out k' o' h' hc
            · obtain ⟨rfl, rfl⟩ := born_inj h' HKO.out (by simpa using hc)
              exact Or.inr hse)
          have HSF := Lib.hid hse
          clear hw HS hse
          go_wp2_with fail
          refine HSE.out.mono ?_
          rintro e w1 ⟨rfl, rfl⟩
          rw [HSF.out]
          go_wp2_with fail
          go_roundg g1
          case measure => omega
          case rel => exact ⟨_, 10, by omega, by decide, HSn, Lib.hid (blk_alloc HIn.out _), Lib.hid (blk_alloc HTn.out _), Lib.hid (below_alloc HBn.out _), Lib.hid (blk_alloc HKn.out _)⟩
        | true =>
          have HW := Lib.hid (headWord_hit HKO.out hw hse)
          have HNE := Lib.hid (seesP_ne hse)
          have HSF := Lib.hid hse
          clear hw HS hse hless
          go_wp2_with fail
          refine HSE.out.mono ?_
          rintro e w1 ⟨rfl, rfl⟩
          rw [HSF.out]
          go_wp2_with fail
          have KO : Hid ((wn.alloc (.cells #[.string (bs o.word), .string (bs o.sym), .int .i64 o.arity, .bool o.takes, .bool o.makes, .int .i64 o.most] 68)).heap[wn.heap.size]? = some (.cells #[.string (bs o.word), .string (bs o.sym), .int .i64 o.arity, .bool o.takes, .bool o.makes, .int .i64 o.most] 68 (0, 0))) := Lib.hid (blk_new wn _)
          have B5 := Lib.hid (below_alloc HBn.out (.cells #[.string (bs o.word), .string (bs o.sym), .int .i64 o.arity, .bool o.takes, .bool o.makes, .int .i64 o.most] 68))
          have K5 := Lib.hid (blk_alloc HKn.out (.cells #[.string (bs o.word), .string (bs o.sym), .int .i64 o.arity, .bool o.takes, .bool o.makes, .int .i64 o.most] 68))
          have P5 := Lib.hid (H.out.below B5.out)
          clear HSE
          generalize wn.alloc (.cells #[.string (bs o.word), .string (bs o.sym), .int .i64 o.arity, .bool o.takes, .bool o.makes, .int .i64 o.most] 68) = W5 at KO B5 K5 P5
          have hO : N2 < wn.heap.size := hwn
          generalize wn.heap.size = NO at KO hO
          clear hwn HBn HTn HIn HKn hent hnx HSF
          refine (take_calls B b g NV SV s _ P5.out HNE.out).mono ?_
          rintro e w6 ⟨rfl, hp, hg⟩
          have P6 := Lib.hid hp
          have G6 := Lib.hid (grown_below_l B5.out hg)
          have hN2b : some N2 ≠ some b := by intro e; injection e with e; have := HN2.out; omega
          have hNOb : some NO ≠ some b := by intro e; injection e with e; have := HN2.out; omega
          have K6 := Lib.hid (blk_grown K5.out hg hN2b)
          have KO6 := Lib.hid (blk_grown KO.out hg hNOb)
          obtain ⟨n, hn2, hn⟩ := opr_arity HKO.out
          have HA := Lib.hid hn
          rw [hn] at KO6
          have hb5 : b < w6.heap.size := P6.out.lt
          have hO5 : NO < w6.heap.size := blk_lt KO6.out
          have h25 : N2 < w6.heap.size := blk_lt K6.out
          have hwN2 : w.heap.size ≤ N2 := by rw [HN2.out]; exact Nat.le_refl _
          have HF : Hid (fromP k o 0 0 0 s.rest = R) := Lib.hid (by rw [← HR.out, stepP_word HW.out])
          have Q5 : Hid ((w6.alloc (.cells #[.int .i64 k, .int .i64 0, .int .i64 0, .int .i64 0] 32)).heap[w6.heap.size]? = some (.cells #[.int .i64 k, .int .i64 0, .int .i64 0, .int .i64 0] 32 (0, 0))) := Lib.hid (blk_new w6 _)
          have Q6 : Hid (((w6.alloc (.cells #[.int .i64 k, .int .i64 0, .int .i64 0, .int .i64 0] 32)).alloc (.cells #[.pointer (some ⟨w6.heap.size, 1, none⟩), .pointer (some ⟨w6.heap.size, 2, none⟩)] 135)).heap[w6.heap.size + 1]? = some (.cells #[.pointer (some ⟨w6.heap.size, 1, none⟩), .pointer (some ⟨w6.heap.size, 2, none⟩)] 135 (0, 0))) := Lib.hid (by
            have := blk_new (w6.alloc (.cells #[.int .i64 k, .int .i64 0, .int .i64 0, .int .i64 0] 32)) (.cells #[.pointer (some ⟨w6.heap.size, 1, none⟩), .pointer (some ⟨w6.heap.size, 2, none⟩)] 135)
            rwa [World.size_alloc] at this)
          have ko2 := blk_cell KO6.out 2
          have hnI : (n : Int) ≤ 2 := by omega
          have hnI0 : (0 : Int) ≤ (n : Int) := by omega
          clear hp hg K5 KO B5 P5 hn HR HW HNE hN2b hNOb
          go_wp2_with fail
          have R5 := Lib.hid (blk_alloc Q5.out (.cells #[.pointer (some ⟨w6.heap.size, 1, none⟩), .pointer (some ⟨w6.heap.size, 2, none⟩)] 135))
          have KO7 := Lib.hid (blk_alloc (blk_alloc KO6.out (.cells #[.int .i64 k, .int .i64 0, .int .i64 0, .int .i64 0] 32)) (.cells #[.pointer (some ⟨w6.heap.size, 1, none⟩), .pointer (some ⟨w6.heap.size, 2, none⟩)] 135))
          have K7 := Lib.hid (blk_alloc (blk_alloc K6.out (.cells #[.int .i64 k, .int .i64 0, .int .i64 0, .int .i64 0] 32)) (.cells #[.pointer (some ⟨w6.heap.size, 1, none⟩), .pointer (some ⟨w6.heap.size, 2, none⟩)] 135))
          have P7 := Lib.hid ((P6.out.below (below_allocs _ (.cells #[.int .i64 k, .int .i64 0, .int .i64 0, .int .i64 0] 32))).below (below_allocs _ (.cells #[.pointer (some ⟨w6.heap.size, 1, none⟩), .pointer (some ⟨w6.heap.size, 2, none⟩)] 135)))
          have G7 := Lib.hid (grown_alloc (grown_alloc G6.out (.cells #[.int .i64 k, .int .i64 0, .int .i64 0, .int .i64 0] 32)) (.cells #[.pointer (some ⟨w6.heap.size, 1, none⟩), .pointer (some ⟨w6.heap.size, 2, none⟩)] 135))
          clear ko2 Q5 KO6 K6 P6 G6
          generalize w6.heap.size = N5 at R5 Q6 KO7 K7 P7 G7 hb5 hO5 h25
          generalize ((w6.alloc (.cells #[.int .i64 k, .int .i64 0, .int .i64 0, .int .i64 0] 32)).alloc (.cells #[.pointer (some ⟨N5, 1, none⟩), .pointer (some ⟨N5, 2, none⟩)] 135)) = W7 at R5 Q6 KO7 K7 P7 G7
          go_loopg [39] 3 (fun g2 v39 wx => ∃ (i : Nat) (a d : Int) (si : PState), i ≤ n ∧ n + 1 - i ≤ g2 ∧ v39 = .int .i64 i ∧ Hid (i < 1 → a = 0) ∧ Hid (i < 2 → d = 0) ∧ Hid (fromP k o i a d si = R) ∧ Hid (PAt wx B b g NV SV si) ∧ Hid (w.grownBy wx (some b)) ∧ Hid (wx.heap[NO]? = some (.cells #[.string (bs o.word), .string (bs o.sym), .int .i64 n, .bool o.takes, .bool o.makes, .int .i64 o.most] 68 (0, 0))) ∧ Hid (wx.heap[N5]? = some (.cells #[.int .i64 k, .int .i64 a, .int .i64 d, .int .i64 0] 32 (0, 0))) ∧ Hid (wx.heap[N5 + 1]? = some (.cells #[.pointer (some ⟨N5, 1, none⟩), .pointer (some ⟨N5, 2, none⟩)] 135 (0, 0))) ∧ Hid (wx.heap[N2]? = some (.cells #[.int .i64 0, .int .i64 0, .int .i64 0, .int .i64 0] 32 (0, 0))))
          case atStart => exact ⟨0, 0, 0, s.rest, Nat.zero_le _, by omega, rfl, Lib.hid (fun _ => rfl), Lib.hid (fun _ => rfl), HF, P7, G7, KO7, R5, Q6, K7⟩
          case round =>
            obtain ⟨i, a, d, si, hin, hgi, rfl, HA0, HD0, HFi, P8, G8, KO8, R8, Q8, K8⟩ := hrel
            clear P7 G7 KO7 R5 Q6 K7 HF
            have o2 := blk_cell KO8.out 2
            have o3 := blk_cell KO8.out 3
            have o5 := blk_cell KO8.out 5
            by_cases hlt : i < n
            · have hltI : (i : Int) < (n : Int) := by omega
              have hi2 : i < 2 := by omega
              obtain ⟨g2, rfl⟩ : ∃ g2, gk = g2 + 1 := ⟨gk - 1, by omega⟩
              have hFi : (operandP si o.takes).andThen (fun v s2 => fromP k o (i + 1) (setArg i v a d).1 (setArg i v a d).2 s2) = R := by rw [← fromP_step (by rw [HA.out]; exact hltI) hi2]; exact HFi.out
              have HFj := Lib.hid hFi
              obtain ⟨F, hF⟩ : ∃ F, operandP si o.takes = F := ⟨_, rfl⟩
              have HFo := Lib.hid hF
              clear hFi hF HFi
              rw [HFo.out] at HFj
              have hmB : ∀ (x : Nat), w.heap.size ≤ x → some x ≠ some b := by intro x hx e; injection e with e; omega
              have hN5w : w.heap.size ≤ N5 := by omega
              have HM := Lib.hid hmB
              clear hmB
              match i, hi2, hltI, hlt with
              | 0, _, hltI, hlt =>
                have q0 := blk_cell Q8.out 0
                go_wp2_with fail
                refine (operand_calls B b g NV SV si o.takes _ P8.out).mono ?_
                intro e w9 hpost
                rw [HFo.out] at hpost
                cases F with
                | bad e0 a0 =>
                  obtain ⟨rfl, hb⟩ := hpost
                  rw [show R = .bad e0 a0 from HFj.out.symm]
                  exact ⟨rfl, rfl, below_up_b HBb.out G8.out hbl hb⟩
                | ok vv s2 =>
                  obtain ⟨rfl, hp, hg⟩ := hpost
                  have P9 := Lib.hid hp
                  have G9 := Lib.hid (grown_trans G8.out hg)
                  have R9 := Lib.hid (blk_grown R8.out hg (HM.out _ hN5w))
                  have K9 := Lib.hid (blk_grown K8.out hg (HM.out _ hwN2))
                  have Q9 := Lib.hid (blk_grown Q8.out hg (HM.out _ (by omega)))
                  have KO9 := Lib.hid (blk_grown KO8.out hg (HM.out _ (by omega)))
                  have f1 := blk_frozen R9.out 1
                  have c1 := blk_cell R9.out 1
                  clear hp hg o2 o3 o5 G8 P8 R8 K8 Q8 KO8
                  unfold intV
                  go_wp2_with fail
                  have hst := setCell_grown w9 ⟨N5, 1, none⟩ (.int .i64 vv)
                  go_roundg g2
                  case measure => omega
                  case rel =>
                    exact ⟨1, vv, d, s2, by omega, by omega, rfl, Lib.hid (by omega), Lib.hid (fun _ => HD0.out (by omega)), Lib.hid HFj.out, Lib.hid (H.out.far P9.out _ _ hN5w), Lib.hid (far_grown G9.out _ _ hN5w), Lib.hid (blk_grown KO9.out hst (by intro e; injection e with e; dsimp at e; omega)), Lib.hid (blk_put R9.out 1 _ rfl), Lib.hid (blk_grown Q9.out hst (by intro e; injection e with e; dsimp at e; omega)), Lib.hid (blk_grown K9.out hst (by intro e; injection e with e; dsimp at e; omega))⟩
              | 1, _, hltI, hlt =>
                have q1 := blk_cell Q8.out 1
                go_wp2_with fail
                refine (operand_calls B b g NV SV si o.takes _ P8.out).mono ?_
                intro e w9 hpost
                rw [HFo.out] at hpost
                cases F with
                | bad e0 a0 =>
                  obtain ⟨rfl, hb⟩ := hpost
                  rw [show R = .bad e0 a0 from HFj.out.symm]
                  exact ⟨rfl, rfl, below_up_b HBb.out G8.out hbl hb⟩
                | ok vv s2 =>
                  obtain ⟨rfl, hp, hg⟩ := hpost
                  have P9 := Lib.hid hp
                  have G9 := Lib.hid (grown_trans G8.out hg)
                  have R9 := Lib.hid (blk_grown R8.out hg (HM.out _ hN5w))
                  have K9 := Lib.hid (blk_grown K8.out hg (HM.out _ hwN2))
                  have Q9 := Lib.hid (blk_grown Q8.out hg (HM.out _ (by omega)))
                  have KO9 := Lib.hid (blk_grown KO8.out hg (HM.out _ (by omega)))
                  have f2 := blk_frozen R9.out 2
                  have c2 := blk_cell R9.out 2
                  clear hp hg o2 o3 o5 G8 P8 R8 K8 Q8 KO8
                  unfold intV
                  go_wp2_with fail
                  have hst := setCell_grown w9 ⟨N5, 2, none⟩ (.int .i64 vv)
                  go_roundg g2
                  case measure => omega
                  case rel =>
                    exact ⟨2, a, vv, s2, by omega, by omega, rfl, Lib.hid (by omega), Lib.hid (by omega), Lib.hid HFj.out, Lib.hid (H.out.far P9.out _ _ hN5w), Lib.hid (far_grown G9.out _ _ hN5w), Lib.hid (blk_grown KO9.out hst (by intro e; injection e with e; dsimp at e; omega)), Lib.hid (blk_put R9.out 2 _ rfl), Lib.hid (blk_grown Q9.out hst (by intro e; injection e with e; dsimp at e; omega)), Lib.hid (blk_grown K9.out hst (by intro e; injection e with e; dsimp at e; omega))⟩
            · have hltI : ¬ (i : Int) < (n : Int) := by omega
              obtain rfl : i = n := by omega
              have HRs : Hid (restP k o a d si = R) := Lib.hid (by rw [← HFi.out]; exact (fromP_done HA.out hn2 HA0.out HD0.out).symm)
              clear HFi HA0 HD0
              have hne25 : N2 ≠ N5 := by omega
              have hmB : ∀ (x : Nat), w.heap.size ≤ x → some x ≠ some b := by intro x hx e; injection e with e; omega
              have hN5w : w.heap.size ≤ N5 := by omega
              unfold restP at HRs
              by_cases hm : 0 < o.most
              · rw [decide_eq_true hm] at HRs
                simp only [optP, if_true] at HRs
                go_wp2_with fail
                obtain ⟨F, hF⟩ : ∃ F, numberP si 0 o.most = F := ⟨_, rfl⟩
                refine (number_calls B b g NV SV si 0 o.most _ P8.out).mono ?_
                intro e w9 hpost
                rw [hF] at HRs hpost
                clear hF
                cases F with
                | bad e0 a0 =>
                  obtain ⟨rfl, hb⟩ := hpost
                  rw [show R = .bad e0 a0 from HRs.out.symm]
                  exact ⟨rfl, rfl, below_up_b HBb.out G8.out hbl hb⟩
                | ok nn s4 =>
                  obtain ⟨rfl, hp, hg⟩ := hpost
                  have P9 := Lib.hid hp
                  have G9 := Lib.hid (grown_trans G8.out hg)
                  have R9 := Lib.hid (blk_grown R8.out hg (hmB _ hN5w))
                  have K9 := Lib.hid (blk_grown K8.out hg (hmB _ hwN2))
                  have c0 := blk_cell R9.out 0
                  have c1 := blk_cell R9.out 1
                  have c2 := blk_cell R9.out 2
                  have c3 := blk_cell R9.out 3
                  have f3 := blk_frozen R9.out 3
                  have z0 := blk_cell K9.out 0
                  have z1 := blk_cell K9.out 1
                  have z2 := blk_cell K9.out 2
                  have z3 := blk_cell K9.out 3
                  have y0 := blk_frozen K9.out 0
                  have y1 := blk_frozen K9.out 1
                  have y2 := blk_frozen K9.out 2
                  have y3 := blk_frozen K9.out 3
                  clear hp hg o2 o3 o5 G8 P8 R8 K8 hmB
                  unfold intV
                  go_wp2_with fail
                  have hE := blk_grown K9.out (setCell_grown w9 ⟨N5, 3, none⟩ (.int .i64 nn)) (by intro e; injection e with e; exact hne25 e)
                  refine cell_end rfl rfl (fs_put hE _ _ _ _) Tryd.underlying32 rfl (by kernel_rfl) rfl ?_
                  rw [show R = .ok ⟨k, a, d, nn⟩ s4 from HRs.out.symm]
                  exact ⟨rfl, fs_done H.out (H.out.far P9.out _ _ hN5w) (far_grown G9.out _ _ hN5w) hwN2 _ _ _ _⟩
              · rw [decide_eq_false hm] at HRs
                have c0 := blk_cell R8.out 0
                have c1 := blk_cell R8.out 1
                have c2 := blk_cell R8.out 2
                have c3 := blk_cell R8.out 3
                have z0 := blk_cell K8.out 0
                have z1 := blk_cell K8.out 1
                have z2 := blk_cell K8.out 2
                have z3 := blk_cell K8.out 3
                have y0 := blk_frozen K8.out 0
                have y1 := blk_frozen K8.out 1
                have y2 := blk_frozen K8.out 2
                have y3 := blk_frozen K8.out 3
                clear hmB
                go_wp2_with fail
                refine cell_end rfl rfl (fs_put K8.out _ _ _ _) Tryd.underlying32 rfl (by kernel_rfl) rfl ?_
                rw [show R = .ok ⟨k, a, d, 0⟩ si from HRs.out.symm]
                exact ⟨rfl, fs_done H.out P8.out G8.out hwN2 _ _ _ _⟩
end Go.Proofs.YtamabdijeklgjaaDoor.Ext

/- The two appends of flow.parser.flow: what they keep. -/
namespace Go.Proofs.YtamabdijeklgjaaDoor.Ext
open Go Go.Proofs Go.RowKit Go.Proofs.YtamabdijeklgjaaDoorW.PrintWords Go.Proofs.YtamabdijeklgjaaDoorW.PrintLast
set_option linter.unusedVariables false
set_option linter.unusedSimpArgs false

theorem below_b {w w1 w2 : World} {B b : Nat} (h : Below B w w1) (hg : w1.grownBy w2 (some b)) (hb : B ≤ b) (hl : b < w1.heap.size) : Below B w w2 := by
  have k := below_of_grown hg hb hl
  exact ⟨k.os.trans h.os, k.tape.trans h.tape, k.output.trans h.output, Nat.le_trans h.size k.size, fun i hi => (k.block i hi).trans (h.block i hi)⟩
theorem below_bb {w w1 w2 : World} {B : Nat} (h : Below B w w1) (k : Below B w1 w2) : Below B w w2 :=
  ⟨k.os.trans h.os, k.tape.trans h.tape, k.output.trans h.output, Nat.le_trans h.size k.size, fun i hi => (k.block i hi).trans (h.block i hi)⟩
structure RowsAt (w0 w : World) (B b g N3 : Nat) (NV SV v1 v2 : Value) (s : PState) (xs : List FS) (ns : List (List UInt8)) (x : FS) : Prop where
  blk : ∃ TA tc, w.heap[b]? = some (.cells (pcells TA tc NV SV s) 92 (0, 0)) ∧ s.toks.length ≤ tc ∧ TokRow w g TA s.toks
  o1 : w.ownsRow B 32 4 v1 xs.length (encFS xs)
  o2 : w.ownsRow B 9 1 v2 ns.length (encN ns)
  n3 : w.heap[N3]? = some (.cells #[.int .i64 x.f0, .int .i64 x.f1, .int .i64 x.f2, .int .i64 x.f3] 32 (0, 0))
  d3 : some N3 ≠ v1.ownBlock
  below : Below B w0 w
  bb : B ≤ b
  gb : g < b
section
variable {w0 w w' : World} {B b g N3 : Nat} {NV SV v1 v2 : Value} {s : PState} {xs : List FS} {ns : List (List UInt8)} {x : FS}
theorem RowsAt.lt (h : RowsAt w0 w B b g N3 NV SV v1 v2 s xs ns x) : b < w.heap.size := by
  obtain ⟨_, _, h1, _⟩ := h.blk
  exact blk_lt h1
theorem RowsAt.alloc (h : RowsAt w0 w B b g N3 NV SV v1 v2 s xs ns x) (o : Obj) : RowsAt w0 (w.alloc o) B b g N3 NV SV v1 v2 s xs ns x := by
  obtain ⟨TA, tc, h1, h2, h3⟩ := h.blk
  exact ⟨⟨TA, tc, blk_alloc h1 o, h2, h3.keep fun cs hh => blk_alloc hh o⟩, h.o1.alloc o, h.o2.alloc o, blk_alloc h.n3 o, h.d3, below_bb h.below ((below_allocs w o).mono (Nat.le_trans h.bb (Nat.le_of_lt h.lt))), h.bb, h.gb⟩
theorem RowsAt.drew (h : RowsAt w0 w B b g N3 NV SV v1 v2 s xs ns x) : RowsAt w0 w.drew B b g N3 NV SV v1 v2 s xs ns x :=
  ⟨h.blk, h.o1, h.o2, h.n3, h.d3, h.below.drew, h.bb, h.gb⟩
theorem apart_of {e1 e2 : TypeId} {z1 z2 m1 m2 : Nat} {y1 y2 : List Value} (h1 : w.ownsRow B e1 z1 v1 m1 y1) (h2 : w.ownsRow B e2 z2 v2 m2 y2) (hne : e1 ≠ e2) : v2.ownBlock = none ∨ v2.ownBlock ≠ v1.ownBlock := by
  rcases h2.2 with ⟨rfl, _⟩ | ⟨g2, cap, cur, rfl, _, hh, _⟩
  · exact Or.inl rfl
  · exact Or.inr (own_ne h1 hh hne)
theorem RowsAt.app1 (h : RowsAt w0 w B b g N3 NV SV v1 v2 s xs ns x) (hg : w.grownBy w' v1.ownBlock) {v1' : Value} {ys : List FS} (ho : w'.ownsRow B 32 4 v1' ys.length (encFS ys)) (hd : some N3 ≠ v1'.ownBlock) :
    RowsAt w0 w' B b g N3 NV SV v1' v2 s ys ns x := by
  obtain ⟨TA, tc, h1, h2, h3⟩ := h.blk
  exact ⟨⟨TA, tc, (hg.block b (blk_lt h1) (own_ne h.o1 h1 (by decide))).trans h1, h2, h3.keep fun cs hh => (hg.block g (blk_lt hh) (own_ne h.o1 hh (by decide))).trans hh⟩, ho, h.o2.kept hg (apart_of h.o1 h.o2 (by decide)),
    (hg.block N3 (blk_lt h.n3) h.d3).trans h.n3, hd, h.below.grown hg (Nat.le_trans h.bb (Nat.le_of_lt h.lt)) (fun k hk => (h.o1.lt k hk).1), h.bb, h.gb⟩
theorem RowsAt.app2 (h : RowsAt w0 w B b g N3 NV SV v1 v2 s xs ns x) (hg : w.grownBy w' v2.ownBlock) {v2' : Value} {ms : List (List UInt8)} (ho : w'.ownsRow B 9 1 v2' ms.length (encN ms)) :
    RowsAt w0 w' B b g N3 NV SV v1 v2' s xs ms x := by
  obtain ⟨TA, tc, h1, h2, h3⟩ := h.blk
  exact ⟨⟨TA, tc, (hg.block b (blk_lt h1) (own_ne h.o2 h1 (by decide))).trans h1, h2, h3.keep fun cs hh => (hg.block g (blk_lt hh) (own_ne h.o2 hh (by decide))).trans hh⟩, h.o1.kept hg (apart_of h.o2 h.o1 (by decide)), ho,
    (hg.block N3 (blk_lt h.n3) (own_ne h.o2 h.n3 (by decide))).trans h.n3, h.d3, h.below.grown hg (Nat.le_trans h.bb (Nat.le_of_lt h.lt)) (fun k hk => (h.o2.lt k hk).1), h.bb, h.gb⟩
/-- what the region's loads read -/
theorem RowsAt.held (h : RowsAt w0 w B b g N3 NV SV v1 v2 s xs ns x) : w.cell? ⟨b, 5, none⟩ = some SV ∧ w.cell? ⟨b, 2, none⟩ = some NV ∧ w.cell? ⟨N3, 0, none⟩ = some (.int .i64 x.f0) ∧ w.cell? ⟨N3, 1, none⟩ = some (.int .i64 x.f1) ∧ w.cell? ⟨N3, 2, none⟩ = some (.int .i64 x.f2) ∧ w.cell? ⟨N3, 3, none⟩ = some (.int .i64 x.f3) := by
  obtain ⟨TA, tc, h1, _⟩ := h.blk
  exact ⟨blk_cell h1 5, blk_cell h1 2, blk_cell h.n3 0, blk_cell h.n3 1, blk_cell h.n3 2, blk_cell h.n3 3⟩
theorem RowsAt.fz (h : RowsAt w0 w B b g N3 NV SV v1 v2 s xs ns x) (i : Nat) : w.frozen? ⟨b, i, none⟩ = false := by
  obtain ⟨TA, tc, h1, _⟩ := h.blk
  exact blk_frozen h1 i
theorem RowsAt.done (h : RowsAt w0 w B b g N3 NV SV v1 v2 s xs ns x) (hl : xs.length = ns.length) (h40 : ns.length ≤ 40) :
    PAt ((w.setCell ⟨b, 5, none⟩ v1).setCell ⟨b, 2, none⟩ v2) B b g v2 v1 { s with steps := xs, names := ns } ∧ Below B w0 ((w.setCell ⟨b, 5, none⟩ v1).setCell ⟨b, 2, none⟩ v2) := by
  obtain ⟨TA, tc, h1, h2, h3⟩ := h.blk
  have e1 : (w.setCell ⟨b, 5, none⟩ v1).heap[b]? = some (.cells (pcells TA tc NV v1 s) 92 (0, 0)) := blk_put h1 5 v1 (by simp [pcells])
  have e2 : ((w.setCell ⟨b, 5, none⟩ v1).setCell ⟨b, 2, none⟩ v2).heap[b]? = some (.cells (pcells TA tc v2 v1 s) 92 (0, 0)) := blk_put e1 2 v2 (by simp [pcells])
  have g1 := setCell_grown w ⟨b, 5, none⟩ v1
  have g2 := setCell_grown (w.setCell ⟨b, 5, none⟩ v1) ⟨b, 2, none⟩ v2
  have hgb : some g ≠ some b := by intro e; injection e with e; have := h.gb; omega
  have hB : B ≤ w.heap.size := Nat.le_trans h.bb (Nat.le_of_lt h.lt)
  refine ⟨⟨TA, tc, e2, h2, h3.keep fun cs hh => ?_, own_grown (own_grown h.o2 h1 (by decide) g1) e1 (by decide) g2, own_grown (own_grown h.o1 h1 (by decide) g1) e1 (by decide) g2, h.bb, h40, hl, h.gb⟩, ?_⟩
  · exact blk_grown (blk_grown hh g1 hgb) g2 hgb
  · exact (h.below.grown g1 hB (fun k hk => by injection hk with hk; have hk' : b = k := hk; have := h.bb; omega)).grown g2 (by rw [size_setCell]; exact hB) (fun k hk => by injection hk with hk; have hk' : b = k := hk; have := h.bb; omega)
end
theorem rows_start {w0 w : World} {B b g N3 : Nat} {NV SV : Value} {s : PState} {x : FS} (h : PAt w B b g NV SV s) (hb : Below B w0 w) (hn : w.heap[N3]? = some (.cells #[.int .i64 x.f0, .int .i64 x.f1, .int .i64 x.f2, .int .i64 x.f3] 32 (0, 0))) (hd : some N3 ≠ SV.ownBlock) :
    RowsAt w0 w B b g N3 NV SV SV NV s s.steps s.names x := by
  obtain ⟨TA, tc, h1, h2, h3, h4, h5, h6, h7, h8, h9⟩ := h
  exact ⟨⟨TA, tc, h1, h2, h3⟩, h5, h4, hn, hd, hb, h6, h9⟩
theorem infoFS : (Tryd.prog.info? 32).map (fun i => (i.zero, i.size, i.bytes)) = some (some (.agg #[.int .i64 0, .int .i64 0, .int .i64 0, .int .i64 0]), 4, 32) := by kernel_rfl
theorem encFS_push (l : List FS) (x : FS) : encFS (l ++ [x]) = encFS l ++ [.int .i64 x.f0, .int .i64 x.f1, .int .i64 x.f2, .int .i64 x.f3] := by
  unfold encFS
  simp
theorem encN_push (l : List (List UInt8)) (x : List UInt8) : encN (l ++ [x]) = encN l ++ [.string (bs x)] := by
  unfold encN
  simp
def flowT14 : Bool × List (List Nat × List Nat) := (true, [([], []), ([], []), ([], []), ([2], [2]), ([3], [3]), ([4], [4]), ([5], [5]), ([], []), ([7], [7]), ([6, 8], [6, 8]), ([], []), ([10], [10]), ([11], [11]), ([12], [12]), ([], []), ([14], [14]), ([13, 15, 9], [13, 15]), ([0, 0, 2, 3, 4, 5, 6, 7, 8, 9, 13, 16], [0]), ([17, 0, 2, 3, 4, 5, 6, 7, 8, 9, 13, 16], [17]), ([18, 0, 2, 3, 4, 5, 6, 7, 8, 9, 13, 16], [18]), ([19, 9, 16, 0, 2, 3, 4, 5, 6, 7, 8, 9, 13, 16], [9, 19]), ([1, 0, 1, 2, 3, 4, 5, 6, 7, 8, 9, 10, 11, 12, 13, 14, 15, 16, 17, 18, 19, 20], [1]), ([21, 0, 1, 2, 3, 4, 5, 6, 7, 8, 9, 10, 11, 12, 13, 14, 15, 16, 17, 18, 19, 20], [21]), ([22, 16, 20, 0, 1, 2, 3, 4, 5, 6, 7, 8, 9, 10, 11, 12, 13, 14, 15, 16, 17, 18, 19, 20], [16, 22])])
def flowB14 : List Nat := [0, 0, 0, 4, 12, 28, 60, 0, 128, 508, 0, 1024, 3072, 7168, 0, 16384, 65532, 131069, 262141, 524285, 1048573, 2097151, 4194303, 8388607]
theorem flow_tab14 : rtab .any (opsOf Tryd.f37 14) = flowT14 := by kernel_rfl
theorem flow_bits14 : waitsOk flowT14.2 flowB14 = true := by kernel_rfl
end Go.Proofs.YtamabdijeklgjaaDoor.Ext
