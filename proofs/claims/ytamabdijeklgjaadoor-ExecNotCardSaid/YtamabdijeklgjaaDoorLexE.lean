/- lexer.scanner.next, walked: names, numbers, symbols. -/
import Derived.Test.YtamabdijeklgjaaDoorGa
namespace Go.Proofs.YtamabdijeklgjaaDoor.Ext
open Go Go.Proofs Go.RowKit Go.Proofs.YtamabdijeklgjaaDoorW.PrintWords
set_option linter.unusedVariables false
set_option linter.unusedSimpArgs false

def tokV (t : Tok) : Value := .agg #[.int .i64 t.kind, .string (bs t.text), .int .i64 t.n, .int .i64 t.at_]
def nxtV : Nxt → Value
  | .err e => .tuple #[.agg #[.int .i64 0, .string ⟨#[]⟩, .int .i64 0, .int .i64 0], .int .i64 0, .int .i64 e]
  | .tok t j => .tuple #[tokV t, .int .i64 j, .int .i64 0]
theorem ext_sub (s : ByteArray) (i j : Nat) : s.extract i j = bs (subL s.data.toList i j) := bs_of _ _ (Lib.extract_data s i j)
theorem decFrom_dec (l : List UInt8) (h : ∀ b ∈ l, 48 ≤ b.toNat ∧ b.toNat ≤ 57) : ∀ acc, Lib.decFrom acc l = some (l.foldl (fun n b => n * 10 + (b.toNat - 48)) acc) := by
  induction l with
  | nil => intro acc; rfl
  | cons b t ih =>
    intro acc
    rw [Lib.decFrom, Lib.digitVal, if_pos (h b (by simp))]
    exact ih (fun c hc => h c (by simp [hc])) _
theorem atoi_dec (l : List UInt8) (h : ∀ b ∈ l, 48 ≤ b.toNat ∧ b.toNat ≤ 57) (h0 : l ≠ []) : Lib.atoi l = some (decV l : Int) := by
  cases l with
  | nil => exact absurd rfl h0
  | cons b t =>
    have hb := h b (by simp)
    have h1 : ¬ (b == 45) = true := by intro e; have := eq_of_beq e; subst this; exact absurd hb.1 (by decide)
    have h2 : ¬ (b == 43) = true := by intro e; have := eq_of_beq e; subst this; exact absurd hb.1 (by decide)
    rw [Lib.atoi, if_neg h1, if_neg h2, Lib.decNat, if_neg (by simp), decFrom_dec _ h]
    rfl
theorem cls_digit {b : UInt8} (h : cls b = 4) : 48 ≤ b.toNat ∧ b.toNat ≤ 57 := by
  have : ∀ i ∈ List.range 256, clsN i = 4 → 48 ≤ i ∧ i ≤ 57 := by decide +kernel
  exact this b.toNat (by simp; exact UInt8.toNat_lt b) h
theorem span_all (cs : List Int) (l : List UInt8) (i : Nat) : ∀ b ∈ subL l i (spanE cs l i), cs.contains (cls b) = true := by
  intro b hb
  unfold subL spanE at hb
  rw [Nat.add_sub_cancel_left] at hb
  have : List.take ((l.drop i).takeWhile fun b => cs.contains (cls b)).length (l.drop i) = (l.drop i).takeWhile fun b => cs.contains (cls b) := (List.prefix_iff_eq_take.1 (List.takeWhile_prefix _)).symm
  rw [this] at hb
  exact List.all_eq_true.1 (List.all_takeWhile (p := fun b => cs.contains (cls b)) (l := l.drop i)) b hb
theorem below_up {B : Nat} {w w1 w2 : World} (h : Below B w w1) (hl : B < w1.heap.size) (k : Below w1.heap.size w1 w2) : Below B w w2 :=
  h.trans ⟨k.os, k.tape, k.output, k.size, fun i hi => k.block i (Nat.lt_trans hi hl)⟩
theorem tok_ret {w w1 : World} {B C : Nat} {t : TypeId} {a b c d : Value} (K : w1.heap[C]? = some (.cells #[a, b, c, d] t (0, 0))) (hb : Below B w w1) (hB : B ≤ C) (p q r s : Value) :
    ((((w1.setCell ⟨C, 0, none⟩ p).setCell ⟨C, 1, none⟩ q).setCell ⟨C, 2, none⟩ r).setCell ⟨C, 3, none⟩ s).heap[C]? = some (.cells #[p, q, r, s] t (0, 0)) ∧
      Below B w ((((w1.setCell ⟨C, 0, none⟩ p).setCell ⟨C, 1, none⟩ q).setCell ⟨C, 2, none⟩ r).setCell ⟨C, 3, none⟩ s) :=
  ⟨blk_put (blk_put (blk_put (blk_put K 0 p rfl) 1 q rfl) 2 r rfl) 3 s rfl, (((hb.setCell hB _).setCell hB _).setCell hB _).setCell hB _⟩
theorem while_new (b : Nat) (s : ByteArray) (i : Nat) (cs : List Int) (n : Nat) (arr : Array Value) (hn : n = cs.length) (ha : arr = (cs.map (Value.int .i64)).toArray) (hc : cs.length ≤ 10) (hs : s.size ≤ 140737488351232) (hi : i ≤ s.size) (w : World) (h : ScanAt w b s) :
    Calls Tryd.prog 69 #[.pointer (some ⟨b, 0, none⟩), .int .i64 i, .slice (some ⟨w.heap.size, 0, none⟩) n n] (w.alloc (.cells arr 3)) fun e w' => e = .returned (.int .i64 (spanE cs s.data.toList i)) ∧ Below w.heap.size w w' := by
  subst hn ha
  have hb : Below w.heap.size w (w.alloc (.cells (cs.map (Value.int .i64)).toArray 3)) := (Below.refl _ _).alloc (Nat.le_refl _) _
  refine (while_calls b s i w.heap.size cs.length cs.length cs rfl hc hs hi _ (h.below hb) (introw_new w _ cs)).mono ?_
  rintro e w' ⟨rfl, n1, rfl⟩
  exact ⟨rfl, bdr hb n1⟩
/-- the end of next: the token's cells, the two numbers -/
theorem tok_end {P : Program} {fn : Func} {R : Ending → World → Prop} {a : Act} {p u v : Tmp} {ty t : TypeId} {w : World} {g : Nat} {cs : Array Value} {fr : Nat × Nat} {d : TypeDesc} (h : fn.results = #[.cell p ty, .tmp u, .tmp v])
    (hp : a.tmps.getD p undef = .pointer (some ⟨g, 0, none⟩)) (hg : w.heap[g]? = some (.cells cs t fr))
    (hu : P.underlying ty = some d) (hd : (match d with | .struct _ | .array _ _ => true | _ => false) = true) (hi : (P.info? ty).map (·.size) = some cs.size) (hdf : a.defers = [])
    (hR : R (.returned (.tuple #[.agg cs, a.tmps.getD u undef, a.tmps.getD v undef])) w) : bodyPost P fn R .ret a w :=
  bodyPost_ret (results_ctt h a.tmps w g t cs fr d hp hg hu hd hi) hdf hR
theorem sub_ne (c : Int) (l : List UInt8) (i : Nat) (h : clsAt l i = c) (h0 : c ≠ 0) : subL l i (spanE [c] l i) ≠ [] := by
  have hl := clsAt_lt (l := l) (i := i) (by rw [h]; exact h0)
  have hx : l[i]? = some l[i] := List.getElem?_eq_getElem hl
  have hc : cls l[i] = c := by
    unfold clsAt at h
    rw [hx] at h
    exact h
  have hs := spanE_yes [c] l i _ hx (by rw [hc]; simp)
  have hg := spanE_ge [c] l (i + 1)
  intro e
  have := congrArg List.length e
  unfold subL at this
  rw [List.length_take, List.length_drop, List.length_nil, hs] at this
  omega
theorem pref_yes {l : List UInt8} {k : Nat} (h : l[k]? = some 61) : Lib.hasPrefix (l.drop k) (⟨#[61]⟩ : ByteArray).data.toList = true := by
  have hl := (List.getElem?_eq_some_iff.1 h).1
  have hv := (List.getElem?_eq_some_iff.1 h).2
  rw [List.drop_eq_getElem_cons hl, hv]
  simp [Lib.hasPrefix, List.isPrefixOf]
theorem pref_no {l : List UInt8} {k : Nat} (h : l[k]? ≠ some 61) : Lib.hasPrefix (l.drop k) (⟨#[61]⟩ : ByteArray).data.toList = false := by
  rcases Nat.lt_or_ge k l.length with hl | hl
  · rw [List.drop_eq_getElem_cons hl]
    rw [List.getElem?_eq_getElem hl] at h
    have h1 : l[k] ≠ 61 := fun e => h (by rw [e])
    simp [Lib.hasPrefix, List.isPrefixOf, Ne.symm h1]
  · rw [List.drop_eq_nil_of_le hl]
    simp [Lib.hasPrefix, List.isPrefixOf]
set_option maxRecDepth 100000 in
set_option maxHeartbeats 4000000 in
theorem next_c0 (b : Nat) (s : ByteArray) (i : Nat) (hs : s.size ≤ 20000) (hi : i < s.size) (w : World) (h : ScanAt w b s) (hc : clsAt s.data.toList i = 0) :
    Calls Tryd.prog 55 #[.pointer (some ⟨b, 0, none⟩), .int .i64 i] w fun e w' => e = .returned (nxtV (.err 3)) ∧ Below w.heap.size w w' := by
  have H := Lib.hid h
  have HC := Lib.hid hc
  have HSZ := Lib.hid (Lib.size_eq s)
  clear h hc
  have B0 : Hid (Below w.heap.size w (w.alloc (.cells #[.int .i64 0, .string ⟨#[]⟩, .int .i64 0, .int .i64 0] 104))) := Lib.hid ((Below.refl _ _).alloc (Nat.le_refl _) _)
  have K0 : Hid ((w.alloc (.cells #[.int .i64 0, .string ⟨#[]⟩, .int .i64 0, .int .i64 0] 104)).heap[w.heap.size]? = some (.cells #[.int .i64 0, .string ⟨#[]⟩, .int .i64 0, .int .i64 0] 104 (0, 0))) := Lib.hid (blk_new w _)
  have S0 : Hid (ScanAt (w.alloc (.cells #[.int .i64 0, .string ⟨#[]⟩, .int .i64 0, .int .i64 0] 104)) b s) := Lib.hid (H.out.below B0.out)
  go_enter Tryd.func55, Tryd.ntmps55
  go_wp2_with fail
  generalize w.alloc (.cells #[.int .i64 0, .string ⟨#[]⟩, .int .i64 0, .int .i64 0] 104) = w1 at B0 K0 S0
  generalize hq : w.heap.size = B at B0 K0
  have HQ := Lib.hid hq
  clear hq
  refine (at_calls b s i (by omega) (by omega) _ S0.out).mono ?_
  rintro e w2 ⟨rfl, n1, hw⟩
  rw [HC.out]
  have hb2 : Below w1.heap.size w1 w2 := by rw [hw]; exact bdr (Below.refl _ _) n1
  clear hw
  replace B0 := Lib.hid (below_up B0.out (blk_lt K0.out) hb2)
  replace K0 := Lib.hid (blk_below K0.out hb2)
  replace S0 := Lib.hid (S0.out.below hb2)
  clear hb2
  have c0 := blk_cell K0.out 0
  have c1 := blk_cell K0.out 1
  have c2 := blk_cell K0.out 2
  have c3 := blk_cell K0.out 3
  have f0 := blk_frozen K0.out 0
  have f1 := blk_frozen K0.out 1
  have f2 := blk_frozen K0.out 2
  have f3 := blk_frozen K0.out 3
  have cs := S0.out.text
  go_wp2_with fail
  refine tok_end rfl rfl (tok_ret K0.out B0.out (Nat.le_refl _) _ _ _ _).1 Tryd.underlying104 rfl (by kernel_rfl) rfl ⟨rfl, ?_⟩
  rw [HQ.out]
  exact (tok_ret K0.out B0.out (Nat.le_refl _) _ _ _ _).2
set_option maxRecDepth 100000 in
set_option maxHeartbeats 4000000 in
theorem next_c1 (b : Nat) (s : ByteArray) (i : Nat) (hs : s.size ≤ 20000) (hi : i < s.size) (w : World) (h : ScanAt w b s) (hc : clsAt s.data.toList i = 1) :
    Calls Tryd.prog 55 #[.pointer (some ⟨b, 0, none⟩), .int .i64 i] w fun e w' => e = .returned (nxtV (.err 3)) ∧ Below w.heap.size w w' := by
  have H := Lib.hid h
  have HC := Lib.hid hc
  have HSZ := Lib.hid (Lib.size_eq s)
  clear h hc
  have B0 : Hid (Below w.heap.size w (w.alloc (.cells #[.int .i64 0, .string ⟨#[]⟩, .int .i64 0, .int .i64 0] 104))) := Lib.hid ((Below.refl _ _).alloc (Nat.le_refl _) _)
  have K0 : Hid ((w.alloc (.cells #[.int .i64 0, .string ⟨#[]⟩, .int .i64 0, .int .i64 0] 104)).heap[w.heap.size]? = some (.cells #[.int .i64 0, .string ⟨#[]⟩, .int .i64 0, .int .i64 0] 104 (0, 0))) := Lib.hid (blk_new w _)
  have S0 : Hid (ScanAt (w.alloc (.cells #[.int .i64 0, .string ⟨#[]⟩, .int .i64 0, .int .i64 0] 104)) b s) := Lib.hid (H.out.below B0.out)
  go_enter Tryd.func55, Tryd.ntmps55
  go_wp2_with fail
  generalize w.alloc (.cells #[.int .i64 0, .string ⟨#[]⟩, .int .i64 0, .int .i64 0] 104) = w1 at B0 K0 S0
  generalize hq : w.heap.size = B at B0 K0
  have HQ := Lib.hid hq
  clear hq
  refine (at_calls b s i (by omega) (by omega) _ S0.out).mono ?_
  rintro e w2 ⟨rfl, n1, hw⟩
  rw [HC.out]
  have hb2 : Below w1.heap.size w1 w2 := by rw [hw]; exact bdr (Below.refl _ _) n1
  clear hw
  replace B0 := Lib.hid (below_up B0.out (blk_lt K0.out) hb2)
  replace K0 := Lib.hid (blk_below K0.out hb2)
  replace S0 := Lib.hid (S0.out.below hb2)
  clear hb2
  have c0 := blk_cell K0.out 0
  have c1 := blk_cell K0.out 1
  have c2 := blk_cell K0.out 2
  have c3 := blk_cell K0.out 3
  have f0 := blk_frozen K0.out 0
  have f1 := blk_frozen K0.out 1
  have f2 := blk_frozen K0.out 2
  have f3 := blk_frozen K0.out 3
  have cs := S0.out.text
  go_wp2_with fail
  refine tok_end rfl rfl (tok_ret K0.out B0.out (Nat.le_refl _) _ _ _ _).1 Tryd.underlying104 rfl (by kernel_rfl) rfl ⟨rfl, ?_⟩
  rw [HQ.out]
  exact (tok_ret K0.out B0.out (Nat.le_refl _) _ _ _ _).2
set_option maxRecDepth 100000 in
set_option maxHeartbeats 4000000 in
theorem next_c2 (b : Nat) (s : ByteArray) (i : Nat) (hs : s.size ≤ 20000) (hi : i < s.size) (w : World) (h : ScanAt w b s) (hc : clsAt s.data.toList i = 2) :
    Calls Tryd.prog 55 #[.pointer (some ⟨b, 0, none⟩), .int .i64 i] w fun e w' => e = .returned (nxtV (.err 3)) ∧ Below w.heap.size w w' := by
  have H := Lib.hid h
  have HC := Lib.hid hc
  have HSZ := Lib.hid (Lib.size_eq s)
  clear h hc
  have B0 : Hid (Below w.heap.size w (w.alloc (.cells #[.int .i64 0, .string ⟨#[]⟩, .int .i64 0, .int .i64 0] 104))) := Lib.hid ((Below.refl _ _).alloc (Nat.le_refl _) _)
  have K0 : Hid ((w.alloc (.cells #[.int .i64 0, .string ⟨#[]⟩, .int .i64 0, .int .i64 0] 104)).heap[w.heap.size]? = some (.cells #[.int .i64 0, .string ⟨#[]⟩, .int .i64 0, .int .i64 0] 104 (0, 0))) := Lib.hid (blk_new w _)
  have S0 : Hid (ScanAt (w.alloc (.cells #[.int .i64 0, .string ⟨#[]⟩, .int .i64 0, .int .i64 0] 104)) b s) := Lib.hid (H.out.below B0.out)
  go_enter Tryd.func55, Tryd.ntmps55
  go_wp2_with fail
  generalize w.alloc (.cells #[.int .i64 0, .string ⟨#[]⟩, .int .i64 0, .int .i64 0] 104) = w1 at B0 K0 S0
  generalize hq : w.heap.size = B at B0 K0
  have HQ := Lib.hid hq
  clear hq
  refine (at_calls b s i (by omega) (by omega) _ S0.out).mono ?_
  rintro e w2 ⟨rfl, n1, hw⟩
  rw [HC.out]
  have hb2 : Below w1.heap.size w1 w2 := by rw [hw]; exact bdr (Below.refl _ _) n1
  clear hw
  replace B0 := Lib.hid (below_up B0.out (blk_lt K0.out) hb2)
  replace K0 := Lib.hid (blk_below K0.out hb2)
  replace S0 := Lib.hid (S0.out.below hb2)
  clear hb2
  have c0 := blk_cell K0.out 0
  have c1 := blk_cell K0.out 1
  have c2 := blk_cell K0.out 2
  have c3 := blk_cell K0.out 3
  have f0 := blk_frozen K0.out 0
  have f1 := blk_frozen K0.out 1
  have f2 := blk_frozen K0.out 2
  have f3 := blk_frozen K0.out 3
  have cs := S0.out.text
  go_wp2_with fail
  refine tok_end rfl rfl (tok_ret K0.out B0.out (Nat.le_refl _) _ _ _ _).1 Tryd.underlying104 rfl (by kernel_rfl) rfl ⟨rfl, ?_⟩
  rw [HQ.out]
  exact (tok_ret K0.out B0.out (Nat.le_refl _) _ _ _ _).2
set_option maxRecDepth 100000 in
set_option maxHeartbeats 4000000 in
theorem next_c5 (b : Nat) (s : ByteArray) (i : Nat) (hs : s.size ≤ 20000) (hi : i < s.size) (w : World) (h : ScanAt w b s) (hc : clsAt s.data.toList i = 5) :
    Calls Tryd.prog 55 #[.pointer (some ⟨b, 0, none⟩), .int .i64 i] w fun e w' => e = .returned (nxtV (.err 3)) ∧ Below w.heap.size w w' := by
  have H := Lib.hid h
  have HC := Lib.hid hc
  have HSZ := Lib.hid (Lib.size_eq s)
  clear h hc
  have B0 : Hid (Below w.heap.size w (w.alloc (.cells #[.int .i64 0, .string ⟨#[]⟩, .int .i64 0, .int .i64 0] 104))) := Lib.hid ((Below.refl _ _).alloc (Nat.le_refl _) _)
  have K0 : Hid ((w.alloc (.cells #[.int .i64 0, .string ⟨#[]⟩, .int .i64 0, .int .i64 0] 104)).heap[w.heap.size]? = some (.cells #[.int .i64 0, .string ⟨#[]⟩, .int .i64 0, .int .i64 0] 104 (0, 0))) := Lib.hid (blk_new w _)
  have S0 : Hid (ScanAt (w.alloc (.cells #[.int .i64 0, .string ⟨#[]⟩, .int .i64 0, .int .i64 0] 104)) b s) := Lib.hid (H.out.below B0.out)
  go_enter Tryd.func55, Tryd.ntmps55
  go_wp2_with fail
  generalize w.alloc (.cells #[.int .i64 0, .string ⟨#[]⟩, .int .i64 0, .int .i64 0] 104) = w1 at B0 K0 S0
  generalize hq : w.heap.size = B at B0 K0
  have HQ := Lib.hid hq
  clear hq
  refine (at_calls b s i (by omega) (by omega) _ S0.out).mono ?_
  rintro e w2 ⟨rfl, n1, hw⟩
  rw [HC.out]
  have hb2 : Below w1.heap.size w1 w2 := by rw [hw]; exact bdr (Below.refl _ _) n1
  clear hw
  replace B0 := Lib.hid (below_up B0.out (blk_lt K0.out) hb2)
  replace K0 := Lib.hid (blk_below K0.out hb2)
  replace S0 := Lib.hid (S0.out.below hb2)
  clear hb2
  have c0 := blk_cell K0.out 0
  have c1 := blk_cell K0.out 1
  have c2 := blk_cell K0.out 2
  have c3 := blk_cell K0.out 3
  have f0 := blk_frozen K0.out 0
  have f1 := blk_frozen K0.out 1
  have f2 := blk_frozen K0.out 2
  have f3 := blk_frozen K0.out 3
  have cs := S0.out.text
  go_wp2_with fail
  refine tok_end rfl rfl (tok_ret K0.out B0.out (Nat.le_refl _) _ _ _ _).1 Tryd.underlying104 rfl (by kernel_rfl) rfl ⟨rfl, ?_⟩
  rw [HQ.out]
  exact (tok_ret K0.out B0.out (Nat.le_refl _) _ _ _ _).2
set_option maxRecDepth 100000 in
set_option maxHeartbeats 4000000 in
theorem next_name_long (b : Nat) (s : ByteArray) (i : Nat) (hs : s.size ≤ 20000) (hi : i < s.size) (w : World) (h : ScanAt w b s) (hc : clsAt s.data.toList i = 3) (hx : 24 < spanE [3, 4, 5] s.data.toList i - i) :
    Calls Tryd.prog 55 #[.pointer (some ⟨b, 0, none⟩), .int .i64 i] w fun e w' => e = .returned (nxtV (Nxt.err 2)) ∧ Below w.heap.size w w' := by
  obtain ⟨e, he⟩ : ∃ e, spanE [3, 4, 5] s.data.toList i = e := ⟨_, rfl⟩
  have hge := spanE_ge [3, 4, 5] s.data.toList i
  have hle := spanE_le [3, 4, 5] s.data.toList i (by rw [← Lib.size_eq]; omega)
  rw [← Lib.size_eq, he] at hle
  rw [he] at hge
  rw [he] at hx
  have HE := Lib.hid he
  clear he
  have H := Lib.hid h
  have HC := Lib.hid hc
  have HSZ := Lib.hid (Lib.size_eq s)
  clear h hc
  have B0 : Hid (Below w.heap.size w (w.alloc (.cells #[.int .i64 0, .string ⟨#[]⟩, .int .i64 0, .int .i64 0] 104))) := Lib.hid ((Below.refl _ _).alloc (Nat.le_refl _) _)
  have K0 : Hid ((w.alloc (.cells #[.int .i64 0, .string ⟨#[]⟩, .int .i64 0, .int .i64 0] 104)).heap[w.heap.size]? = some (.cells #[.int .i64 0, .string ⟨#[]⟩, .int .i64 0, .int .i64 0] 104 (0, 0))) := Lib.hid (blk_new w _)
  have S0 : Hid (ScanAt (w.alloc (.cells #[.int .i64 0, .string ⟨#[]⟩, .int .i64 0, .int .i64 0] 104)) b s) := Lib.hid (H.out.below B0.out)
  go_enter Tryd.func55, Tryd.ntmps55
  go_wp2_with fail
  generalize w.alloc (.cells #[.int .i64 0, .string ⟨#[]⟩, .int .i64 0, .int .i64 0] 104) = w1 at B0 K0 S0
  generalize hq : w.heap.size = B at B0 K0
  have HQ := Lib.hid hq
  clear hq
  refine (at_calls b s i (by omega) (by omega) _ S0.out).mono ?_
  rintro e w2 ⟨rfl, n1, hw⟩
  rw [HC.out]
  have hb2 : Below w1.heap.size w1 w2 := by rw [hw]; exact bdr (Below.refl _ _) n1
  clear hw
  replace B0 := Lib.hid (below_up B0.out (blk_lt K0.out) hb2)
  replace K0 := Lib.hid (blk_below K0.out hb2)
  replace S0 := Lib.hid (S0.out.below hb2)
  clear hb2
  go_wp2_with fail
  refine (while_new b s i [3, 4, 5] 3 #[.int .i64 3, .int .i64 4, .int .i64 5] rfl rfl (by decide) (by omega) (by omega) w2 S0.out).mono ?_
  rintro e w3 ⟨rfl, hb2⟩
  rw [HE.out]
  replace B0 := Lib.hid (below_up B0.out (blk_lt K0.out) hb2)
  replace K0 := Lib.hid (blk_below K0.out hb2)
  replace S0 := Lib.hid (S0.out.below hb2)
  clear hb2
  have c0 := blk_cell K0.out 0
  have c1 := blk_cell K0.out 1
  have c2 := blk_cell K0.out 2
  have c3 := blk_cell K0.out 3
  have f0 := blk_frozen K0.out 0
  have f1 := blk_frozen K0.out 1
  have f2 := blk_frozen K0.out 2
  have f3 := blk_frozen K0.out 3
  have cs := S0.out.text
  have hz : (24 : Int) < (e : Int) - (i : Int) := by omega
  go_wp2_with fail
  refine tok_end rfl rfl (tok_ret K0.out B0.out (Nat.le_refl _) _ _ _ _).1 Tryd.underlying104 rfl (by kernel_rfl) rfl ⟨rfl, ?_⟩
  rw [HQ.out]
  exact (tok_ret K0.out B0.out (Nat.le_refl _) _ _ _ _).2
set_option maxRecDepth 100000 in
set_option maxHeartbeats 4000000 in
theorem next_name (b : Nat) (s : ByteArray) (i : Nat) (hs : s.size ≤ 20000) (hi : i < s.size) (w : World) (h : ScanAt w b s) (hc : clsAt s.data.toList i = 3) (hx : ¬ 24 < spanE [3, 4, 5] s.data.toList i - i) :
    Calls Tryd.prog 55 #[.pointer (some ⟨b, 0, none⟩), .int .i64 i] w fun e w' => e = .returned (nxtV (.tok ⟨1, subL s.data.toList i (spanE [3, 4, 5] s.data.toList i), 0, i⟩ (spanE [3, 4, 5] s.data.toList i))) ∧ Below w.heap.size w w' := by
  obtain ⟨e, he⟩ : ∃ e, spanE [3, 4, 5] s.data.toList i = e := ⟨_, rfl⟩
  have hge := spanE_ge [3, 4, 5] s.data.toList i
  have hle := spanE_le [3, 4, 5] s.data.toList i (by rw [← Lib.size_eq]; omega)
  rw [← Lib.size_eq, he] at hle
  rw [he] at hge
  rw [he] at hx ⊢
  have HE := Lib.hid he
  clear he
  have H := Lib.hid h
  have HC := Lib.hid hc
  have HSZ := Lib.hid (Lib.size_eq s)
  clear h hc
  have B0 : Hid (Below w.heap.size w (w.alloc (.cells #[.int .i64 0, .string ⟨#[]⟩, .int .i64 0, .int .i64 0] 104))) := Lib.hid ((Below.refl _ _).alloc (Nat.le_refl _) _)
  have K0 : Hid ((w.alloc (.cells #[.int .i64 0, .string ⟨#[]⟩, .int .i64 0, .int .i64 0] 104)).heap[w.heap.size]? = some (.cells #[.int .i64 0, .string ⟨#[]⟩, .int .i64 0, .int .i64 0] 104 (0, 0))) := Lib.hid (blk_new w _)
  have S0 : Hid (ScanAt (w.alloc (.cells #[.int .i64 0, .string ⟨#[]⟩, .int .i64 0, .int .i64 0] 104)) b s) := Lib.hid (H.out.below B0.out)
  go_enter Tryd.func55, Tryd.ntmps55
  go_wp2_with fail
  generalize w.alloc (.cells #[.int .i64 0, .string ⟨#[]⟩, .int .i64 0, .int .i64 0] 104) = w1 at B0 K0 S0
  generalize hq : w.heap.size = B at B0 K0
  have HQ := Lib.hid hq
  clear hq
  refine (at_calls b s i (by omega) (by omega) _ S0.out).mono ?_
  rintro e w2 ⟨rfl, n1, hw⟩
  rw [HC.out]
  have hb2 : Below w1.heap.size w1 w2 := by rw [hw]; exact bdr (Below.refl _ _) n1
  clear hw
  replace B0 := Lib.hid (below_up B0.out (blk_lt K0.out) hb2)
  replace K0 := Lib.hid (blk_below K0.out hb2)
  replace S0 := Lib.hid (S0.out.below hb2)
  clear hb2
  go_wp2_with fail
  refine (while_new b s i [3, 4, 5] 3 #[.int .i64 3, .int .i64 4, .int .i64 5] rfl rfl (by decide) (by omega) (by omega) w2 S0.out).mono ?_
  rintro e w3 ⟨rfl, hb2⟩
  rw [HE.out]
  replace B0 := Lib.hid (below_up B0.out (blk_lt K0.out) hb2)
  replace K0 := Lib.hid (blk_below K0.out hb2)
  replace S0 := Lib.hid (S0.out.below hb2)
  clear hb2
  have c0 := blk_cell K0.out 0
  have c1 := blk_cell K0.out 1
  have c2 := blk_cell K0.out 2
  have c3 := blk_cell K0.out 3
  have f0 := blk_frozen K0.out 0
  have f1 := blk_frozen K0.out 1
  have f2 := blk_frozen K0.out 2
  have f3 := blk_frozen K0.out 3
  have cs := S0.out.text
  have hz : ¬ (24 : Int) < (e : Int) - (i : Int) := by omega
  have hsub := Lib.hid (ext_sub s i e)
  go_wp2_with fail
  rw [hsub.out]
  refine tok_end rfl rfl (tok_ret K0.out B0.out (Nat.le_refl _) _ _ _ _).1 Tryd.underlying104 rfl (by kernel_rfl) rfl ⟨rfl, ?_⟩
  rw [HQ.out]
  exact (tok_ret K0.out B0.out (Nat.le_refl _) _ _ _ _).2
set_option maxRecDepth 100000 in
set_option maxHeartbeats 4000000 in
theorem next_num_long (b : Nat) (s : ByteArray) (i : Nat) (hs : s.size ≤ 20000) (hi : i < s.size) (w : World) (h : ScanAt w b s) (hc : clsAt s.data.toList i = 4) (hx : 13 < spanE [4] s.data.toList i - i) :
    Calls Tryd.prog 55 #[.pointer (some ⟨b, 0, none⟩), .int .i64 i] w fun e w' => e = .returned (nxtV (Nxt.err 4)) ∧ Below w.heap.size w w' := by
  obtain ⟨e, he⟩ : ∃ e, spanE [4] s.data.toList i = e := ⟨_, rfl⟩
  have hge := spanE_ge [4] s.data.toList i
  have hle := spanE_le [4] s.data.toList i (by rw [← Lib.size_eq]; omega)
  rw [← Lib.size_eq, he] at hle
  rw [he] at hge
  rw [he] at hx
  have HE := Lib.hid he
  clear he
  have H := Lib.hid h
  have HC := Lib.hid hc
  have HSZ := Lib.hid (Lib.size_eq s)
  clear h hc
  have B0 : Hid (Below w.heap.size w (w.alloc (.cells #[.int .i64 0, .string ⟨#[]⟩, .int .i64 0, .int .i64 0] 104))) := Lib.hid ((Below.refl _ _).alloc (Nat.le_refl _) _)
  have K0 : Hid ((w.alloc (.cells #[.int .i64 0, .string ⟨#[]⟩, .int .i64 0, .int .i64 0] 104)).heap[w.heap.size]? = some (.cells #[.int .i64 0, .string ⟨#[]⟩, .int .i64 0, .int .i64 0] 104 (0, 0))) := Lib.hid (blk_new w _)
  have S0 : Hid (ScanAt (w.alloc (.cells #[.int .i64 0, .string ⟨#[]⟩, .int .i64 0, .int .i64 0] 104)) b s) := Lib.hid (H.out.below B0.out)
  go_enter Tryd.func55, Tryd.ntmps55
  go_wp2_with fail
  generalize w.alloc (.cells #[.int .i64 0, .string ⟨#[]⟩, .int .i64 0, .int .i64 0] 104) = w1 at B0 K0 S0
  generalize hq : w.heap.size = B at B0 K0
  have HQ := Lib.hid hq
  clear hq
  refine (at_calls b s i (by omega) (by omega) _ S0.out).mono ?_
  rintro e w2 ⟨rfl, n1, hw⟩
  rw [HC.out]
  have hb2 : Below w1.heap.size w1 w2 := by rw [hw]; exact bdr (Below.refl _ _) n1
  clear hw
  replace B0 := Lib.hid (below_up B0.out (blk_lt K0.out) hb2)
  replace K0 := Lib.hid (blk_below K0.out hb2)
  replace S0 := Lib.hid (S0.out.below hb2)
  clear hb2
  go_wp2_with fail
  refine (while_new b s i [4] 1 #[.int .i64 4] rfl rfl (by decide) (by omega) (by omega) w2 S0.out).mono ?_
  rintro e w3 ⟨rfl, hb2⟩
  rw [HE.out]
  replace B0 := Lib.hid (below_up B0.out (blk_lt K0.out) hb2)
  replace K0 := Lib.hid (blk_below K0.out hb2)
  replace S0 := Lib.hid (S0.out.below hb2)
  clear hb2
  have cs := S0.out.text
  go_wp2_with fail
  clear cs
  refine (at_calls b s e (by omega) (by omega) _ S0.out).mono ?_
  rintro e' w4 ⟨rfl, n2, hw⟩
  have hb2 : Below w3.heap.size w3 w4 := by rw [hw]; exact bdr (Below.refl _ _) n2
  clear hw
  replace B0 := Lib.hid (below_up B0.out (blk_lt K0.out) hb2)
  replace K0 := Lib.hid (blk_below K0.out hb2)
  replace S0 := Lib.hid (S0.out.below hb2)
  clear hb2
  have c0 := blk_cell K0.out 0
  have c1 := blk_cell K0.out 1
  have c2 := blk_cell K0.out 2
  have c3 := blk_cell K0.out 3
  have f0 := blk_frozen K0.out 0
  have f1 := blk_frozen K0.out 1
  have f2 := blk_frozen K0.out 2
  have f3 := blk_frozen K0.out 3
  have cs := S0.out.text
  have hz : (13 : Int) < (e : Int) - (i : Int) := by omega
  go_wp2_with fail
  refine tok_end rfl rfl (tok_ret K0.out B0.out (Nat.le_refl _) _ _ _ _).1 Tryd.underlying104 rfl (by kernel_rfl) rfl ⟨rfl, ?_⟩
  rw [HQ.out]
  exact (tok_ret K0.out B0.out (Nat.le_refl _) _ _ _ _).2
set_option maxRecDepth 100000 in
set_option maxHeartbeats 4000000 in
theorem next_num_at3 (b : Nat) (s : ByteArray) (i : Nat) (hs : s.size ≤ 20000) (hi : i < s.size) (w : World) (h : ScanAt w b s) (hc : clsAt s.data.toList i = 4) (hx : ¬ 13 < spanE [4] s.data.toList i - i) (hk : clsAt s.data.toList (spanE [4] s.data.toList i) = 3) :
    Calls Tryd.prog 55 #[.pointer (some ⟨b, 0, none⟩), .int .i64 i] w fun e w' => e = .returned (nxtV (Nxt.err 4)) ∧ Below w.heap.size w w' := by
  obtain ⟨e, he⟩ : ∃ e, spanE [4] s.data.toList i = e := ⟨_, rfl⟩
  have hge := spanE_ge [4] s.data.toList i
  have hle := spanE_le [4] s.data.toList i (by rw [← Lib.size_eq]; omega)
  rw [← Lib.size_eq, he] at hle
  rw [he] at hge
  rw [he] at hx hk
  have HE := Lib.hid he
  have HKK := Lib.hid hk
  clear he hk
  have H := Lib.hid h
  have HC := Lib.hid hc
  have HSZ := Lib.hid (Lib.size_eq s)
  clear h hc
  have B0 : Hid (Below w.heap.size w (w.alloc (.cells #[.int .i64 0, .string ⟨#[]⟩, .int .i64 0, .int .i64 0] 104))) := Lib.hid ((Below.refl _ _).alloc (Nat.le_refl _) _)
  have K0 : Hid ((w.alloc (.cells #[.int .i64 0, .string ⟨#[]⟩, .int .i64 0, .int .i64 0] 104)).heap[w.heap.size]? = some (.cells #[.int .i64 0, .string ⟨#[]⟩, .int .i64 0, .int .i64 0] 104 (0, 0))) := Lib.hid (blk_new w _)
  have S0 : Hid (ScanAt (w.alloc (.cells #[.int .i64 0, .string ⟨#[]⟩, .int .i64 0, .int .i64 0] 104)) b s) := Lib.hid (H.out.below B0.out)
  go_enter Tryd.func55, Tryd.ntmps55
  go_wp2_with fail
  generalize w.alloc (.cells #[.int .i64 0, .string ⟨#[]⟩, .int .i64 0, .int .i64 0] 104) = w1 at B0 K0 S0
  generalize hq : w.heap.size = B at B0 K0
  have HQ := Lib.hid hq
  clear hq
  refine (at_calls b s i (by omega) (by omega) _ S0.out).mono ?_
  rintro e w2 ⟨rfl, n1, hw⟩
  rw [HC.out]
  have hb2 : Below w1.heap.size w1 w2 := by rw [hw]; exact bdr (Below.refl _ _) n1
  clear hw
  replace B0 := Lib.hid (below_up B0.out (blk_lt K0.out) hb2)
  replace K0 := Lib.hid (blk_below K0.out hb2)
  replace S0 := Lib.hid (S0.out.below hb2)
  clear hb2
  go_wp2_with fail
  refine (while_new b s i [4] 1 #[.int .i64 4] rfl rfl (by decide) (by omega) (by omega) w2 S0.out).mono ?_
  rintro e w3 ⟨rfl, hb2⟩
  rw [HE.out]
  replace B0 := Lib.hid (below_up B0.out (blk_lt K0.out) hb2)
  replace K0 := Lib.hid (blk_below K0.out hb2)
  replace S0 := Lib.hid (S0.out.below hb2)
  clear hb2
  have cs := S0.out.text
  go_wp2_with fail
  clear cs
  refine (at_calls b s e (by omega) (by omega) _ S0.out).mono ?_
  rintro e' w4 ⟨rfl, n2, hw⟩
  rw [HKK.out]
  have hb2 : Below w3.heap.size w3 w4 := by rw [hw]; exact bdr (Below.refl _ _) n2
  clear hw
  replace B0 := Lib.hid (below_up B0.out (blk_lt K0.out) hb2)
  replace K0 := Lib.hid (blk_below K0.out hb2)
  replace S0 := Lib.hid (S0.out.below hb2)
  clear hb2
  have c0 := blk_cell K0.out 0
  have c1 := blk_cell K0.out 1
  have c2 := blk_cell K0.out 2
  have c3 := blk_cell K0.out 3
  have f0 := blk_frozen K0.out 0
  have f1 := blk_frozen K0.out 1
  have f2 := blk_frozen K0.out 2
  have f3 := blk_frozen K0.out 3
  have cs := S0.out.text
  have hz : ¬ (13 : Int) < (e : Int) - (i : Int) := by omega
  go_wp2_with fail
  refine tok_end rfl rfl (tok_ret K0.out B0.out (Nat.le_refl _) _ _ _ _).1 Tryd.underlying104 rfl (by kernel_rfl) rfl ⟨rfl, ?_⟩
  rw [HQ.out]
  exact (tok_ret K0.out B0.out (Nat.le_refl _) _ _ _ _).2
set_option maxRecDepth 100000 in
set_option maxHeartbeats 4000000 in
theorem next_num_at5 (b : Nat) (s : ByteArray) (i : Nat) (hs : s.size ≤ 20000) (hi : i < s.size) (w : World) (h : ScanAt w b s) (hc : clsAt s.data.toList i = 4) (hx : ¬ 13 < spanE [4] s.data.toList i - i) (hk : clsAt s.data.toList (spanE [4] s.data.toList i) = 5) :
    Calls Tryd.prog 55 #[.pointer (some ⟨b, 0, none⟩), .int .i64 i] w fun e w' => e = .returned (nxtV (Nxt.err 4)) ∧ Below w.heap.size w w' := by
  obtain ⟨e, he⟩ : ∃ e, spanE [4] s.data.toList i = e := ⟨_, rfl⟩
  have hge := spanE_ge [4] s.data.toList i
  have hle := spanE_le [4] s.data.toList i (by rw [← Lib.size_eq]; omega)
  rw [← Lib.size_eq, he] at hle
  rw [he] at hge
  rw [he] at hx hk
  have HE := Lib.hid he
  have HKK := Lib.hid hk
  clear he hk
  have H := Lib.hid h
  have HC := Lib.hid hc
  have HSZ := Lib.hid (Lib.size_eq s)
  clear h hc
  have B0 : Hid (Below w.heap.size w (w.alloc (.cells #[.int .i64 0, .string ⟨#[]⟩, .int .i64 0, .int .i64 0] 104))) := Lib.hid ((Below.refl _ _).alloc (Nat.le_refl _) _)
  have K0 : Hid ((w.alloc (.cells #[.int .i64 0, .string ⟨#[]⟩, .int .i64 0, .int .i64 0] 104)).heap[w.heap.size]? = some (.cells #[.int .i64 0, .string ⟨#[]⟩, .int .i64 0, .int .i64 0] 104 (0, 0))) := Lib.hid (blk_new w _)
  have S0 : Hid (ScanAt (w.alloc (.cells #[.int .i64 0, .string ⟨#[]⟩, .int .i64 0, .int .i64 0] 104)) b s) := Lib.hid (H.out.below B0.out)
  go_enter Tryd.func55, Tryd.ntmps55
  go_wp2_with fail
  generalize w.alloc (.cells #[.int .i64 0, .string ⟨#[]⟩, .int .i64 0, .int .i64 0] 104) = w1 at B0 K0 S0
  generalize hq : w.heap.size = B at B0 K0
  have HQ := Lib.hid hq
  clear hq
  refine (at_calls b s i (by omega) (by omega) _ S0.out).mono ?_
  rintro e w2 ⟨rfl, n1, hw⟩
  rw [HC.out]
  have hb2 : Below w1.heap.size w1 w2 := by rw [hw]; exact bdr (Below.refl _ _) n1
  clear hw
  replace B0 := Lib.hid (below_up B0.out (blk_lt K0.out) hb2)
  replace K0 := Lib.hid (blk_below K0.out hb2)
  replace S0 := Lib.hid (S0.out.below hb2)
  clear hb2
  go_wp2_with fail
  refine (while_new b s i [4] 1 #[.int .i64 4] rfl rfl (by decide) (by omega) (by omega) w2 S0.out).mono ?_
  rintro e w3 ⟨rfl, hb2⟩
  rw [HE.out]
  replace B0 := Lib.hid (below_up B0.out (blk_lt K0.out) hb2)
  replace K0 := Lib.hid (blk_below K0.out hb2)
  replace S0 := Lib.hid (S0.out.below hb2)
  clear hb2
  have cs := S0.out.text
  go_wp2_with fail
  clear cs
  refine (at_calls b s e (by omega) (by omega) _ S0.out).mono ?_
  rintro e' w4 ⟨rfl, n2, hw⟩
  rw [HKK.out]
  have hb2 : Below w3.heap.size w3 w4 := by rw [hw]; exact bdr (Below.refl _ _) n2
  clear hw
  replace B0 := Lib.hid (below_up B0.out (blk_lt K0.out) hb2)
  replace K0 := Lib.hid (blk_below K0.out hb2)
  replace S0 := Lib.hid (S0.out.below hb2)
  clear hb2
  have c0 := blk_cell K0.out 0
  have c1 := blk_cell K0.out 1
  have c2 := blk_cell K0.out 2
  have c3 := blk_cell K0.out 3
  have f0 := blk_frozen K0.out 0
  have f1 := blk_frozen K0.out 1
  have f2 := blk_frozen K0.out 2
  have f3 := blk_frozen K0.out 3
  have cs := S0.out.text
  have hz : ¬ (13 : Int) < (e : Int) - (i : Int) := by omega
  go_wp2_with fail
  refine tok_end rfl rfl (tok_ret K0.out B0.out (Nat.le_refl _) _ _ _ _).1 Tryd.underlying104 rfl (by kernel_rfl) rfl ⟨rfl, ?_⟩
  rw [HQ.out]
  exact (tok_ret K0.out B0.out (Nat.le_refl _) _ _ _ _).2
set_option maxRecDepth 100000 in
set_option maxHeartbeats 4000000 in
theorem next_num (b : Nat) (s : ByteArray) (i : Nat) (hs : s.size ≤ 20000) (hi : i < s.size) (w : World) (h : ScanAt w b s) (hc : clsAt s.data.toList i = 4) (hx : ¬ 13 < spanE [4] s.data.toList i - i) (hk3 : clsAt s.data.toList (spanE [4] s.data.toList i) ≠ 3) (hk5 : clsAt s.data.toList (spanE [4] s.data.toList i) ≠ 5) :
    Calls Tryd.prog 55 #[.pointer (some ⟨b, 0, none⟩), .int .i64 i] w fun e w' => e = .returned (nxtV (.tok ⟨2, subL s.data.toList i (spanE [4] s.data.toList i), decV (subL s.data.toList i (spanE [4] s.data.toList i)), i⟩ (spanE [4] s.data.toList i))) ∧ Below w.heap.size w w' := by
  obtain ⟨e, he⟩ : ∃ e, spanE [4] s.data.toList i = e := ⟨_, rfl⟩
  have hge := spanE_ge [4] s.data.toList i
  have hle := spanE_le [4] s.data.toList i (by rw [← Lib.size_eq]; omega)
  rw [← Lib.size_eq, he] at hle
  rw [he] at hge
  have hat := atoi_dec (subL s.data.toList i (spanE [4] s.data.toList i)) (fun c hc => cls_digit (by have := span_all [4] s.data.toList i c hc; simpa using this)) (sub_ne 4 _ _ hc (by decide))
  rw [he] at hx hk3 hk5 hat ⊢
  have HE := Lib.hid he
  have HAT := Lib.hid hat
  have hk3' : (clsAt s.data.toList e == 3) = false := by simpa using hk3
  have hk5' : (clsAt s.data.toList e == 5) = false := by simpa using hk5
  have hlen18 : (bs (subL s.data.toList i e)).size ≤ 18 := by rw [← ext_sub, ByteArray.size_extract]; omega
  clear he hk3 hk5 hat
  have H := Lib.hid h
  have HC := Lib.hid hc
  have HSZ := Lib.hid (Lib.size_eq s)
  clear h hc
  have B0 : Hid (Below w.heap.size w (w.alloc (.cells #[.int .i64 0, .string ⟨#[]⟩, .int .i64 0, .int .i64 0] 104))) := Lib.hid ((Below.refl _ _).alloc (Nat.le_refl _) _)
  have K0 : Hid ((w.alloc (.cells #[.int .i64 0, .string ⟨#[]⟩, .int .i64 0, .int .i64 0] 104)).heap[w.heap.size]? = some (.cells #[.int .i64 0, .string ⟨#[]⟩, .int .i64 0, .int .i64 0] 104 (0, 0))) := Lib.hid (blk_new w _)
  have S0 : Hid (ScanAt (w.alloc (.cells #[.int .i64 0, .string ⟨#[]⟩, .int .i64 0, .int .i64 0] 104)) b s) := Lib.hid (H.out.below B0.out)
  go_enter Tryd.func55, Tryd.ntmps55
  go_wp2_with fail
  generalize w.alloc (.cells #[.int .i64 0, .string ⟨#[]⟩, .int .i64 0, .int .i64 0] 104) = w1 at B0 K0 S0
  generalize hq : w.heap.size = B at B0 K0
  have HQ := Lib.hid hq
  clear hq
  refine (at_calls b s i (by omega) (by omega) _ S0.out).mono ?_
  rintro e w2 ⟨rfl, n1, hw⟩
  rw [HC.out]
  have hb2 : Below w1.heap.size w1 w2 := by rw [hw]; exact bdr (Below.refl _ _) n1
  clear hw
  replace B0 := Lib.hid (below_up B0.out (blk_lt K0.out) hb2)
  replace K0 := Lib.hid (blk_below K0.out hb2)
  replace S0 := Lib.hid (S0.out.below hb2)
  clear hb2
  go_wp2_with fail
  refine (while_new b s i [4] 1 #[.int .i64 4] rfl rfl (by decide) (by omega) (by omega) w2 S0.out).mono ?_
  rintro e w3 ⟨rfl, hb2⟩
  rw [HE.out]
  replace B0 := Lib.hid (below_up B0.out (blk_lt K0.out) hb2)
  replace K0 := Lib.hid (blk_below K0.out hb2)
  replace S0 := Lib.hid (S0.out.below hb2)
  clear hb2
  have cs := S0.out.text
  go_wp2_with fail
  clear cs
  refine (at_calls b s e (by omega) (by omega) _ S0.out).mono ?_
  rintro e' w4 ⟨rfl, n2, hw⟩
  have hb2 : Below w3.heap.size w3 w4 := by rw [hw]; exact bdr (Below.refl _ _) n2
  clear hw
  replace B0 := Lib.hid (below_up B0.out (blk_lt K0.out) hb2)
  replace K0 := Lib.hid (blk_below K0.out hb2)
  replace S0 := Lib.hid (S0.out.below hb2)
  clear hb2
  have c0 := blk_cell K0.out 0
  have c1 := blk_cell K0.out 1
  have c2 := blk_cell K0.out 2
  have c3 := blk_cell K0.out 3
  have f0 := blk_frozen K0.out 0
  have f1 := blk_frozen K0.out 1
  have f2 := blk_frozen K0.out 2
  have f3 := blk_frozen K0.out 3
  have cs := S0.out.text
  have hz : ¬ (13 : Int) < (e : Int) - (i : Int) := by omega
  have hsub := Lib.hid (ext_sub s i e)
  go_wp2_with fail
  rw [hsub.out]
  refine (Any.strconv_Atoi Tryd.lays172 (bs (subL s.data.toList i e)) _ hlen18 HAT.out _).mono ?_
  rintro e' w5 ⟨rfl, tt, hw⟩
  have hb2 : Below w4.heap.size w4 w5 := by rw [hw]; exact Lib.bytesWorld_below _ _ _
  clear hw
  clear c0 c1 c2 c3 f0 f1 f2 f3 cs
  replace B0 := Lib.hid (below_up B0.out (blk_lt K0.out) hb2)
  replace K0 := Lib.hid (blk_below K0.out hb2)
  replace S0 := Lib.hid (S0.out.below hb2)
  clear hb2
  have c0 := blk_cell K0.out 0
  have c1 := blk_cell K0.out 1
  have c2 := blk_cell K0.out 2
  have c3 := blk_cell K0.out 3
  have f0 := blk_frozen K0.out 0
  have f1 := blk_frozen K0.out 1
  have f2 := blk_frozen K0.out 2
  have f3 := blk_frozen K0.out 3
  have cs := S0.out.text
  go_wp2_with fail
  rw [hsub.out]
  refine tok_end rfl rfl (tok_ret K0.out B0.out (Nat.le_refl _) _ _ _ _).1 Tryd.underlying104 rfl (by kernel_rfl) rfl ⟨rfl, ?_⟩
  rw [HQ.out]
  exact (tok_ret K0.out B0.out (Nat.le_refl _) _ _ _ _).2
set_option maxRecDepth 100000 in
set_option maxHeartbeats 4000000 in
theorem next_two7 (b : Nat) (s : ByteArray) (i : Nat) (hs : s.size ≤ 20000) (hi : i < s.size) (w : World) (h : ScanAt w b s) (hc : clsAt s.data.toList i = 7) (hx : s.data.toList[i + 1]? = some 61) :
    Calls Tryd.prog 55 #[.pointer (some ⟨b, 0, none⟩), .int .i64 i] w fun e w' => e = .returned (nxtV (twoN s.data.toList i)) ∧ Below w.heap.size w w' := by
  have hp : Lib.hasPrefix (s.data.toList.drop (i + 1)) (⟨#[61]⟩ : ByteArray).data.toList = true := pref_yes hx
  have HP := Lib.hid hp
  have hi2 : i + 2 ≤ s.size := by have := (List.getElem?_eq_some_iff.1 hx).1; rw [← Lib.size_eq] at this; omega
  have hsub := Lib.hid (ext_sub s i (i + 2))
  clear hp hx
  have H := Lib.hid h
  have HC := Lib.hid hc
  have HSZ := Lib.hid (Lib.size_eq s)
  clear h hc
  have B0 : Hid (Below w.heap.size w (w.alloc (.cells #[.int .i64 0, .string ⟨#[]⟩, .int .i64 0, .int .i64 0] 104))) := Lib.hid ((Below.refl _ _).alloc (Nat.le_refl _) _)
  have K0 : Hid ((w.alloc (.cells #[.int .i64 0, .string ⟨#[]⟩, .int .i64 0, .int .i64 0] 104)).heap[w.heap.size]? = some (.cells #[.int .i64 0, .string ⟨#[]⟩, .int .i64 0, .int .i64 0] 104 (0, 0))) := Lib.hid (blk_new w _)
  have S0 : Hid (ScanAt (w.alloc (.cells #[.int .i64 0, .string ⟨#[]⟩, .int .i64 0, .int .i64 0] 104)) b s) := Lib.hid (H.out.below B0.out)
  go_enter Tryd.func55, Tryd.ntmps55
  go_wp2_with fail
  generalize w.alloc (.cells #[.int .i64 0, .string ⟨#[]⟩, .int .i64 0, .int .i64 0] 104) = w1 at B0 K0 S0
  generalize hq : w.heap.size = B at B0 K0
  have HQ := Lib.hid hq
  clear hq
  refine (at_calls b s i (by omega) (by omega) _ S0.out).mono ?_
  rintro e w2 ⟨rfl, n1, hw⟩
  rw [HC.out]
  have hb2 : Below w1.heap.size w1 w2 := by rw [hw]; exact bdr (Below.refl _ _) n1
  clear hw
  replace B0 := Lib.hid (below_up B0.out (blk_lt K0.out) hb2)
  replace K0 := Lib.hid (blk_below K0.out hb2)
  replace S0 := Lib.hid (S0.out.below hb2)
  clear hb2
  have cs := S0.out.text
  go_wp2_with fail
  refine (Any.strings_HasPrefix Tryd.lays99 _ _ _).mono ?_
  rintro e w' ⟨rfl, rfl⟩
  rw [Lib.extract_to_end, HP.out]
  clear cs
  have c0 := blk_cell K0.out 0
  have c1 := blk_cell K0.out 1
  have c2 := blk_cell K0.out 2
  have c3 := blk_cell K0.out 3
  have f0 := blk_frozen K0.out 0
  have f1 := blk_frozen K0.out 1
  have f2 := blk_frozen K0.out 2
  have f3 := blk_frozen K0.out 3
  have cs := S0.out.text
  go_wp2_with fail
  rw [hsub.out]
  refine tok_end rfl rfl (tok_ret K0.out B0.out (Nat.le_refl _) _ _ _ _).1 Tryd.underlying104 rfl (by kernel_rfl) rfl ⟨rfl, ?_⟩
  rw [HQ.out]
  exact (tok_ret K0.out B0.out (Nat.le_refl _) _ _ _ _).2
set_option maxRecDepth 100000 in
set_option maxHeartbeats 4000000 in
theorem next_two8 (b : Nat) (s : ByteArray) (i : Nat) (hs : s.size ≤ 20000) (hi : i < s.size) (w : World) (h : ScanAt w b s) (hc : clsAt s.data.toList i = 8) (hx : s.data.toList[i + 1]? = some 61) :
    Calls Tryd.prog 55 #[.pointer (some ⟨b, 0, none⟩), .int .i64 i] w fun e w' => e = .returned (nxtV (twoN s.data.toList i)) ∧ Below w.heap.size w w' := by
  have hp : Lib.hasPrefix (s.data.toList.drop (i + 1)) (⟨#[61]⟩ : ByteArray).data.toList = true := pref_yes hx
  have HP := Lib.hid hp
  have hi2 : i + 2 ≤ s.size := by have := (List.getElem?_eq_some_iff.1 hx).1; rw [← Lib.size_eq] at this; omega
  have hsub := Lib.hid (ext_sub s i (i + 2))
  clear hp hx
  have H := Lib.hid h
  have HC := Lib.hid hc
  have HSZ := Lib.hid (Lib.size_eq s)
  clear h hc
  have B0 : Hid (Below w.heap.size w (w.alloc (.cells #[.int .i64 0, .string ⟨#[]⟩, .int .i64 0, .int .i64 0] 104))) := Lib.hid ((Below.refl _ _).alloc (Nat.le_refl _) _)
  have K0 : Hid ((w.alloc (.cells #[.int .i64 0, .string ⟨#[]⟩, .int .i64 0, .int .i64 0] 104)).heap[w.heap.size]? = some (.cells #[.int .i64 0, .string ⟨#[]⟩, .int .i64 0, .int .i64 0] 104 (0, 0))) := Lib.hid (blk_new w _)
  have S0 : Hid (ScanAt (w.alloc (.cells #[.int .i64 0, .string ⟨#[]⟩, .int .i64 0, .int .i64 0] 104)) b s) := Lib.hid (H.out.below B0.out)
  go_enter Tryd.func55, Tryd.ntmps55
  go_wp2_with fail
  generalize w.alloc (.cells #[.int .i64 0, .string ⟨#[]⟩, .int .i64 0, .int .i64 0] 104) = w1 at B0 K0 S0
  generalize hq : w.heap.size = B at B0 K0
  have HQ := Lib.hid hq
  clear hq
  refine (at_calls b s i (by omega) (by omega) _ S0.out).mono ?_
  rintro e w2 ⟨rfl, n1, hw⟩
  rw [HC.out]
  have hb2 : Below w1.heap.size w1 w2 := by rw [hw]; exact bdr (Below.refl _ _) n1
  clear hw
  replace B0 := Lib.hid (below_up B0.out (blk_lt K0.out) hb2)
  replace K0 := Lib.hid (blk_below K0.out hb2)
  replace S0 := Lib.hid (S0.out.below hb2)
  clear hb2
  have cs := S0.out.text
  go_wp2_with fail
  refine (Any.strings_HasPrefix Tryd.lays99 _ _ _).mono ?_
  rintro e w' ⟨rfl, rfl⟩
  rw [Lib.extract_to_end, HP.out]
  clear cs
  have c0 := blk_cell K0.out 0
  have c1 := blk_cell K0.out 1
  have c2 := blk_cell K0.out 2
  have c3 := blk_cell K0.out 3
  have f0 := blk_frozen K0.out 0
  have f1 := blk_frozen K0.out 1
  have f2 := blk_frozen K0.out 2
  have f3 := blk_frozen K0.out 3
  have cs := S0.out.text
  go_wp2_with fail
  rw [hsub.out]
  refine tok_end rfl rfl (tok_ret K0.out B0.out (Nat.le_refl _) _ _ _ _).1 Tryd.underlying104 rfl (by kernel_rfl) rfl ⟨rfl, ?_⟩
  rw [HQ.out]
  exact (tok_ret K0.out B0.out (Nat.le_refl _) _ _ _ _).2
set_option maxRecDepth 100000 in
set_option maxHeartbeats 4000000 in
theorem next_mark (b : Nat) (s : ByteArray) (i : Nat) (hs : s.size ≤ 20000) (hi : i < s.size) (w : World) (h : ScanAt w b s) (hc : clsAt s.data.toList i = 7) (hx : s.data.toList[i + 1]? ≠ some 61) :
    Calls Tryd.prog 55 #[.pointer (some ⟨b, 0, none⟩), .int .i64 i] w fun e w' => e = .returned (nxtV (Nxt.err 3)) ∧ Below w.heap.size w w' := by
  have hp : Lib.hasPrefix (s.data.toList.drop (i + 1)) (⟨#[61]⟩ : ByteArray).data.toList = false := pref_no hx
  have HP := Lib.hid hp
  clear hp hx
  have H := Lib.hid h
  have HC := Lib.hid hc
  have HSZ := Lib.hid (Lib.size_eq s)
  clear h hc
  have B0 : Hid (Below w.heap.size w (w.alloc (.cells #[.int .i64 0, .string ⟨#[]⟩, .int .i64 0, .int .i64 0] 104))) := Lib.hid ((Below.refl _ _).alloc (Nat.le_refl _) _)
  have K0 : Hid ((w.alloc (.cells #[.int .i64 0, .string ⟨#[]⟩, .int .i64 0, .int .i64 0] 104)).heap[w.heap.size]? = some (.cells #[.int .i64 0, .string ⟨#[]⟩, .int .i64 0, .int .i64 0] 104 (0, 0))) := Lib.hid (blk_new w _)
  have S0 : Hid (ScanAt (w.alloc (.cells #[.int .i64 0, .string ⟨#[]⟩, .int .i64 0, .int .i64 0] 104)) b s) := Lib.hid (H.out.below B0.out)
  go_enter Tryd.func55, Tryd.ntmps55
  go_wp2_with fail
  generalize w.alloc (.cells #[.int .i64 0, .string ⟨#[]⟩, .int .i64 0, .int .i64 0] 104) = w1 at B0 K0 S0
  generalize hq : w.heap.size = B at B0 K0
  have HQ := Lib.hid hq
  clear hq
  refine (at_calls b s i (by omega) (by omega) _ S0.out).mono ?_
  rintro e w2 ⟨rfl, n1, hw⟩
  rw [HC.out]
  have hb2 : Below w1.heap.size w1 w2 := by rw [hw]; exact bdr (Below.refl _ _) n1
  clear hw
  replace B0 := Lib.hid (below_up B0.out (blk_lt K0.out) hb2)
  replace K0 := Lib.hid (blk_below K0.out hb2)
  replace S0 := Lib.hid (S0.out.below hb2)
  clear hb2
  have cs := S0.out.text
  go_wp2_with fail
  refine (Any.strings_HasPrefix Tryd.lays99 _ _ _).mono ?_
  rintro e w' ⟨rfl, rfl⟩
  rw [Lib.extract_to_end, HP.out]
  clear cs
  have c0 := blk_cell K0.out 0
  have c1 := blk_cell K0.out 1
  have c2 := blk_cell K0.out 2
  have c3 := blk_cell K0.out 3
  have f0 := blk_frozen K0.out 0
  have f1 := blk_frozen K0.out 1
  have f2 := blk_frozen K0.out 2
  have f3 := blk_frozen K0.out 3
  have cs := S0.out.text
  go_wp2_with fail
  refine tok_end rfl rfl (tok_ret K0.out B0.out (Nat.le_refl _) _ _ _ _).1 Tryd.underlying104 rfl (by kernel_rfl) rfl ⟨rfl, ?_⟩
  rw [HQ.out]
  exact (tok_ret K0.out B0.out (Nat.le_refl _) _ _ _ _).2
set_option maxRecDepth 100000 in
set_option maxHeartbeats 4000000 in
theorem next_ang (b : Nat) (s : ByteArray) (i : Nat) (hs : s.size ≤ 20000) (hi : i < s.size) (w : World) (h : ScanAt w b s) (hc : clsAt s.data.toList i = 8) (hx : s.data.toList[i + 1]? ≠ some 61) :
    Calls Tryd.prog 55 #[.pointer (some ⟨b, 0, none⟩), .int .i64 i] w fun e w' => e = .returned (nxtV (symN s.data.toList i)) ∧ Below w.heap.size w w' := by
  have hp : Lib.hasPrefix (s.data.toList.drop (i + 1)) (⟨#[61]⟩ : ByteArray).data.toList = false := pref_no hx
  have HP := Lib.hid hp
  have hsub := Lib.hid (ext_sub s i (i + 1))
  clear hp hx
  have H := Lib.hid h
  have HC := Lib.hid hc
  have HSZ := Lib.hid (Lib.size_eq s)
  clear h hc
  have B0 : Hid (Below w.heap.size w (w.alloc (.cells #[.int .i64 0, .string ⟨#[]⟩, .int .i64 0, .int .i64 0] 104))) := Lib.hid ((Below.refl _ _).alloc (Nat.le_refl _) _)
  have K0 : Hid ((w.alloc (.cells #[.int .i64 0, .string ⟨#[]⟩, .int .i64 0, .int .i64 0] 104)).heap[w.heap.size]? = some (.cells #[.int .i64 0, .string ⟨#[]⟩, .int .i64 0, .int .i64 0] 104 (0, 0))) := Lib.hid (blk_new w _)
  have S0 : Hid (ScanAt (w.alloc (.cells #[.int .i64 0, .string ⟨#[]⟩, .int .i64 0, .int .i64 0] 104)) b s) := Lib.hid (H.out.below B0.out)
  go_enter Tryd.func55, Tryd.ntmps55
  go_wp2_with fail
  generalize w.alloc (.cells #[.int .i64 0, .string ⟨#[]⟩, .int .i64 0, .int .i64 0] 104) = w1 at B0 K0 S0
  generalize hq : w.heap.size = B at B0 K0
  have HQ := Lib.hid hq
  clear hq
  refine (at_calls b s i (by omega) (by omega) _ S0.out).mono ?_
  rintro e w2 ⟨rfl, n1, hw⟩
  rw [HC.out]
  have hb2 : Below w1.heap.size w1 w2 := by rw [hw]; exact bdr (Below.refl _ _) n1
  clear hw
  replace B0 := Lib.hid (below_up B0.out (blk_lt K0.out) hb2)
  replace K0 := Lib.hid (blk_below K0.out hb2)
  replace S0 := Lib.hid (S0.out.below hb2)
  clear hb2
  have cs := S0.out.text
  go_wp2_with fail
  refine (Any.strings_HasPrefix Tryd.lays99 _ _ _).mono ?_
  rintro e w' ⟨rfl, rfl⟩
  rw [Lib.extract_to_end, HP.out]
  clear cs
  have c0 := blk_cell K0.out 0
  have c1 := blk_cell K0.out 1
  have c2 := blk_cell K0.out 2
  have c3 := blk_cell K0.out 3
  have f0 := blk_frozen K0.out 0
  have f1 := blk_frozen K0.out 1
  have f2 := blk_frozen K0.out 2
  have f3 := blk_frozen K0.out 3
  have cs := S0.out.text
  go_wp2_with fail
  rw [hsub.out]
  refine tok_end rfl rfl (tok_ret K0.out B0.out (Nat.le_refl _) _ _ _ _).1 Tryd.underlying104 rfl (by kernel_rfl) rfl ⟨rfl, ?_⟩
  rw [HQ.out]
  exact (tok_ret K0.out B0.out (Nat.le_refl _) _ _ _ _).2
set_option maxRecDepth 100000 in
set_option maxHeartbeats 4000000 in
theorem next_sym (b : Nat) (s : ByteArray) (i : Nat) (hs : s.size ≤ 20000) (hi : i < s.size) (w : World) (h : ScanAt w b s) (hc : clsAt s.data.toList i = 9) :
    Calls Tryd.prog 55 #[.pointer (some ⟨b, 0, none⟩), .int .i64 i] w fun e w' => e = .returned (nxtV (symN s.data.toList i)) ∧ Below w.heap.size w w' := by
  have hsub := Lib.hid (ext_sub s i (i + 1))
  have H := Lib.hid h
  have HC := Lib.hid hc
  have HSZ := Lib.hid (Lib.size_eq s)
  clear h hc
  have B0 : Hid (Below w.heap.size w (w.alloc (.cells #[.int .i64 0, .string ⟨#[]⟩, .int .i64 0, .int .i64 0] 104))) := Lib.hid ((Below.refl _ _).alloc (Nat.le_refl _) _)
  have K0 : Hid ((w.alloc (.cells #[.int .i64 0, .string ⟨#[]⟩, .int .i64 0, .int .i64 0] 104)).heap[w.heap.size]? = some (.cells #[.int .i64 0, .string ⟨#[]⟩, .int .i64 0, .int .i64 0] 104 (0, 0))) := Lib.hid (blk_new w _)
  have S0 : Hid (ScanAt (w.alloc (.cells #[.int .i64 0, .string ⟨#[]⟩, .int .i64 0, .int .i64 0] 104)) b s) := Lib.hid (H.out.below B0.out)
  go_enter Tryd.func55, Tryd.ntmps55
  go_wp2_with fail
  generalize w.alloc (.cells #[.int .i64 0, .string ⟨#[]⟩, .int .i64 0, .int .i64 0] 104) = w1 at B0 K0 S0
  generalize hq : w.heap.size = B at B0 K0
  have HQ := Lib.hid hq
  clear hq
  refine (at_calls b s i (by omega) (by omega) _ S0.out).mono ?_
  rintro e w2 ⟨rfl, n1, hw⟩
  rw [HC.out]
  have hb2 : Below w1.heap.size w1 w2 := by rw [hw]; exact bdr (Below.refl _ _) n1
  clear hw
  replace B0 := Lib.hid (below_up B0.out (blk_lt K0.out) hb2)
  replace K0 := Lib.hid (blk_below K0.out hb2)
  replace S0 := Lib.hid (S0.out.below hb2)
  clear hb2
  have c0 := blk_cell K0.out 0
  have c1 := blk_cell K0.out 1
  have c2 := blk_cell K0.out 2
  have c3 := blk_cell K0.out 3
  have f0 := blk_frozen K0.out 0
  have f1 := blk_frozen K0.out 1
  have f2 := blk_frozen K0.out 2
  have f3 := blk_frozen K0.out 3
  have cs := S0.out.text
  go_wp2_with fail
  rw [hsub.out]
  refine tok_end rfl rfl (tok_ret K0.out B0.out (Nat.le_refl _) _ _ _ _).1 Tryd.underlying104 rfl (by kernel_rfl) rfl ⟨rfl, ?_⟩
  rw [HQ.out]
  exact (tok_ret K0.out B0.out (Nat.le_refl _) _ _ _ _).2
end Go.Proofs.YtamabdijeklgjaaDoor.Ext
