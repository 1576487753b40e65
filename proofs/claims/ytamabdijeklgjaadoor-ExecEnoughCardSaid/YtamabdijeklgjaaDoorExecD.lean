/- exec.Run, walked: the loops. -/
import Derived.Test.YtamabdijeklgjaaDoorExecC
namespace Go.Proofs.YtamabdijeklgjaaDoor.Ext
open Go Go.Proofs Go.RowKit Go.Proofs.YtamabdijeklgjaaDoorW.PrintWords
set_option linter.unusedVariables false
set_option linter.unusedSimpArgs false

theorem px_ix0 (a b c d : Value) (w : World) : (Instr.index 55 (.agg #[a, b, c, d]) (.int .i64 0)).run Tryd.prog w = .ok a w := by kernel_rfl
theorem px_ix1 (a b c d : Value) (w : World) : (Instr.index 55 (.agg #[a, b, c, d]) (.int .i64 1)).run Tryd.prog w = .ok b w := by kernel_rfl
theorem px_ix2 (a b c d : Value) (w : World) : (Instr.index 55 (.agg #[a, b, c, d]) (.int .i64 2)).run Tryd.prog w = .ok c w := by kernel_rfl
theorem px_ix3 (a b c d : Value) (w : World) : (Instr.index 55 (.agg #[a, b, c, d]) (.int .i64 3)).run Tryd.prog w = .ok d w := by kernel_rfl
theorem px_idx (a b c d : Int) (cc : Nat) (v : Int) (h : [a, b, c, d][cc]? = some v) (w : World) : (Instr.index 55 (.agg #[.int .i64 a, .int .i64 b, .int .i64 c, .int .i64 d]) (.int .i64 (cc : Int))).run Tryd.prog w = .ok (.int .i64 v) w := by
  match cc, h with
  | 0, h =>
    obtain rfl : a = v := by simpa using h
    exact px_ix0 _ _ _ _ w
  | 1, h =>
    obtain rfl : b = v := by simpa using h
    exact px_ix1 _ _ _ _ w
  | 2, h =>
    obtain rfl : c = v := by simpa using h
    exact px_ix2 _ _ _ _ w
  | 3, h =>
    obtain rfl : d = v := by simpa using h
    exact px_ix3 _ _ _ _ w
theorem pixI_get : ∀ (l : List FS) (i : Nat) (x : FS), l[i]? = some x → ∀ j v, (pxL x)[j]? = some v → (pixI l)[i * 4 + j]? = some v
  | [], i, x, h, j, v, _ => by simp at h
  | y :: l, 0, x, h, j, v, hv => by
    obtain rfl : y = x := by simpa using h
    have hj : j < 4 := (List.getElem?_eq_some_iff.1 hv).1
    show (pxL y ++ pixI l)[0 * 4 + j]? = some v
    rw [List.getElem?_append_left (by show 0 * 4 + j < 4; omega), Nat.zero_mul, Nat.zero_add]
    exact hv
  | y :: l, i + 1, x, h, j, v, hv => by
    have := pixI_get l i x (by simpa using h) j v hv
    show (pxL y ++ pixI l)[(i + 1) * 4 + j]? = some v
    rw [List.getElem?_append_right (by show 4 ≤ _; omega)]
    rw [show (i + 1) * 4 + j - (pxL y).length = i * 4 + j by show _ - 4 = _; omega]
    exact this
theorem pixI_len (l : List FS) : (pixI l).length = l.length * 4 := by
  induction l with
  | nil => rfl
  | cons x l ih =>
    show (pxL x ++ pixI l).length = _
    rw [List.length_append, ih, List.length_cons]
    show 4 + _ = _
    omega
theorem pixI_mem {l : List FS} {v : Int} : v ∈ pixI l ↔ ∃ x ∈ l, v ∈ pxL x := by unfold pixI; exact List.mem_flatMap
theorem pix_far {l : List FS} (h : ∀ (i : Nat) (x : FS), l[i]? = some x → ∀ v ∈ pxL x, farE v = false) : (pixI l).all (fun n => !farE n) = true := by
  rw [List.all_eq_true]
  intro v hv
  obtain ⟨x, hx, hvx⟩ := pixI_mem.1 hv
  obtain ⟨i, hi⟩ := List.mem_iff_getElem?.1 hx
  rw [h i x hi v hvx]
  rfl
theorem made_four (z : Value) (m : Nat) : madeCells #[z, z, z, z] m = (List.replicate m z).toArray := by
  unfold madeCells
  have h : (fun x : Nat => (#[z, z, z, z] : Array Value)[x % (#[z, z, z, z] : Array Value).size]!) = fun _ => z := by
    funext i
    have : i % 4 = 0 ∨ i % 4 = 1 ∨ i % 4 = 2 ∨ i % 4 = 3 := by omega
    show (#[z, z, z, z] : Array Value)[i % 4]! = z
    rcases this with e | e | e | e <;> rw [e] <;> rfl
  rw [h]
  apply Array.ext
  · simp
  · intro i h1 h2
    simp
theorem make_run (n : Nat) (hn : n ≤ 40) (w : World) : (Instr.makeSlice 79 (.int .i64 (n : Int)) (.int .i64 (n : Int))).run Tryd.prog w = .ok (.slice (some ⟨w.heap.size, 0, none⟩) n n) (w.alloc (.cells (((List.replicate (n * 4) 0).map (Value.int .i64)).toArray) 44)) := by
  have hinfo : (Tryd.prog.info? 44).map (fun i => (i.zero, i.size, i.bytes)) = some (some (.agg #[.int .i64 0, .int .i64 0, .int .i64 0, .int .i64 0]), 4, 32) := by kernel_rfl
  obtain ⟨it, hi, hz0, hz1, hz2⟩ := info_parts hinfo
  have h := run_make w 79 44 it _ Tryd.underlying79 hi hz0 .i64 .i64 (n : Int) (n : Int) (by omega) (by omega) (by rw [hz2]; omega) (by omega)
  refine h.trans ?_
  rw [Int.toNat_natCast, hz1, List.map_replicate]
  rw [show (Value.agg #[.int .i64 0, .int .i64 0, .int .i64 0, .int .i64 0]).cells = #[.int .i64 0, .int .i64 0, .int .i64 0, .int .i64 0] from rfl, made_four]
end Go.Proofs.YtamabdijeklgjaaDoor.Ext
