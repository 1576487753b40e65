/- Several texts in one (LexA LexB LexC LexD). -/
import Derived.Test.YtamabdijeklgjaaDoorLexSpec
import Derived.Test.YtamabdijeklgjaaDoorShelf
import Derived.Lib.SmallJoins
import Derived.Lib.AppendIntMem
import Derived.WalkKit
import Derived.OwnWalk
import Derived.Deep.QuietTactic
import Derived.BigQuiet
import Derived.WideLaws
import Derived.Great.Walk
import Derived.Deep.LoopGhost
import Derived.Deep.WholeRow
import Derived.Deep.MidRow
import Derived.Lib.Strings
import Derived.Lib.IndexBytes
import Derived.Laws.AppendOwn
import Derived.Maps.AppendAt
import Derived.Laws.ResultCell
import Derived.Outline
import Derived.WalkSpells
/- lexer.classes, walked. -/
namespace Go.Proofs.YtamabdijeklgjaaDoor.Ext
open Go Go.Proofs Go.RowKit Go.Proofs.YtamabdijeklgjaaDoorW.PrintWords
set_option linter.unusedVariables false
set_option linter.unusedSimpArgs false

theorem lt_of_cell' {w : World} {b i : Nat} {v : Value} (h : w.cell? ⟨b, i, none⟩ = some v) : b < w.heap.size := by
  rcases Nat.lt_or_ge b w.heap.size with h' | h'
  · exact h'
  · simp [World.cell?, Array.getElem?_eq_none h'] at h
theorem cell_on' {w0 w : World} (hb : Below w0.heap.size w0 w) {b i : Nat} {v : Value} (h : w0.cell? ⟨b, i, none⟩ = some v) : w.cell? ⟨b, i, none⟩ = some v :=
  (hb.cell (p := ⟨b, i, none⟩) (lt_of_cell' h)).trans h
theorem bdr {B : Nat} {w w' : World} (h : Below B w w') (n : Nat) : Below B w (w'.drewN n) := ⟨h.os, h.tape, h.output, h.size, h.block⟩
theorem setCell_grown (w : World) (a : Addr) (u : Value) : w.grownBy (w.setCell a u) (some a.block) :=
  ⟨rfl, rfl, rfl, by simp, fun k _ hne => Below.heap_setCell _ _ _ _ (fun e => hne (by rw [e]))⟩
/-- a block of whole numbers -/
def IntsAt (w : World) (t : TypeId) (N : Nat) (L : List Int) : Prop := w.heap[N]? = some (.cells (L.map (Value.int .i64)).toArray t (0, 0))
theorem IntsAt.set {w : World} {t : TypeId} {N : Nat} {L : List Int} (h : IntsAt w t N L) (i : Nat) (v : Int) : IntsAt (w.setCell ⟨N, i, none⟩ (.int .i64 v)) t N (L.set i v) := by
  unfold IntsAt at h ⊢
  have := blk_put h i (.int .i64 v) rfl
  rw [this]
  simp [List.map_set]
theorem IntsAt.cell {w : World} {t : TypeId} {N : Nat} {L : List Int} (h : IntsAt w t N L) (i : Nat) : w.cell? ⟨N, i, none⟩ = (L[i]?).map (Value.int .i64) := by
  have := blk_cell h i
  rw [this]
  simp

set_option maxRecDepth 100000 in
set_option maxHeartbeats 4000000 in
theorem set_calls (s : ByteArray) (hs : s.size ≤ 100) (c : Int) (N : Nat) (L : List Int) (hL : L.length = 256) (w : World) (h : IntsAt w 110 N L) :
    Calls Tryd.prog 68 #[.string s, .int .i64 c, .pointer (some ⟨N, 0, none⟩)] w fun e w' => e = .returned (.tuple #[]) ∧ IntsAt w' 110 N (setP L s.data.toList c) ∧ w.grownBy w' (some N) := by
  have H := Lib.hid h
  clear h
  have HL := Lib.hid hL
  clear hL
  go_enter Tryd.func68, Tryd.ntmps68
  go_wp2_with fail
  go_loopg [5] s.size (fun g v wx => ∃ i : Nat, i + g = s.size ∧ v = .int .i64 i ∧ Hid (IntsAt wx 110 N (setP L (s.data.toList.take i) c)) ∧ Hid (w.grownBy wx (some N)))
  case atStart => exact ⟨0, by omega, rfl, H, Lib.hid ⟨rfl, rfl, rfl, Nat.le_refl _, fun _ _ _ => rfl⟩⟩
  case round =>
    obtain ⟨i, hig, rfl, HI, HG⟩ := hrel
    cases gk with
    | zero =>
      obtain rfl : i = s.size := by omega
      have hiz : ¬ ((s.size : Int) < (s.size : Int)) := by omega
      go_wp2_with fail
      have HI' := HI.out
      rw [show s.data.toList.take s.size = s.data.toList from List.take_of_length_le (by rw [← Lib.size_eq]; exact Nat.le_refl _)] at HI'
      exact Go.Great.bodyPost_end0 rfl rfl ⟨rfl, HI', HG.out⟩
    | succ g =>
      have hi : i < s.size := by omega
      have hiz : (i : Int) < (s.size : Int) := by omega
      obtain ⟨x, hx⟩ : ∃ x : UInt8, s[i]'hi = x := ⟨_, rfl⟩
      have hxl : s.data.toList[i]? = some x := by rw [← hx]; exact Lib.data_getElem? s i hi
      have hx256 : (x.toNat : Int) < 256 := by have := UInt8.toNat_lt x; omega
      have hlen : x.toNat < (setP L (s.data.toList.take i) c).length := by rw [setP_length, HL.out]; exact UInt8.toNat_lt x
      obtain ⟨o, ho⟩ : ∃ o, (setP L (s.data.toList.take i) c)[x.toNat]? = some o := ⟨_, List.getElem?_eq_getElem hlen⟩
      have hcell : wr.cell? ⟨N, x.toNat, none⟩ = some (.int .i64 o) := by rw [HI.out.cell x.toNat, ho]; rfl
      have hfr := blk_frozen (HI.out) x.toNat
      have Hx := Lib.hid hxl
      clear hxl hlen ho
      go_wp2_with fail
      go_roundg g
      case measure => omega
      case rel => exact ⟨i + 1, by omega, by go_num, Lib.hid (by rw [setP_take _ _ _ _ _ Hx.out]; exact HI.out.set _ _), Lib.hid (HG.out.trans (setCell_grown wr ⟨N, x.toNat, none⟩ _))⟩
end Go.Proofs.YtamabdijeklgjaaDoor.Ext

/- lexer.classes, walked. -/
namespace Go.Proofs.YtamabdijeklgjaaDoor.Ext
open Go Go.Proofs Go.RowKit Go.Proofs.YtamabdijeklgjaaDoorW.PrintWords
set_option linter.unusedVariables false
set_option linter.unusedSimpArgs false

theorem results_cell1 {fn : Func} {p : Tmp} {ty : TypeId} (h : fn.results = #[.cell p ty]) (tmps : Array Value) (P : Program) (w : World) :
    (results fn tmps).run P w = ((asAddr (tmps.getD p undef)).run P w).andThen fun a w₁ => (loadVar ty a).run P w₁ := by
  simp only [results, h]
  simp [Sem.run_bind, Result.andThen]
theorem rep_eq : ((List.replicate 256 (0 : Int)).map (Value.int .i64)).toArray = Array.replicate 256 (Value.int .i64 0) := by
  rw [List.map_replicate, List.toArray_replicate]
theorem IntsAt.range {w : World} {t : TypeId} {N : Nat} {L : List Int} (h : IntsAt w t N L) : w.rangeAt N 0 (L.map (Value.int .i64)) := fun j v hv => by
  rw [Nat.zero_add, h.cell j]
  rw [List.getElem?_map] at hv
  exact hv
theorem IntsAt.there_ {w : World} {t : TypeId} {N : Nat} {L : List Int} (h : IntsAt w t N L) : w.there N 0 L.length := fun j hj => by
  rw [Nat.zero_add, h.cell j, List.getElem?_eq_getElem hj]
  exact ⟨rfl, blk_frozen h j⟩
theorem ints_one (L : List Int) : (L.map (Value.int .i64)).toArray.all (·.oneCell') = true := by
  apply all_oneCell_toArray
  intro v hv
  obtain ⟨n, _, rfl⟩ := List.mem_map.1 hv
  rfl
theorem setCells_grown (b : Nat) : ∀ (vs : List Value) (o : Nat) (w : World), w.grownBy (w.setCells b o vs) (some b)
  | [], _, w => ⟨rfl, rfl, rfl, Nat.le_refl _, fun _ _ _ => rfl⟩
  | v :: r, o, w => by
    rw [World.setCells]
    exact (setCell_grown w ⟨b, o, none⟩ v).trans (setCells_grown b r (o + 1) _)
theorem zero256 : (Tryd.prog.info? 110).map (fun i => (i.zero, i.size)) = some (some (.agg (Array.replicate 256 (.int .i64 0))), 256) := by kernel_rfl
set_option maxRecDepth 100000 in
set_option maxHeartbeats 4000000 in
theorem classes_calls (w : World) :
    Calls Tryd.prog 53 #[] w fun e w' => e = .returned (.agg (clsL.map (Value.int .i64)).toArray) ∧ Below w.heap.size w w' := by
  obtain ⟨hz, hi⟩ := zero_of_info zero256
  have K0 : IntsAt ((w.alloc (.cells (Array.replicate 256 (.int .i64 0)) 110)).alloc (.cells (Array.replicate 256 (.int .i64 0)) 110)) 110 (w.heap.size + 1) (List.replicate 256 0) := by
    have h := blk_new (w.alloc (.cells (Array.replicate 256 (.int .i64 0)) 110)) (.cells (Array.replicate 256 (.int .i64 0)) 110)
    rw [World.size_alloc] at h
    unfold IntsAt
    rw [h, rep_eq]
  have R0 : IntsAt ((w.alloc (.cells (Array.replicate 256 (.int .i64 0)) 110)).alloc (.cells (Array.replicate 256 (.int .i64 0)) 110)) 110 w.heap.size (List.replicate 256 0) := by
    have h := blk_alloc (blk_new w (.cells (Array.replicate 256 (.int .i64 0)) 110)) (.cells (Array.replicate 256 (.int .i64 0)) 110)
    unfold IntsAt
    rw [h, rep_eq]
  have B0 : Below w.heap.size w ((w.alloc (.cells (Array.replicate 256 (.int .i64 0)) 110)).alloc (.cells (Array.replicate 256 (.int .i64 0)) 110)) := ((Below.refl _ _).alloc (Nat.le_refl _) _).alloc (by simp) _
  replace K0 := Lib.hid K0
  replace R0 := Lib.hid R0
  replace B0 := Lib.hid B0
  go_enter Tryd.func53, Tryd.ntmps53
  go_wp2_with fail
  refine (set_calls _ (by decide) 3 (w.heap.size + 1) (List.replicate 256 0) (by simp [setP_length]) _ K0.out).mono ?_
  rintro e w1 ⟨rfl, hk, hg⟩
  have K1 : Hid (IntsAt w1 110 (w.heap.size + 1) (setP (List.replicate 256 0) sLetters 3)) := hk
  have R1 : Hid (IntsAt w1 110 w.heap.size (List.replicate 256 0)) := Lib.hid ((hg.block _ (blk_lt R0.out) (by simp)).trans R0.out)
  have B1 : Hid (Below w.heap.size w w1) := Lib.hid (B0.out.grown hg (Nat.le_of_lt (blk_lt R0.out)) (by intro k e; cases e; omega))
  clear hk hg K0 R0 B0
  go_wp2_with fail
  refine (set_calls _ (by decide) 4 (w.heap.size + 1) (setP (List.replicate 256 0) sLetters 3) (by simp [setP_length]) _ K1.out).mono ?_
  rintro e w2 ⟨rfl, hk, hg⟩
  have K2 : Hid (IntsAt w2 110 (w.heap.size + 1) (setP (setP (List.replicate 256 0) sLetters 3) sDigits 4)) := hk
  have R2 : Hid (IntsAt w2 110 w.heap.size (List.replicate 256 0)) := Lib.hid ((hg.block _ (blk_lt R1.out) (by simp)).trans R1.out)
  have B2 : Hid (Below w.heap.size w w2) := Lib.hid (B1.out.grown hg (Nat.le_of_lt (blk_lt R1.out)) (by intro k e; cases e; omega))
  clear hk hg K1 R1 B1
  go_wp2_with fail
  refine (set_calls _ (by decide) 5 (w.heap.size + 1) (setP (setP (List.replicate 256 0) sLetters 3) sDigits 4) (by simp [setP_length]) _ K2.out).mono ?_
  rintro e w3 ⟨rfl, hk, hg⟩
  have K3 : Hid (IntsAt w3 110 (w.heap.size + 1) (setP (setP (setP (List.replicate 256 0) sLetters 3) sDigits 4) [95] 5)) := hk
  have R3 : Hid (IntsAt w3 110 w.heap.size (List.replicate 256 0)) := Lib.hid ((hg.block _ (blk_lt R2.out) (by simp)).trans R2.out)
  have B3 : Hid (Below w.heap.size w w3) := Lib.hid (B2.out.grown hg (Nat.le_of_lt (blk_lt R2.out)) (by intro k e; cases e; omega))
  clear hk hg K2 R2 B2
  go_wp2_with fail
  refine (set_calls _ (by decide) 1 (w.heap.size + 1) (setP (setP (setP (List.replicate 256 0) sLetters 3) sDigits 4) [95] 5) (by simp [setP_length]) _ K3.out).mono ?_
  rintro e w4 ⟨rfl, hk, hg⟩
  have K4 : Hid (IntsAt w4 110 (w.heap.size + 1) (setP (setP (setP (setP (List.replicate 256 0) sLetters 3) sDigits 4) [95] 5) [32, 9, 10] 1)) := hk
  have R4 : Hid (IntsAt w4 110 w.heap.size (List.replicate 256 0)) := Lib.hid ((hg.block _ (blk_lt R3.out) (by simp)).trans R3.out)
  have B4 : Hid (Below w.heap.size w w4) := Lib.hid (B3.out.grown hg (Nat.le_of_lt (blk_lt R3.out)) (by intro k e; cases e; omega))
  clear hk hg K3 R3 B3
  go_wp2_with fail
  refine (set_calls _ (by decide) 2 (w.heap.size + 1) (setP (setP (setP (setP (List.replicate 256 0) sLetters 3) sDigits 4) [95] 5) [32, 9, 10] 1) (by simp [setP_length]) _ K4.out).mono ?_
  rintro e w5 ⟨rfl, hk, hg⟩
  have K5 : Hid (IntsAt w5 110 (w.heap.size + 1) (setP (setP (setP (setP (setP (List.replicate 256 0) sLetters 3) sDigits 4) [95] 5) [32, 9, 10] 1) [35] 2)) := hk
  have R5 : Hid (IntsAt w5 110 w.heap.size (List.replicate 256 0)) := Lib.hid ((hg.block _ (blk_lt R4.out) (by simp)).trans R4.out)
  have B5 : Hid (Below w.heap.size w w5) := Lib.hid (B4.out.grown hg (Nat.le_of_lt (blk_lt R4.out)) (by intro k e; cases e; omega))
  clear hk hg K4 R4 B4
  go_wp2_with fail
  refine (set_calls _ (by decide) 6 (w.heap.size + 1) (setP (setP (setP (setP (setP (List.replicate 256 0) sLetters 3) sDigits 4) [95] 5) [32, 9, 10] 1) [35] 2) (by simp [setP_length]) _ K5.out).mono ?_
  rintro e w6 ⟨rfl, hk, hg⟩
  have K6 : Hid (IntsAt w6 110 (w.heap.size + 1) (setP (setP (setP (setP (setP (setP (List.replicate 256 0) sLetters 3) sDigits 4) [95] 5) [32, 9, 10] 1) [35] 2) [34] 6)) := hk
  have R6 : Hid (IntsAt w6 110 w.heap.size (List.replicate 256 0)) := Lib.hid ((hg.block _ (blk_lt R5.out) (by simp)).trans R5.out)
  have B6 : Hid (Below w.heap.size w w6) := Lib.hid (B5.out.grown hg (Nat.le_of_lt (blk_lt R5.out)) (by intro k e; cases e; omega))
  clear hk hg K5 R5 B5
  go_wp2_with fail
  refine (set_calls _ (by decide) 7 (w.heap.size + 1) (setP (setP (setP (setP (setP (setP (List.replicate 256 0) sLetters 3) sDigits 4) [95] 5) [32, 9, 10] 1) [35] 2) [34] 6) (by simp [setP_length]) _ K6.out).mono ?_
  rintro e w7 ⟨rfl, hk, hg⟩
  have K7 : Hid (IntsAt w7 110 (w.heap.size + 1) (setP (setP (setP (setP (setP (setP (setP (List.replicate 256 0) sLetters 3) sDigits 4) [95] 5) [32, 9, 10] 1) [35] 2) [34] 6) [33] 7)) := hk
  have R7 : Hid (IntsAt w7 110 w.heap.size (List.replicate 256 0)) := Lib.hid ((hg.block _ (blk_lt R6.out) (by simp)).trans R6.out)
  have B7 : Hid (Below w.heap.size w w7) := Lib.hid (B6.out.grown hg (Nat.le_of_lt (blk_lt R6.out)) (by intro k e; cases e; omega))
  clear hk hg K6 R6 B6
  go_wp2_with fail
  refine (set_calls _ (by decide) 8 (w.heap.size + 1) (setP (setP (setP (setP (setP (setP (setP (List.replicate 256 0) sLetters 3) sDigits 4) [95] 5) [32, 9, 10] 1) [35] 2) [34] 6) [33] 7) (by simp [setP_length]) _ K7.out).mono ?_
  rintro e w8 ⟨rfl, hk, hg⟩
  have K8 : Hid (IntsAt w8 110 (w.heap.size + 1) (setP (setP (setP (setP (setP (setP (setP (setP (List.replicate 256 0) sLetters 3) sDigits 4) [95] 5) [32, 9, 10] 1) [35] 2) [34] 6) [33] 7) [60, 62, 61] 8)) := hk
  have R8 : Hid (IntsAt w8 110 w.heap.size (List.replicate 256 0)) := Lib.hid ((hg.block _ (blk_lt R7.out) (by simp)).trans R7.out)
  have B8 : Hid (Below w.heap.size w w8) := Lib.hid (B7.out.grown hg (Nat.le_of_lt (blk_lt R7.out)) (by intro k e; cases e; omega))
  clear hk hg K7 R7 B7
  go_wp2_with fail
  refine (set_calls _ (by decide) 9 (w.heap.size + 1) (setP (setP (setP (setP (setP (setP (setP (setP (List.replicate 256 0) sLetters 3) sDigits 4) [95] 5) [32, 9, 10] 1) [35] 2) [34] 6) [33] 7) [60, 62, 61] 8) (by simp [setP_length]) _ K8.out).mono ?_
  rintro e w9 ⟨rfl, hk, hg⟩
  have K9 : Hid (IntsAt w9 110 (w.heap.size + 1) (setP (setP (setP (setP (setP (setP (setP (setP (setP (List.replicate 256 0) sLetters 3) sDigits 4) [95] 5) [32, 9, 10] 1) [35] 2) [34] 6) [33] 7) [60, 62, 61] 8) sSymbols 9)) := hk
  have R9 : Hid (IntsAt w9 110 w.heap.size (List.replicate 256 0)) := Lib.hid ((hg.block _ (blk_lt R8.out) (by simp)).trans R8.out)
  have B9 : Hid (Below w.heap.size w w9) := Lib.hid (B8.out.grown hg (Nat.le_of_lt (blk_lt R8.out)) (by intro k e; cases e; omega))
  clear hk hg K8 R8 B8
  go_wp2_with fail
  have hcl : setP (setP (setP (setP (setP (setP (setP (setP (setP (List.replicate 256 0) sLetters 3) sDigits 4) [95] 5) [32, 9, 10] 1) [35] 2) [34] 6) [33] 7) [60, 62, 61] 8) sSymbols 9 = clsL := rfl
  rw [hcl] at K9
  clear hcl
  have hN := Lib.hid (K9.out.range)
  have hR := Lib.hid (R9.out.there_)
  have hlen : (clsL.map (Value.int .i64)).length = 256 := by rw [List.length_map, clsL_length]
  have hi' : (Tryd.prog.info? 110).map (·.size) = some (clsL.map (Value.int .i64)).length := by rw [hlen]; exact hi
  have hlt := blk_lt R9.out
  have hth : Hid (w9.there w.heap.size 0 (clsL.map (Value.int .i64)).toArray.size) := by
    have e : (clsL.map (Value.int .i64)).toArray.size = (List.replicate 256 (0 : Int)).length := by rw [List.size_toArray, hlen, List.length_replicate]
    rw [e]
    exact hR.out
  have htl : Hid (w9.there w.heap.size 0 (clsL.map (Value.int .i64)).length) := by
    have e : (clsL.map (Value.int .i64)).length = (List.replicate 256 (0 : Int)).length := by rw [hlen, List.length_replicate]
    rw [e]
    exact hR.out
  clear hz
  refine wp_load_mid 110 (.tmp 1) rfl (w.heap.size + 1) 0 rfl (clsL.map (Value.int .i64)) _ hN.out Tryd.underlying110 rfl hi' ?_
  have hst : (storeCells ⟨w.heap.size, 0, none⟩ (clsL.map (Value.int .i64))).run Tryd.prog w9 = .ok () (w9.setCells w.heap.size 0 (clsL.map (Value.int .i64))) := by
    have := run_storeCells_cells (P := Tryd.prog) w.heap.size 0 (clsL.map (Value.int .i64)) 0 w9 (fun j hj => by simpa using (htl.out j hj).1) (fun j hj => by simpa using (htl.out j hj).2) (fun v hv => by obtain ⟨n, _, rfl⟩ := List.mem_map.1 hv; rfl)
    simpa using this
  have hS : Hid ((w9.setCells w.heap.size 0 (clsL.map (Value.int .i64))).rangeAt w.heap.size 0 (clsL.map (Value.int .i64))) := Lib.hid (World.rangeAt_setCells_same w9 w.heap.size 0 _ htl.out)
  have hB : Hid (Below w.heap.size w (w9.setCells w.heap.size 0 (clsL.map (Value.int .i64)))) := Lib.hid (B9.out.grown (setCells_grown w.heap.size _ 0 w9) (Nat.le_of_lt hlt) (by intro k e; cases e; omega))
  generalize w9.setCells w.heap.size 0 (clsL.map (Value.int .i64)) = wz at hS hB hst
  go_wp2_with fail
  have hld := run_loadVar_mid (P := Tryd.prog) wz w.heap.size 0 110 (clsL.map (Value.int .i64)) _ hS.out Tryd.underlying110 rfl hi'
  refine bodyPost_ret (v := .agg (clsL.map (Value.int .i64)).toArray) ?_ rfl ⟨rfl, hB.out⟩
  rw [results_cell1 rfl]
  simp [asAddr, Result.andThen, hld]
end Go.Proofs.YtamabdijeklgjaaDoor.Ext

/- lexer.scanner.at and while, walked. -/
namespace Go.Proofs.YtamabdijeklgjaaDoor.Ext
open Go Go.Proofs Go.RowKit Go.Proofs.YtamabdijeklgjaaDoorW.PrintWords
set_option linter.unusedVariables false
set_option linter.unusedSimpArgs false

/-- the scanner's block: the text, the classes -/
def ScanAt (w : World) (b : Nat) (s : ByteArray) : Prop := w.heap[b]? = some (.cells (Value.string s :: clsL.map (Value.int .i64)).toArray 113 (0, 0))
theorem ScanAt.text {w : World} {b : Nat} {s : ByteArray} (h : ScanAt w b s) : w.cell? ⟨b, 0, none⟩ = some (.string s) := by
  have := blk_cell h 0
  rw [this, List.getElem?_toArray, List.getElem?_cons_zero]
theorem ScanAt.cls {w : World} {b : Nat} {s : ByteArray} (h : ScanAt w b s) (c : UInt8) : w.cell? ⟨b, 1 + c.toNat, none⟩ = some (.int .i64 (cls c)) := by
  have := blk_cell h (1 + c.toNat)
  rw [this, Nat.add_comm 1, List.getElem?_toArray, List.getElem?_cons_succ, List.getElem?_map, clsL_at]
  rfl
theorem ScanAt.drewN {w : World} {b : Nat} {s : ByteArray} (h : ScanAt w b s) (n : Nat) : ScanAt (w.drewN n) b s := h
theorem ScanAt.below {w w' : World} {b : Nat} {s : ByteArray} (h : ScanAt w b s) (hb : Below w.heap.size w w') : ScanAt w' b s := blk_below h hb
theorem clsAt_stop (l : List UInt8) (i : Nat) (h : l.length ≤ i) : clsAt l i = 0 := by
  unfold clsAt
  rw [List.getElem?_eq_none h]
theorem clsAt_in (s : ByteArray) (i : Nat) (h : i < s.size) : clsAt s.data.toList i = cls (s[i]'h) := by
  unfold clsAt
  rw [Lib.data_getElem? s i h]

set_option maxRecDepth 100000 in
set_option maxHeartbeats 1000000 in
theorem at_calls (b : Nat) (s : ByteArray) (i : Nat) (hs : s.size ≤ 140737488351232) (hi : i ≤ 140737488351232) (w : World) (h : ScanAt w b s) :
    Calls Tryd.prog 70 #[.pointer (some ⟨b, 0, none⟩), .int .i64 i] w fun e w' => e = .returned (.int .i64 (clsAt s.data.toList i)) ∧ ∃ n, w' = w.drewN n := by
  have c0 := h.text
  have H := Lib.hid h
  clear h
  by_cases hlt : i < s.size
  · have hz : ¬ (s.size : Int) ≤ (i : Int) := by omega
    have hd : decide ((s.size : Int) ≤ (i : Int)) = false := by simpa using hz
    have c1 := H.out.cls (s[i]'hlt)
    have hc := Lib.hid (clsAt_in s i hlt)
    have hb := UInt8.toNat_lt (s[i]'hlt)
    go_enter Tryd.func70, Tryd.ntmps70
    go_wp2
    go_quiet (fail)
    go_wp2
    go_ret
    exact ⟨by rw [hc.out]; rfl, _, rfl⟩
  · have hz : (s.size : Int) ≤ (i : Int) := by omega
    have hc := Lib.hid (clsAt_stop s.data.toList i (by rw [← Lib.size_eq]; omega))
    go_enter Tryd.func70, Tryd.ntmps70
    go_wp2
    go_ret
    exact ⟨by rw [hc.out]; rfl, 0, rfl⟩

/-- a row of whole numbers that reads as a list -/
def IntRow (w : World) (g : Nat) (cs : List Int) : Prop := ∀ j, j < cs.length → w.cell? ⟨g, 0 + j, none⟩ = some (.int .i64 (cs.getD j 0))
theorem IntRow.drewN {w : World} {g : Nat} {cs : List Int} (h : IntRow w g cs) (n : Nat) : IntRow (w.drewN n) g cs := h
set_option maxRecDepth 100000 in
set_option maxHeartbeats 1000000 in
theorem while_calls (b : Nat) (s : ByteArray) (i : Nat) (g n c : Nat) (cs : List Int) (hn : n = cs.length) (hc : cs.length ≤ 10) (hs : s.size ≤ 140737488351232) (hi : i ≤ s.size) (w : World) (h : ScanAt w b s) (hr : IntRow w g cs) :
    Calls Tryd.prog 69 #[.pointer (some ⟨b, 0, none⟩), .int .i64 i, .slice (some ⟨g, 0, none⟩) n c] w fun e w' => e = .returned (.int .i64 (spanE cs s.data.toList i)) ∧ ∃ n, w' = w.drewN n := by
  have c0 := h.text
  have H := Lib.hid h
  have HR := Lib.hid hr
  subst hn
  clear h hr
  go_enter Tryd.func69, Tryd.ntmps69
  go_wp2_with fail
  go_loopg [1] (s.size - i) (fun g v wx => ∃ j : Nat, j + g = s.size ∧ v = .int .i64 j ∧ Hid (spanE cs s.data.toList j = spanE cs s.data.toList i) ∧ Hid (∃ n, wx = w.drewN n))
  case atStart => exact ⟨i, by omega, rfl, Lib.hid rfl, Lib.hid ⟨0, rfl⟩⟩
  case round =>
    obtain ⟨j, hj, rfl, HE, HW⟩ := hrel
    obtain ⟨m, rfl⟩ := HW.out
    clear HW
    cases gk with
    | zero =>
      obtain rfl : j = s.size := by omega
      have hz : ¬ ((s.size : Int) < (s.size : Int)) := by omega
      have HQ := Lib.hid (HE.out.symm.trans (spanE_stop cs s.data.toList s.size (by rw [← Lib.size_eq]; exact Nat.le_refl _)))
      go_wp2_with fail
      go_ret
      exact ⟨by rw [HQ.out]; rfl, _, rfl⟩
    | succ g' =>
      have hjl : j < s.size := by omega
      have hz : (j : Int) < (s.size : Int) := by omega
      have hcl := clsAt_in s j hjl
      have hx := Lib.data_getElem? s j hjl
      by_cases hcon : cs.contains (cls (s[j]'hjl)) = true
      · have HC := Lib.hid hcon
        have HS := Lib.hid (spanE_yes cs s.data.toList j _ hx hcon)
        have HL := Lib.hid hcl
        clear hcon hx hcl
        go_wp2_with fail
        refine (at_calls b s j hs (by omega) _ (H.out.drewN m)).mono ?_
        rintro e w' ⟨rfl, n1, rfl⟩
        rw [HL.out]
        go_wp2_with fail
        refine (Any.slices_Contains_int Tryd.lays107 g 0 cs.length c cs _ _ (Nat.le_refl _) (by omega) (HR.out.drewN (m + n1))).mono ?_
        rintro e w' ⟨rfl, rfl⟩
        rw [List.take_length, HC.out]
        go_wp2_with fail
        go_roundg g'
        case measure => omega
        case rel => exact ⟨j + 1, by omega, by go_num, Lib.hid (HS.out.symm.trans HE.out), Lib.hid ⟨_, rfl⟩⟩
      · have hcon' : cs.contains (cls (s[j]'hjl)) = false := by simpa using hcon
        have HC := Lib.hid hcon'
        have HS := Lib.hid (HE.out.symm.trans (spanE_no cs s.data.toList j _ hx hcon'))
        have HL := Lib.hid hcl
        clear hcon hx hcl hcon'
        go_wp2_with fail
        refine (at_calls b s j hs (by omega) _ (H.out.drewN m)).mono ?_
        rintro e w' ⟨rfl, n1, rfl⟩
        rw [HL.out]
        go_wp2_with fail
        refine (Any.slices_Contains_int Tryd.lays107 g 0 cs.length c cs _ _ (Nat.le_refl _) (by omega) (HR.out.drewN (m + n1))).mono ?_
        rintro e w' ⟨rfl, rfl⟩
        rw [List.take_length, HC.out]
        go_wp2_with fail
        go_ret
        exact ⟨by rw [HS.out]; rfl, _, rfl⟩
end Go.Proofs.YtamabdijeklgjaaDoor.Ext

/- lexer.scanner.gap, walked. -/
namespace Go.Proofs.YtamabdijeklgjaaDoor.Ext
open Go Go.Proofs Go.RowKit Go.Proofs.YtamabdijeklgjaaDoorW.PrintWords
set_option linter.unusedVariables false
set_option linter.unusedSimpArgs false

theorem indexByte_find (l : List UInt8) (c : UInt8) : Lib.indexByte l c = match l.findIdx? (· == c) with
    | none => -1
    | some n => (n : Int) := by
  induction l with
  | nil => rfl
  | cons b t ih =>
    rw [Lib.indexByte, List.findIdx?_cons]
    by_cases hb : (b == c) = true
    · rw [if_pos hb, if_pos hb]
      rfl
    · rw [if_neg hb, if_neg hb, ih]
      cases h : t.findIdx? (· == c) with
      | none => simp
      | some n =>
        have : ¬ ((n : Int) == -1) = true := by simp
        simp only [Option.map_some]
        rw [if_neg this]
        simp
theorem cls_hash {b : UInt8} (h : cls b = 2) : b = 35 := by
  have : ∀ i ∈ List.range 256, clsN i = 2 → i = 35 := by decide +kernel
  have h2 := this b.toNat (by simp; exact UInt8.toNat_lt b) h
  exact UInt8.toNat_inj.1 h2
theorem clsAt_lt {l : List UInt8} {i : Nat} (h : clsAt l i ≠ 0) : i < l.length := by
  rcases Nat.lt_or_ge i l.length with h' | h'
  · exact h'
  · exact absurd (clsAt_stop l i h') h
/-- the row behind a slice built of numbers -/
theorem introw_new (w : World) (t : TypeId) (cs : List Int) : IntRow (w.alloc (.cells (cs.map (Value.int .i64)).toArray t)) w.heap.size cs := fun j hj => by
  have := blk_cell (blk_new w (.cells (cs.map (Value.int .i64)).toArray t)) (0 + j)
  rw [this, Nat.zero_add, List.getElem?_toArray, List.getElem?_map]
  simp [List.getD_eq_getElem?_getD, List.getElem?_eq_getElem hj]
theorem find_hash {l : List UInt8} {i n : Nat} (h : clsAt l i = 2) (hn : (l.drop i).findIdx? (· == 10) = some n) : 1 ≤ n ∧ i + n < l.length := by
  have hl := clsAt_lt (l := l) (i := i) (by rw [h]; decide)
  obtain ⟨hlt, hp, _⟩ := List.findIdx?_eq_some_iff_getElem.1 hn
  rw [List.length_drop] at hlt
  refine ⟨?_, by omega⟩
  rcases Nat.eq_zero_or_pos n with h0 | h0
  · subst h0
    rw [List.getElem_drop] at hp
    have hx : l[i]? = some l[i] := List.getElem?_eq_getElem hl
    have hc : cls l[i] = 2 := by
      unfold clsAt at h
      rw [hx] at h
      exact h
    have := cls_hash hc
    simp only [Nat.add_zero] at hp
    rw [this] at hp
    exact absurd hp (by decide)
  · exact h0

set_option maxRecDepth 100000 in
set_option maxHeartbeats 4000000 in
theorem gap_calls (b : Nat) (s : ByteArray) (i : Nat) (hs : s.size ≤ 140737488351232) (hi : i ≤ s.size) (w : World) (h : ScanAt w b s) :
    Calls Tryd.prog 54 #[.pointer (some ⟨b, 0, none⟩), .int .i64 i] w fun e w' => e = .returned (.int .i64 (gapL s.data.toList i)) ∧ Below w.heap.size w w' := by
  have H := Lib.hid h
  have hlen := Lib.hid (Lib.size_eq s)
  clear h
  go_enter Tryd.func54, Tryd.ntmps54
  go_wp2_with fail
  refine (while_calls b s i w.heap.size 1 1 [1] rfl (by decide) hs hi _ (H.out.below ((Below.refl _ _).alloc (Nat.le_refl _) _)) (introw_new w _ [1])).mono ?_
  rintro e w' ⟨rfl, n1, rfl⟩
  have HB0 : Hid (Below w.heap.size w ((w.alloc (.cells #[.int .i64 1] 3)).drewN n1)) := Lib.hid (bdr ((Below.refl _ _).alloc (Nat.le_refl _) _) n1)
  go_wp2_with fail
  go_loopg [1] (s.size - i) (fun g v wx => ∃ j : Nat, j ≤ s.size ∧ s.size ≤ j + g ∧ v = .int .i64 (spanE [1] s.data.toList j : Nat) ∧ Hid (gapE (g + 1) s.data.toList j = gapL s.data.toList i) ∧ Hid (Below w.heap.size w wx))
  case atStart => exact ⟨i, hi, by omega, rfl, Lib.hid (by unfold gapL; rw [← hlen.out]), HB0⟩
  case round =>
    obtain ⟨j, hj1, hj2, rfl, HG, HB⟩ := hrel
    obtain ⟨sp, hsp⟩ : ∃ sp, spanE [1] s.data.toList j = sp := ⟨_, rfl⟩
    have hge := spanE_ge [1] s.data.toList j
    have hle := spanE_le [1] s.data.toList j (by rw [← hlen.out]; exact hj1)
    rw [← hlen.out] at hle
    rw [hsp] at hge hle
    have HG' := HG.out
    unfold gapE at HG'
    rw [hsp] at HG'
    rw [hsp]
    have HSP := Lib.hid hsp
    clear hsp HG
    have HSc : Hid (ScanAt wr b s) := Lib.hid (H.out.below HB.out)
    have c0 := HSc.out.text
    by_cases hcl : clsAt s.data.toList sp = 2
    · rw [if_pos hcl] at HG'
      have hspl : sp < s.size := by
        have := clsAt_lt (l := s.data.toList) (i := sp) (by rw [hcl]; decide)
        rw [← hlen.out] at this; exact this
      obtain ⟨o, ho⟩ : ∃ o, (s.data.toList.drop sp).findIdx? (· == 10) = o := ⟨_, rfl⟩
      rw [ho] at HG'
      have HO := Lib.hid ho
      have HC := Lib.hid hcl
      cases o with
      | none =>
        have HR : Hid (gapL s.data.toList i = s.size) := Lib.hid (by rw [← HG', hlen.out])
        clear ho hcl HG'
        go_wp2_with fail
        refine (at_calls b s sp hs (by omega) _ HSc.out).mono ?_
        rintro e w' ⟨rfl, n2, rfl⟩
        rw [HC.out]
        go_wp2_with fail
        refine (Any.strings_IndexByte Tryd.lays137 _ 10 _).mono ?_
        rintro e w' ⟨rfl, rfl⟩
        rw [indexByte_find, Lib.extract_to_end, show ((10 : Int).toNat.toUInt8) = 10 from rfl, HO.out]
        go_wp2_with fail
        go_ret
        exact ⟨by rw [HR.out]; rfl, bdr HB.out _⟩
      | some n =>
        obtain ⟨hn1, hn2⟩ := find_hash hcl ho
        rw [← hlen.out] at hn2
        cases gk with
        | zero => exfalso; omega
        | succ g' =>
        have HR : Hid (gapE (g' + 1) s.data.toList (sp + n) = gapL s.data.toList i) := Lib.hid HG'
        clear ho hcl HG'
        go_wp2_with fail
        refine (at_calls b s sp hs (by omega) _ HSc.out).mono ?_
        rintro e w' ⟨rfl, n2, rfl⟩
        rw [HC.out]
        go_wp2_with fail
        refine (Any.strings_IndexByte Tryd.lays137 _ 10 _).mono ?_
        rintro e w' ⟨rfl, rfl⟩
        rw [indexByte_find, Lib.extract_to_end, show ((10 : Int).toNat.toUInt8) = 10 from rfl, HO.out]
        go_wp2_with fail
        rw [show ((sp : Int) + (n : Int)) = ((sp + n : Nat) : Int) by omega]
        refine (while_calls b s (sp + n) _ 1 1 [1] rfl (by decide) hs (by omega) _ ((HSc.out.drewN n2).below ((Below.refl _ _).alloc (Nat.le_refl _) _)) (introw_new (wr.drewN n2) _ [1])).mono ?_
        rintro e w' ⟨rfl, n3, rfl⟩
        have HB2 : Hid (Below w.heap.size w (((wr.drewN n2).alloc (.cells #[.int .i64 1] 3)).drewN n3)) := Lib.hid (bdr ((bdr HB.out n2).alloc HB.out.size _) n3)
        go_wp2_with fail
        go_roundg g'
        case measure => omega
        case rel => exact ⟨sp + n, by omega, by omega, rfl, HR, HB2⟩
    · rw [if_neg hcl] at HG'
      have HR : Hid (gapL s.data.toList i = sp) := Lib.hid HG'.symm
      have hne : (clsAt s.data.toList sp == 2) = false := by simpa using hcl
      clear hcl HG'
      go_wp2_with fail
      refine (at_calls b s sp hs (by omega) _ HSc.out).mono ?_
      rintro e w' ⟨rfl, n2, rfl⟩
      go_wp2_with fail
      go_ret
      exact ⟨by rw [HR.out]; rfl, bdr HB.out _⟩
end Go.Proofs.YtamabdijeklgjaaDoor.Ext
