/- unit.Text's closure, walked. -/
import Derived.Test.YtifamjapgpcjjaaDoorUnitC
import Derived.SizedLaws
import Derived.Great.Walk
import Derived.Deep.AppendLies
import Derived.RegionTactic
import Derived.Deep.RegionLaw
namespace Go.Proofs.YtifamjapgpcjjaaDoor.Ext
open Go Go.Proofs Go.RowKit Go.Proofs.YtifamjapgpcjjaaDoorW.PrintWords
set_option linter.unusedVariables false

/-- the factors so far: in the cell F, own row behind it -/
def Facs (w : World) (F : Nat) (xs : List ByteArray) : Prop := ∃ v, w.heap[F]? = some (.cells #[v] 44 (0, 0)) ∧ w.ownsRow (F + 1) 9 1 v xs.length (xs.map Value.string)

theorem setCell_grown (w : World) (a : Addr) (u : Value) : w.grownBy (w.setCell a u) (some a.block) :=
  ⟨rfl, rfl, rfl, by simp, fun k _ hne => Below.heap_setCell _ _ _ _ (fun e => hne (by rw [e]))⟩

theorem facs_add {w w1 : World} {F : Nat} {v v' : Value} {xs : List ByteArray} {s : ByteArray} {o : Obj} (hc : w.heap[F]? = some (.cells #[v] 44 (0, 0))) (ho : w.ownsRow (F + 1) 9 1 v xs.length (xs.map Value.string))
    (hg : (w.alloc o).grownBy w1 v.ownBlock) (ho' : w1.ownsRow (F + 1) 9 1 v' (xs.length + 1) (xs.map Value.string ++ [.string s])) :
    Facs (w1.setCell ⟨F, 0, none⟩ v') F (xs ++ [s]) ∧ Below F w (w1.setCell ⟨F, 0, none⟩ v') := by
  have hne : ∀ {w : World} {u : Value} {n : Nat} {ys : List Value}, w.ownsRow (F + 1) 9 1 u n ys → ∀ k, k ≤ F → some k ≠ u.ownBlock := fun h k hk e => by
    have := (h.lt k e.symm).1
    omega
  have hF : w1.heap[F]? = some (.cells #[v] 44 (0, 0)) := (hg.block F (Nat.lt_trans (blk_lt hc) (by simp)) (hne ho F (Nat.le_refl _))).trans (blk_alloc hc _)
  refine ⟨⟨v', blk_put hF 0 _ rfl, ?_⟩, ?_⟩
  · have := ho'.kept (setCell_grown w1 ⟨F, 0, none⟩ v') (Or.inr (fun e => hne ho' F (Nat.le_refl _) e.symm))
    simpa using this
  · have hs := hg.size
    refine ⟨?_, ?_, ?_, ?_, ?_⟩
    · rw [show (w1.setCell ⟨F, 0, none⟩ v').os = w1.os from rfl, hg.os]; rfl
    · rw [show (w1.setCell ⟨F, 0, none⟩ v').tape = w1.tape from rfl, hg.tape]; rfl
    · rw [show (w1.setCell ⟨F, 0, none⟩ v').output = w1.output from rfl, hg.output]; rfl
    · simp at hs ⊢; omega
    · intro k hk
      have hl := blk_lt hc
      rw [Below.heap_setCell _ _ _ _ (by show k ≠ F; omega), hg.block k (by simp; omega) (hne ho k (by omega))]
      exact Below.heap_alloc _ _ _ (by omega)
theorem infoS : (Tryd.prog.info? 9).map (fun i => (i.zero, i.size, i.bytes)) = some (some (.string ⟨#[]⟩), 1, 16) := by kernel_rfl

set_option maxRecDepth 100000 in
set_option maxHeartbeats 2000000 in
theorem add_zero (name : ByteArray) (F : Nat) (xs : List ByteArray) (w : World) (h : Facs w F xs) :
    Calls Tryd.prog 23 #[.string name, .int .i64 0, .pointer (some ⟨F, 0, none⟩)] w fun e w' => e = .returned (.tuple #[]) ∧ Facs w' F xs ∧ Below F w w' := by
  have H := Lib.hid h
  clear h
  go_enter Tryd.func23, Tryd.ntmps23
  go_wp2_with fail
  exact Go.Great.bodyPost_end0 rfl rfl ⟨rfl, H.out, Below.refl _ _⟩
set_option maxRecDepth 100000 in
set_option maxHeartbeats 2000000 in
theorem add_one (name : ByteArray) (F : Nat) (xs : List ByteArray) (w : World) (hx : xs.length ≤ 10) (h : Facs w F xs) :
    Calls Tryd.prog 23 #[.string name, .int .i64 1, .pointer (some ⟨F, 0, none⟩)] w fun e w' => e = .returned (.tuple #[]) ∧ Facs w' F (xs ++ [name]) ∧ Below F w w' := by
  obtain ⟨v, hc, ho⟩ := h
  have hl := blk_lt hc
  have K := Lib.hid hc
  have O := Lib.hid ho
  have c0 := blk_cell hc 0
  have f0 := blk_frozen hc 0
  clear hc ho
  obtain ⟨is, hi, hz0, hz1, hz2⟩ := info_parts infoS
  go_enter Tryd.func23, Tryd.ntmps23
  go_wp2_with (first | (at_builtin; refine wpList_append_own _ rfl _ _ 44 rfl (F + 1) 9 is (.string ⟨#[]⟩) 1 16 Tryd.underlying44 hi hz0 hz1 hz2 rfl (by decide) _ _ _ rfl (O.out.alloc _) ⟨w.heap.size, 0, none⟩ 1 1 [.string name] rfl rfl ?c1 ?c2 ?c3 ?c4 ?c5 ?_) | fail)
  case c1 =>
    intro j u hj
    match j, hj with
    | 0, hj => simp at hj; subst hj; simp [Addr.add]
  case c2 => intro u hu; simp at hu; subst hu; rfl
  case c3 => unfold maxLen; omega
  case c4 => omega
  case c5 => simp; omega
  intro v' w1 hown' hgrow _
  have R := Lib.hid (facs_add K.out O.out hgrow hown')
  have hF : w1.heap[F]? = some (.cells #[v] 44 (0, 0)) := (hgrow.block F (Nat.lt_trans hl (by simp)) (fun e => by have := (O.out.lt F e.symm).1; omega)).trans (blk_alloc K.out _)
  have d0 := blk_cell hF 0
  have e0 := blk_frozen hF 0
  obtain ⟨g', c', rfl⟩ : ∃ g c, v' = .slice (some ⟨g, 0, none⟩) (xs.length + 1) c := by
    rcases hown'.2 with ⟨_, h0⟩ | ⟨g, cap, cur, e1, _⟩
    · exact absurd h0 (by omega)
    · exact ⟨g, cap, e1⟩
  clear hown' hgrow hF c0 f0
  go_wp2_with fail
  exact Go.Great.bodyPost_end0 rfl rfl ⟨rfl, R.out.1, R.out.2⟩
def facS (name : ByteArray) (n : Int) : ByteArray := name ++ ⟨#[94]⟩ ++ itoaS n
theorem own_below {base : Nat} {e : TypeId} {size n : Nat} {v : Value} {xs : List Value} {w w' : World} (h : w.ownsRow base e size v n xs) (hb : Below w.heap.size w w') : w'.ownsRow base e size v n xs := by
  refine h.kept (row := none) ⟨hb.os, hb.tape, hb.output, hb.size, fun k hk _ => hb.block k hk⟩ ?_
  cases hv : v.ownBlock <;> simp
theorem news1 (w : World) (s : ByteArray) (t : TypeId) : ∀ (j : Nat) u, [Value.string s][j]? = some u → (w.alloc (.cells #[.string s] t)).cell? ((⟨w.heap.size, 0, none⟩ : Addr).add j) = some u := by
  intro j u hj
  match j, hj with
  | 0, hj => simp at hj; subst hj; simp [Addr.add]
theorem itoa_facs (n : Int) (ha : -8 ≤ n) (hb : n ≤ 8) (F : Nat) (v : Value) (xs : List ByteArray) (w : World) (K : w.heap[F]? = some (.cells #[v] 44 (0, 0))) (O : w.ownsRow (F + 1) 9 1 v xs.length (xs.map Value.string)) (hT : Tabs w) :
    Calls Tryd.prog 24 #[.int .i64 n] w fun e w1 => e = .returned (.string (itoaS n)) ∧ Hid (w1.heap[F]? = some (.cells #[v] 44 (0, 0))) ∧ Hid (w1.ownsRow (F + 1) 9 1 v xs.length (xs.map Value.string)) ∧ w1.cell? ⟨F, 0, none⟩ = some v ∧ w1.frozen? ⟨F, 0, none⟩ = false ∧ F < w1.heap.size ∧ Hid (Below w.heap.size w w1) := by
  refine (strconv_Itoa.calls n (itoaS n) w hT (by unfold strconv_Itoa.f; rw [if_pos (by omega)])).mono ?_
  rintro e w1 ⟨rfl, hb1⟩
  have K1 := Lib.hid (blk_below K hb1)
  exact ⟨rfl, K1, Lib.hid (own_below O hb1), blk_cell K1.out 0, blk_frozen K1.out 0, blk_lt K1.out, Lib.hid hb1⟩
set_option maxRecDepth 100000 in
set_option maxHeartbeats 2000000 in
theorem add_many (name : ByteArray) (n : Int) (hn0 : n ≠ 0) (hn1 : n ≠ 1) (ha : -8 ≤ n) (hb : n ≤ 8) (F : Nat) (xs : List ByteArray) (w : World) (hx : xs.length ≤ 10) (hsz : name.size ≤ 100) (hT : Tabs w) (h : Facs w F xs) :
    Calls Tryd.prog 23 #[.string name, .int .i64 n, .pointer (some ⟨F, 0, none⟩)] w fun e w' => e = .returned (.tuple #[]) ∧ Facs w' F (xs ++ [facS name n]) ∧ Below F w w' := by
  obtain ⟨v, hc, ho⟩ := h
  have hl := blk_lt hc
  have K := Lib.hid hc
  have O := Lib.hid ho
  have c0 := blk_cell hc 0
  have f0 := blk_frozen hc 0
  clear hc ho
  have HT := Lib.hid hT
  clear hT
  have hi0 : (itoaS n).size ≤ 2 := by
    have : ∀ k ∈ List.range 17, (itoaS ((k : Int) - 8)).size ≤ 2 := by decide +kernel
    have h := this (n + 8).toNat (by simp; omega)
    rwa [show (((n + 8).toNat : Int) - 8) = n by omega] at h
  have hs1 : (name ++ (⟨#[94]⟩ : ByteArray)).size = name.size + 1 := by rw [ByteArray.size_append]; rfl
  have hs2 : (name ++ (⟨#[94]⟩ : ByteArray) ++ itoaS n).size = name.size + 1 + (itoaS n).size := by rw [ByteArray.size_append, hs1]
  obtain ⟨is, hi, hz0, hz1, hz2⟩ := info_parts infoS
  have hq1 : ¬ 9223372036854775807 < name.size + 1 := by omega
  have hq2 : ¬ 9223372036854775807 < name.size + 1 + (itoaS n).size := by omega
  go_enter Tryd.func23, Tryd.ntmps23
  go_wp2_with fail
  go_region_law (first
    | (go_simp; go_at_call 24; refine (itoa_facs n ha hb F v xs w.drew (blk_drew K.out) O.out HT.out.drew).mono ?_; rintro e w1 ⟨rfl, K1, O1, c1, f1, hl1, HB1⟩)
    | (refine step_append_lies _ (by rfl) (.tmp 6) (.tmp 12) 44 (by rfl) (F + 1) 9 is (.string ⟨#[]⟩) 1 16 Tryd.underlying44 hi hz0 hz1 hz2 rfl (by decide) v xs.length (xs.map Value.string) (by rfl) (O1.out.alloc _) ⟨w1.heap.size, 0, none⟩ 1 1 [.string (facS name n)] (by rfl) rfl (news1 w1 (facS name n) _) (by intro u hu; simp at hu; subst hu; rfl) (by decide) (by unfold maxLen; omega) (by omega) (by simp; omega) _ rfl ?_; intro g cap w2 hown hgrow _ _; have R := Lib.hid (facs_add K1.out O1.out hgrow hown); have hF : w2.heap[F]? = some (.cells #[v] 44 (0, 0)) := (hgrow.block F (by simp; omega) (fun e => by have := (O.out.lt F e.symm).1; omega)).trans (blk_alloc K1.out _); have d0 := blk_cell hF 0; have e0 := blk_frozen hF 0; clear hown hgrow hF))
  all_goals go_wp2_with fail
  all_goals exact Go.Great.bodyPost_end0 rfl rfl ⟨rfl, R.out.1, ((Below.refl F w).drew.trans (HB1.out.mono (by show F ≤ w.heap.size; omega))).trans R.out.2⟩
end Go.Proofs.YtifamjapgpcjjaaDoor.Ext
