/- unit.Text, walked. -/
import Derived.Test.YtifamjapgpcjjaaDoorUnitD
namespace Go.Proofs.YtifamjapgpcjjaaDoor.Ext
open Go Go.Proofs Go.RowKit Go.Proofs.YtifamjapgpcjjaaDoorW.PrintWords
set_option linter.unusedVariables false

/-- one factor of a unit's string -/
def facL (name : ByteArray) (n : Int) : List ByteArray := if n = 0 then [] else if n = 1 then [name] else [facS name n]
def factors (a b c : Int) : List ByteArray := facL sCounts a ++ facL sElectrons b ++ facL sSeconds c
/-- the string of a valid unit -/
def textS (a b c : Int) : ByteArray := if (factors a b c).length = 0 then ⟨#[49]⟩ else ⟨(Lib.join ((factors a b c).map (·.data.toList)) [32]).toArray⟩
theorem facL_len (name : ByteArray) (n : Int) : (facL name n).length ≤ 1 := by
  unfold facL
  split
  · simp
  · split <;> simp
theorem add_any (name : ByteArray) (n : Int) (ha : -8 ≤ n) (hb : n ≤ 8) (F : Nat) (xs : List ByteArray) (w : World) (hx : xs.length ≤ 10) (hsz : name.size ≤ 100) (hT : Tabs w) (h : Facs w F xs) :
    Calls Tryd.prog 23 #[.string name, .int .i64 n, .pointer (some ⟨F, 0, none⟩)] w fun e w' => e = .returned (.tuple #[]) ∧ Facs w' F (xs ++ facL name n) ∧ Below F w w' := by
  unfold facL
  by_cases h0 : n = 0
  · subst h0
    simp only [if_pos, List.append_nil]
    exact add_zero name F xs w h
  · rw [if_neg h0]
    by_cases h1 : n = 1
    · subst h1
      simp only [if_pos]
      exact add_one name F xs w hx h
    · rw [if_neg h1]
      exact add_many name n h0 h1 ha hb F xs w hx hsz hT h
theorem Facs.below {w w' : World} {F : Nat} {xs : List ByteArray} (h : Facs w F xs) (hb : Below w.heap.size w w') : Facs w' F xs := by
  obtain ⟨v, hc, ho⟩ := h
  exact ⟨v, blk_below hc hb, own_below ho hb⟩
theorem Facs.new (w : World) : Facs (w.alloc (.cells #[.slice none 0 0] 44)) w.heap.size [] := ⟨_, blk_new w _, World.ownsRow_nil _ _ _ _⟩
theorem Facs.form {w : World} {F : Nat} {xs : List ByteArray} (h : Facs w F xs) : ∃ bs cp, w.heap[F]? = some (.cells #[.slice bs xs.length cp] 44 (0, 0)) ∧ (xs.length ≠ 0 → ∃ g, bs = some ⟨g, 0, none⟩ ∧ (∀ (j : Nat) x, xs[j]? = some x → w.cell? ⟨g, j, none⟩ = some (.string x)) ∧ g < w.heap.size ∧ xs.length ≤ cp) := by
  obtain ⟨v, hc, ho⟩ := h
  have ho' := ho
  rcases ho.2 with ⟨rfl, h0⟩ | ⟨g, cap, cur, rfl, hb, hg, hn, hm, _⟩
  · rw [h0]
    exact ⟨none, 0, hc, fun h => absurd rfl h⟩
  · refine ⟨some ⟨g, 0, none⟩, cap, hc, fun _ => ⟨g, rfl, ?_, blk_lt hg, hn⟩⟩
    intro j x hx
    have h1 := ho'.cells (g := g) rfl j (.string x) (by rw [List.getElem?_map, hx]; rfl)
    rwa [show (⟨g, 0, none⟩ : Addr).add j = ⟨g, j, none⟩ by unfold Addr.add; split <;> simp_all] at h1
theorem join_small (a b c : Int) (a1 : -8 ≤ a) (a2 : a ≤ 8) (b1 : -8 ≤ b) (b2 : b ≤ 8) (c1 : -8 ≤ c) (c2 : c ≤ 8) : (Lib.join ((factors a b c).map (·.data.toList)) (⟨#[32]⟩ : ByteArray).data.toList).length ≤ 1000000 := by
  have h : ∀ i ∈ List.range 17, ∀ j ∈ List.range 17, ∀ k ∈ List.range 17, (Lib.join ((factors ((i : Int) - 8) ((j : Int) - 8) ((k : Int) - 8)).map (·.data.toList)) (⟨#[32]⟩ : ByteArray).data.toList).length ≤ 100 := by decide +kernel
  have := h (a + 8).toNat (by simp; omega) (b + 8).toNat (by simp; omega) (c + 8).toNat (by simp; omega)
  rw [show (((a + 8).toNat : Int) - 8) = a by omega, show (((b + 8).toNat : Int) - 8) = b by omega, show (((c + 8).toNat : Int) - 8) = c by omega] at this
  omega

set_option maxRecDepth 100000 in
set_option maxHeartbeats 2000000 in
theorem text_no (a b c : Int) (w : World) (h : ¬ okU a b c) :
    Calls Tryd.prog 13 #[.agg #[.int .i64 a, .int .i64 b, .int .i64 c]] w fun e w' => e = .returned (.tuple #[.string ⟨#[]⟩, .int .i64 1]) ∧ Below w.heap.size w w' := by
  have H := Lib.hid h
  clear h
  go_enter Tryd.func13, Tryd.ntmps13
  go_wp2_with fail
  refine (valid_no a b c _ H.out).mono ?_
  rintro e w1 ⟨rfl, hb1⟩
  have HB : Hid (Below w.heap.size w w1) := below_step (by repeat (first | (with_reducible first | exact HB.out | exact Below.refl _ _ | apply below_alloc | apply bdr | apply below_drew1) | (refine below_set ?_ (by first | omega | (simp; done) | (simp; omega))) | exact HB.out | exact Below.refl _ _)) hb1
  clear hb1
  go_wp2_with fail
  refine bodyPost_ret (v := .tuple #[.string ⟨#[]⟩, .int .i64 1]) (by simp [results, Tryd.results13, go_sem]) rfl ⟨rfl, (by repeat (first | (with_reducible first | exact HB.out | exact Below.refl _ _ | apply below_alloc | apply bdr | apply below_drew1) | (refine below_set ?_ (by first | omega | (simp; done) | (simp; omega))) | exact HB.out | exact Below.refl _ _))⟩

set_option maxRecDepth 100000 in
set_option maxHeartbeats 2000000 in
theorem text_yes (a b c : Int) (w : World) (hT : Tabs w) (h : okU a b c) :
    Calls Tryd.prog 13 #[.agg #[.int .i64 a, .int .i64 b, .int .i64 c]] w fun e w' => e = .returned (.tuple #[.string (textS a b c), .int .i64 0]) ∧ Below w.heap.size w w' := by
  have H := Lib.hid h
  have HT := Lib.hid hT
  obtain ⟨⟨a1, a2⟩, ⟨b1, b2⟩, ⟨c1, c2⟩⟩ := h
  clear hT
  have z1 : sCounts.size ≤ 100 := by decide
  have z2 : sElectrons.size ≤ 100 := by decide
  have z3 : sSeconds.size ≤ 100 := by decide
  have i0 := idx0 (.int .i64 a) (.int .i64 b) (.int .i64 c)
  have i1 := idx1 (.int .i64 a) (.int .i64 b) (.int .i64 c)
  have i2 := idx2 (.int .i64 a) (.int .i64 b) (.int .i64 c)
  go_enter Tryd.func13, Tryd.ntmps13
  go_wp2_with fail
  refine (valid_yes a b c _ H.out).mono ?_
  rintro e w1 ⟨rfl, hb1⟩
  have KA : Hid (w1.heap[w.heap.size]? = some (.cells #[.int .i64 a, .int .i64 b, .int .i64 c] 23 (0, 0))) := blk_below (blk_new w _) hb1
  have cA_0 := blk_cell KA.out 0
  have fA_0 := blk_frozen KA.out 0
  have cA_1 := blk_cell KA.out 1
  have fA_1 := blk_frozen KA.out 1
  have cA_2 := blk_cell KA.out 2
  have fA_2 := blk_frozen KA.out 2
  have HB : Hid (Below w.heap.size w w1) := below_step (by repeat (first | (with_reducible first | exact HB.out | exact Below.refl _ _ | apply below_alloc | apply bdr | apply below_drew1) | (refine below_set ?_ (by first | omega | (simp; done) | (simp; omega))) | exact HB.out | exact Below.refl _ _)) hb1
  clear hb1
  have hlt := blk_lt KA.out
  go_wp2_with fail
  refine (exponents_any a b c _).mono ?_
  rintro e w2 ⟨rfl, hb2⟩
  replace HB : Hid (Below w.heap.size w w2) := below_step (by repeat (first | (with_reducible first | exact HB.out | exact Below.refl _ _ | apply below_alloc | apply bdr | apply below_drew1) | (refine below_set ?_ (by first | omega | (simp; done) | (simp; omega))) | exact HB.out | exact Below.refl _ _)) hb2
  have HF : Hid (Facs w2 w1.heap.size []) := (Facs.new w1).below hb2
  clear hb2
  clear cA_0 cA_1 cA_2 fA_0 fA_1 fA_2 KA
  obtain ⟨n0, n1, n2⟩ := (HT.out.below HB.out).names
  have n0 := n0
  go_wp2_with fail
  refine wp_loop_rounds 4 ?_
  rw [rounds_succ]
  go_wp2_with fail
  refine (add_any sCounts a a1 a2 w1.heap.size [] w2 (by simp) z1 (HT.out.below HB.out) HF.out).mono ?_
  rintro e w3 ⟨rfl, hf, hb⟩
  replace HF := Lib.hid hf
  replace HB : Hid (Below w.heap.size w w3) := HB.out.trans (hb.mono (by omega))
  clear hf hb n0 n1 n2
  obtain ⟨n0, n1, n2⟩ := (HT.out.below HB.out).names
  go_wp2_with fail
  rw [rounds_succ]
  go_wp2_with fail
  refine (add_any sElectrons b b1 b2 w1.heap.size ([] ++ facL sCounts a) w3 (by simp; have := facL_len sCounts a; have := facL_len sElectrons b; omega) z2 (HT.out.below HB.out) HF.out).mono ?_
  rintro e w4 ⟨rfl, hf, hb⟩
  replace HF := Lib.hid hf
  replace HB : Hid (Below w.heap.size w w4) := HB.out.trans (hb.mono (by omega))
  clear hf hb n0 n1 n2
  obtain ⟨n0, n1, n2⟩ := (HT.out.below HB.out).names
  go_wp2_with fail
  rw [rounds_succ]
  go_wp2_with fail
  refine (add_any sSeconds c c1 c2 w1.heap.size (([] ++ facL sCounts a) ++ facL sElectrons b) w4 (by simp; have := facL_len sCounts a; have := facL_len sElectrons b; omega) z3 (HT.out.below HB.out) HF.out).mono ?_
  rintro e w5 ⟨rfl, hf, hb⟩
  replace HF := Lib.hid hf
  replace HB : Hid (Below w.heap.size w w5) := HB.out.trans (hb.mono (by omega))
  clear hf hb n0 n1 n2
  obtain ⟨n0, n1, n2⟩ := (HT.out.below HB.out).names
  go_wp2_with fail
  replace HF : Hid (Facs w5 w1.heap.size (factors a b c)) := HF
  obtain ⟨bs, cp, hk, hg⟩ := HF.out.form
  have HG := Lib.hid hg
  have d0 := blk_cell hk 0
  clear hk hg n0 n1 n2
  rw [rounds_succ]
  by_cases hz : (factors a b c).length = 0
  · rw [hz] at d0
    go_wp2_with fail
    have ht : textS a b c = ⟨#[49]⟩ := by unfold textS; rw [if_pos hz]
    rw [ht]
    refine bodyPost_ret (v := .tuple #[.string ⟨#[49]⟩, .int .i64 0]) (by simp [results, Tryd.results13, go_sem]) rfl ⟨rfl, (by repeat (first | (with_reducible first | exact HB.out | exact Below.refl _ _ | apply below_alloc | apply bdr | apply below_drew1) | (refine below_set ?_ (by first | omega | (simp; done) | (simp; omega))) | exact HB.out | exact Below.refl _ _))⟩
  · obtain ⟨g, rfl, hcells, hgl, hcap⟩ := HG.out hz
    have HC := Lib.hid hcells
    clear hcells HG
    go_wp2_with fail
    have hlen : (factors a b c).length ≤ 3 := by unfold factors; have := facL_len sCounts a; have := facL_len sElectrons b; have := facL_len sSeconds c; simp; omega
    refine (join_any g cp (factors a b c) ⟨#[32]⟩ w5 HC.out hgl hcap (by omega) (join_small a b c a1 a2 b1 b2 c1 c2)).mono ?_
    rintro e w6 ⟨rfl, hb6⟩
    replace HB : Hid (Below w.heap.size w w6) := below_step HB.out hb6
    clear hb6
    go_wp2_with fail
    have ht : textS a b c = ⟨(Lib.join ((factors a b c).map (·.data.toList)) [32]).toArray⟩ := by unfold textS; rw [if_neg hz]
    rw [ht]
    refine bodyPost_ret (v := .tuple #[.string ⟨(Lib.join ((factors a b c).map (·.data.toList)) [32]).toArray⟩, .int .i64 0]) (by simp [results, Tryd.results13, go_sem]) rfl ⟨rfl, (by repeat (first | (with_reducible first | exact HB.out | exact Below.refl _ _ | apply below_alloc | apply bdr | apply below_drew1) | (refine below_set ?_ (by first | omega | (simp; done) | (simp; omega))) | exact HB.out | exact Below.refl _ _))⟩

end Go.Proofs.YtifamjapgpcjjaaDoor.Ext
