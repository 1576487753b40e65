/- Several texts in one (L1 L2 UnitsC Units HeadA). -/
import Derived.Test.YtamabdijeklgjaaDoorL0
import Derived.Test.YtamabdijeklgjaaDoorGh
import Derived.Deep.RegionHeld3
import Derived.Test.YtamabdijeklgjaaDoorGd
import Derived.Deep.AppendLies
import Derived.Test.YtamabdijeklgjaaDoorWNEv
import Derived.Test.YtamabdijeklgjaaDoorGg
-- printed by this session's wip/hyb/hyb.py out of the kit's printer; Lean checks it
namespace Go.Proofs.YtamabdijeklgjaaDoor.L
open Go.RowKit Go.Proofs.YtamabdijeklgjaaDoor.Ext Go.Proofs.YtamabdijeklgjaaDoorW.PrintWords Go.Proofs.YtamabdijeklgjaaDoorW.PrintLast Go.Proofs.YtamabdijeklgjaaDoorW.PrintMore
attribute [local go_sem] max2_int min2_int max_two min_two max_three min_three max_four min_four   -- for this text's walks alone
set_option linter.unusedVariables false
set_option linter.unusedSimpArgs false

theorem eqA32 (d : Nat) (w : World) (x0 y0 : Int) (x1 y1 : Int) (x2 y2 : Int) (x3 y3 : Int) :
    (Op.equalIn (d + 2) 32 (.agg #[.int .i64 x0, .int .i64 x1, .int .i64 x2, .int .i64 x3]) (.agg #[.int .i64 y0, .int .i64 y1, .int .i64 y2, .int .i64 y3])).run Tryd.prog w = .ok (x0 == y0 && (x1 == y1 && (x2 == y2 && (x3 == y3)))) w := by
  refine eqA_of Tryd.underlying32 (by kernel_rfl) ?_
  refine eqf_cons (by rfl) (by go_simp; rfl) (by go_simp; rfl) (by go_simp) ?_
  refine eqf_cons (by rfl) (by go_simp; rfl) (by go_simp; rfl) (by go_simp) ?_
  refine eqf_cons (by rfl) (by go_simp; rfl) (by go_simp; rfl) (by go_simp) ?_
  exact eqf_last (by rfl) (by go_simp; rfl) (by go_simp; rfl) (by go_simp)
end Go.Proofs.YtamabdijeklgjaaDoor.L

-- printed by this session's wip/hyb/hyb.py out of the kit's printer; Lean checks it
namespace Go.Proofs.YtamabdijeklgjaaDoor.L
open Go.RowKit Go.Proofs.YtamabdijeklgjaaDoor.Ext Go.Proofs.YtamabdijeklgjaaDoorW.PrintWords Go.Proofs.YtamabdijeklgjaaDoorW.PrintLast Go.Proofs.YtamabdijeklgjaaDoorW.PrintMore
attribute [local go_sem] max2_int min2_int max_two min_two max_three min_three max_four min_four   -- for this text's walks alone
set_option linter.unusedVariables false
set_option linter.unusedSimpArgs false

theorem eqA34 (d : Nat) (w : World) (x0 y0 : Int) (x1 y1 : Int) (x2 y2 : Int) :
    (Op.equalIn (d + 2) 34 (.agg #[.int .i64 x0, .int .i64 x1, .int .i64 x2]) (.agg #[.int .i64 y0, .int .i64 y1, .int .i64 y2])).run Tryd.prog w = .ok (x0 == y0 && (x1 == y1 && (x2 == y2))) w := by
  refine eqA_of Tryd.underlying34 (by kernel_rfl) ?_
  refine eqf_cons (by rfl) (by go_simp; rfl) (by go_simp; rfl) (by go_simp) ?_
  refine eqf_cons (by rfl) (by go_simp; rfl) (by go_simp; rfl) (by go_simp) ?_
  exact eqf_last (by rfl) (by go_simp; rfl) (by go_simp; rfl) (by go_simp)
end Go.Proofs.YtamabdijeklgjaaDoor.L

/- flow.Units, walked: the loops. -/
namespace Go.Proofs.YtamabdijeklgjaaDoor.Ext
open Go Go.Proofs Go.RowKit Go.Proofs.YtamabdijeklgjaaDoorW.PrintWords
set_option linter.unusedVariables false
set_option linter.unusedSimpArgs false

def encUS (l : List US) : List Value := l.flatMap unitC
theorem encUS_get : ∀ (l : List US) (i : Nat) (x : US), l[i]? = some x → ∀ j v, (unitC x)[j]? = some v → (encUS l)[i * 3 + j]? = some v
  | [], i, x, h, j, v, _ => by simp at h
  | y :: l, 0, x, h, j, v, hv => by
    obtain rfl : y = x := by simpa using h
    have hj : j < 3 := (List.getElem?_eq_some_iff.1 hv).1
    show (unitC y ++ encUS l)[0 * 3 + j]? = some v
    rw [List.getElem?_append_left (by show 0 * 3 + j < 3; omega), Nat.zero_mul, Nat.zero_add]
    exact hv
  | y :: l, i + 1, x, h, j, v, hv => by
    have := encUS_get l i x (by simpa using h) j v hv
    show (unitC y ++ encUS l)[(i + 1) * 3 + j]? = some v
    rw [List.getElem?_append_right (by show 3 ≤ _; omega)]
    rw [show (i + 1) * 3 + j - (unitC y).length = i * 3 + j by show _ - 3 = _; omega]
    exact this
theorem encUS_push (l : List US) (x : US) : encUS (l ++ [x]) = encUS l ++ [.int .i64 x.f0, .int .i64 x.f1, .int .i64 x.f2] := by
  unfold encUS unitC
  simp
theorem encUS_length (l : List US) : (encUS l).length = l.length * 3 := by
  induction l with
  | nil => rfl
  | cons x l ih =>
    show (unitC x ++ encUS l).length = _
    rw [List.length_append, ih, List.length_cons]
    show 3 + _ = _
    omega
theorem unit_own {w : World} {base : Nat} {A : Option Addr} {c i a : Nat} {us : List US} {x : US} (h : w.ownsRow base 34 3 (.slice A i c) i (encUS us)) (hm : us[a]? = some x) :
    ∃ gB, A = some ⟨gB, 0, none⟩ ∧ gB < w.heap.size ∧ w.cell? ⟨gB, a * 3, none⟩ = some (.int .i64 x.f0) ∧ w.cell? ⟨gB, a * 3 + 1, none⟩ = some (.int .i64 x.f1) ∧ w.cell? ⟨gB, a * 3 + 2, none⟩ = some (.int .i64 x.f2) := by
  have hl : i ≠ 0 := by
    intro e
    have := h.1
    rw [encUS_length, e, Nat.zero_mul] at this
    have h2 := (List.getElem?_eq_some_iff.1 hm).1
    omega
  obtain ⟨g, cap, hv, _, hlt⟩ := h.form (by omega)
  injection hv with hA
  have hc := h.cells (g := g) (by rw [hA]; rfl)
  have h0 := hc _ _ (encUS_get us a x hm 0 _ rfl)
  have h1 := hc _ _ (encUS_get us a x hm 1 _ rfl)
  have h2 := hc _ _ (encUS_get us a x hm 2 _ rfl)
  rw [Addr.add_mid] at h0 h1 h2
  refine ⟨g, hA, hlt, ?_, ?_, ?_⟩
  · simpa using h0
  · simpa using h1
  · simpa using h2
theorem units_bad {ins us : List US} {l : List FS} {i : Nat} {s : FS} (hx : l[i]? = some s) (h : (unitOf ins us s).2 ≠ 0) : unitsL ins (l.drop i) us = ([], (unitOf ins us s).2) := by
  have hi := (List.getElem?_eq_some_iff.1 hx).1
  have hv := (List.getElem?_eq_some_iff.1 hx).2
  rw [List.drop_eq_getElem_cons hi, hv, unitsL, if_pos h]
theorem units_go {ins us : List US} {l : List FS} {i : Nat} {s : FS} (hx : l[i]? = some s) (h : (unitOf ins us s).2 = 0) : unitsL ins (l.drop i) us = unitsL ins (l.drop (i + 1)) (us ++ [(unitOf ins us s).1]) := by
  have hi := (List.getElem?_eq_some_iff.1 hx).1
  have hv := (List.getElem?_eq_some_iff.1 hx).2
  rw [List.drop_eq_getElem_cons hi, hv, unitsL, if_neg (fun k => k h)]
theorem mul_lit {p q r a b c v0 v1 v2 er : Int} (h : mulE ⟨p, q, r⟩ ⟨a, b, c⟩ = (⟨v0, v1, v2⟩, er)) (w : World) :
    Calls Tryd.prog 14 #[.agg #[.int .i64 p, .int .i64 q, .int .i64 r], .agg #[.int .i64 a, .int .i64 b, .int .i64 c]] w fun e w' => e = .returned (.tuple #[.agg #[.int .i64 v0, .int .i64 v1, .int .i64 v2], .int .i64 er]) ∧ Below w.heap.size w w' := by
  have := mul_calls ⟨p, q, r⟩ ⟨a, b, c⟩ w
  rw [h] at this
  exact this
def UnitsPost (w : World) (r : List US × Int) (e : Ending) (w' : World) : Prop :=
  ∃ SV, e = .returned (.tuple #[SV, .int .i64 r.2]) ∧ w'.ownsRow w.heap.size 34 3 SV r.1.length (encUS r.1) ∧ Below w.heap.size w w'
theorem UnitsPost.none_ {w w' : World} {r : List US × Int} {er : Int} (h : r = ([], er)) (hb : Below w.heap.size w w') : UnitsPost w r (.returned (.tuple #[.slice none 0 0, .int .i64 er])) w' := by
  subst h
  exact ⟨_, rfl, own_nil_ _ _ _ _, hb⟩
theorem infoU : (Tryd.prog.info? 34).map (fun i => (i.zero, i.size, i.bytes)) = some (some (.agg #[.int .i64 0, .int .i64 0, .int .i64 0]), 3, 24) := by kernel_rfl
theorem eq_same (x0 x1 x2 y0 y1 y2 : Int) : (x0 == y0 && (x1 == y1 && (x2 == y2))) = sameU ⟨x0, x1, x2⟩ ⟨y0, y1, y2⟩ := by
  unfold sameU
  rw [Bool.and_assoc]
  rfl
theorem eq_units {x0 x1 x2 y0 y1 y2 : Int} {q : Bool} (h : sameU ⟨x0, x1, x2⟩ ⟨y0, y1, y2⟩ = q) : ∀ (d : Nat) (w : World), (Op.equalIn (d + 2) 34 (.agg #[.int .i64 x0, .int .i64 x1, .int .i64 x2]) (.agg #[.int .i64 y0, .int .i64 y1, .int .i64 y2])).run Tryd.prog w = .ok q w := fun d w => by
  rw [L.eqA34, eq_same, h]
theorem blk_new2 (w : World) (o : Obj) (cs : Array Value) (t : TypeId) : ((w.alloc o).alloc (.cells cs t)).heap[w.heap.size + 1]? = some (.cells cs t (0, 0)) := by
  have := blk_new (w.alloc o) (.cells cs t)
  rw [World.size_alloc] at this
  exact this
theorem getD_unit {l : List US} {i : Nat} {x : US} (h : l[i]? = some x) : l.getD i us0 = x := by rw [List.getD_eq_getElem?_getD, h]; rfl
theorem pair_eq {a0 a1 a2 ae z0 z1 z2 ze : Int} (h : ((⟨a0, a1, a2⟩, ae) : US × Int) = (⟨z0, z1, z2⟩, ze)) : a0 = z0 ∧ a1 = z1 ∧ a2 = z2 ∧ ae = ze := by
  injection h with h1 h2
  injection h1 with h3 h4 h5
  exact ⟨h3, h4, h5, h2⟩
theorem unitOf_in {ins us : List US} {a d : Int} {n : Nat} {x : US} (h : ins[n]? = some x) : unitOf ins us ⟨1, a, d, n⟩ = (x, 0) := by
  unfold unitOf
  rw [if_pos rfl]
  simp only [Int.toNat_natCast, getD_unit h]
theorem unitOf_mul {ins us : List US} {n : Int} {a d : Nat} {x y : US} (h : us[a]? = some x) (h2 : us[d]? = some y) : unitOf ins us ⟨4, a, d, n⟩ = mulE x y := by
  unfold unitOf
  simp only [show ¬ ((4 : Int) = 1) by decide, if_false, if_true, Int.toNat_natCast, getD_unit h, getD_unit h2]
theorem unitOf_scale {ins us : List US} {d n : Int} {a : Nat} {x : US} (h : us[a]? = some x) : unitOf ins us ⟨5, a, d, n⟩ = (x, 0) := by
  unfold unitOf
  simp only [show ¬ ((5 : Int) = 1) by decide, show ¬ ((5 : Int) = 4) by decide, if_false, if_true, Int.toNat_natCast, getD_unit h]
theorem unitOf_add {ins us : List US} {k n : Int} {a d : Nat} {x y : US} (hk : k = 2 ∨ k = 3 ∨ k = 6) (h : us[a]? = some x) (h2 : us[d]? = some y) : unitOf ins us ⟨k, a, d, n⟩ = (x, if sameU x y = true then 0 else 15) := by
  unfold unitOf
  have e1 : ¬ k = 1 := by omega
  have e2 : ¬ k = 4 := by omega
  have e3 : ¬ k = 5 := by omega
  simp only [e1, e2, e3, hk, if_false, if_true, Int.toNat_natCast, getD_unit h, getD_unit h2]
theorem unitOf_none {ins us : List US} {k a d n : Int} (hk : 7 ≤ k) : unitOf ins us ⟨k, a, d, n⟩ = (us0, 0) := by
  unfold unitOf
  have e1 : ¬ k = 1 := by omega
  have e2 : ¬ k = 4 := by omega
  have e3 : ¬ k = 5 := by omega
  have e4 : ¬ (k = 2 ∨ k = 3 ∨ k = 6) := by omega
  simp only [e1, e2, e3, e4, if_false]
set_option maxRecDepth 100000 in
set_option maxHeartbeats 4000000 in
theorem units_main (name : ByteArray) (ver : Int) (A I : Option Addr) (c ci : Nat) (l : List FS) (ins : List US) (w : World) (hr : Kd.C L.k32 w A l.length l) (hI : Kd.C L.k34 w I ins.length ins) (h4 : ins.length = 4) (hv : validB name.data.toList ver l = true) :
    Calls Tryd.prog 12 #[.agg #[.string name, .int .i64 ver, .slice A l.length c], .slice I ins.length ci] w (UnitsPost w (unitsE name.data.toList ver l ins)) := by
  have h40 : l.length ≤ 40 ∧ 1 ≤ l.length ∧ ∃ ms, masksL l [] = some ms := by
    unfold validB at hv
    simp only [Bool.and_eq_true, decide_eq_true_eq] at hv
    refine ⟨hv.1.2, hv.1.1.2, ?_⟩
    cases hm : masksL l [] with
    | none => rw [lastM_none hm] at hv; simp at hv
    | some ms => exact ⟨ms, rfl⟩
  obtain ⟨hl40, hl1, hms⟩ := h40
  have HMS := Lib.hid hms
  obtain ⟨b, o, rfl, hst⟩ := steps_view hr (by intro e; rw [e] at hl1; simp at hl1)
  obtain ⟨bi, oi, rfl, hin⟩ := units_view hI (by intro e; rw [e] at h4; simp at h4)
  have HU : Hid (∀ r, (∀ u ∈ ins, okUS u) → unitsL ins l [] = r → unitsE name.data.toList ver l ins = r) := Lib.hid (by
    intro r hu e
    unfold unitsE
    rw [if_pos ⟨hv, h4, hu⟩, e])
  have HU2 : Hid (∀ u ∈ ins, ¬ okUS u → unitsE name.data.toList ver l ins = ([], 1)) := Lib.hid (by
    intro u hm hu
    unfold unitsE
    rw [if_neg (fun k => hu (k.2.2 u hm))])
  obtain ⟨R, hR⟩ : ∃ R, unitsE name.data.toList ver l ins = R := ⟨_, rfl⟩
  rw [hR] at HU HU2 ⊢
  clear hR
  have hB := below_allocs w (.cells #[.string name, .int .i64 ver, .slice (some ⟨b, o, none⟩) l.length c] 24)
  have BK : Hid ((w.alloc (.cells #[.string name, .int .i64 ver, .slice (some ⟨b, o, none⟩) l.length c] 24)).heap[w.heap.size]? = some (.cells #[.string name, .int .i64 ver, .slice (some ⟨b, o, none⟩) l.length c] 24 (0, 0))) := Lib.hid (blk_new w _)
  have HV := Lib.hid (valid_of_reads name ver _ c l (w.alloc (.cells #[.string name, .int .i64 ver, .slice (some ⟨b, o, none⟩) l.length c] 24)) (Kd.C_below hr hB))
  rw [hv] at HV
  have HST := Lib.hid hst
  have HIN := Lib.hid hin
  have HB := Lib.hid hB
  have HI4 := Lib.hid h4
  have hn4 : ((ins.length : Int) != 4) = false := by rw [h4]; rfl
  clear hr hI hv hst hin hB hms h4
  go_enter Tryd.func12, Tryd.ntmps12
  go_wp2_with fail
  refine HV.out.mono ?_
  rintro e w1 ⟨rfl, hb⟩
  have HB1 := Lib.hid (below_step HB.out hb)
  have BK1 := Lib.hid (blk_below BK.out hb)
  clear hb HB BK HV
  go_wp2_with fail
  clear hn4
  go_loopg [25] 4 (fun g v25 wx => ∃ i : Nat, i + g = 4 ∧ v25 = .int .i64 i ∧ Hid (∀ j u, j < i → ins[j]? = some u → okUS u) ∧ Hid (Below w1.heap.size w1 wx))
  case atStart => exact ⟨0, rfl, rfl, Lib.hid (fun j u h => absurd h (by omega)), Lib.hid (Below.refl _ _)⟩
  case round =>
    obtain ⟨i, hig, rfl, HOK, HBx⟩ := hrel
    cases gk with
    | succ g =>
      have hil : i < ins.length := by rw [HI4.out]; omega
      have hz : (i : Int) < (ins.length : Int) := by omega
      obtain ⟨x, hx⟩ : ∃ x, ins[i]? = some x := ⟨_, List.getElem?_eq_getElem hil⟩
      have HIx := Lib.hid ((HIN.out.below HB1.out).below HBx.out)
      obtain ⟨p, q, r⟩ := x
      have x0 : wr.cell? ⟨bi, oi + i * 3, none⟩ = some (.int .i64 p) := HIx.out.2 i _ hx 0 _ rfl
      have x1 : wr.cell? ⟨bi, oi + i * 3 + 1, none⟩ = some (.int .i64 q) := HIx.out.2 i _ hx 1 _ rfl
      have x2 : wr.cell? ⟨bi, oi + i * 3 + 2, none⟩ = some (.int .i64 r) := HIx.out.2 i _ hx 2 _ rfl
      obtain ⟨⟨⟨v0, v1, v2⟩, er⟩, hm⟩ : ∃ z, mulE ⟨p, q, r⟩ ⟨0, 0, 0⟩ = z := ⟨_, rfl⟩
      have hone := mulE_one ⟨p, q, r⟩
      unfold us0 at hone
      rw [hm] at hone
      dsimp only at hone
      have HX := Lib.hid hx
      have HM := Lib.hid hm
      clear hx hm
      by_cases hok : okUS ⟨p, q, r⟩
      · rw [if_pos hok] at hone
        subst hone
        have HOK2 : Hid (∀ j u, j < i + 1 → ins[j]? = some u → okUS u) := Lib.hid (by
          intro j u hj hu
          by_cases e : j = i
          · subst e
            rw [HX.out] at hu
            obtain rfl := Option.some.inj hu
            exact hok
          · exact HOK.out j u (by omega) hu)
        clear hok
        go_wp2_with fail
        refine (mul_lit HM.out _).mono ?_
        rintro e w2 ⟨rfl, hb⟩
        have HB2 : Hid (Below w1.heap.size w1 w2) := Lib.hid (below_step (below_alloc HBx.out _) hb)
        clear hb x0 x1 x2
        go_wp2_with fail
        go_roundg g
        case measure => omega
        case rel => exact ⟨i + 1, by omega, by go_num, HOK2, Lib.hid (below_alloc HB2.out _)⟩
      · rw [if_neg hok] at hone
        subst hone
        have HN := Lib.hid (HU2.out _ (List.mem_of_getElem? HX.out) hok)
        clear hok
        go_wp2_with fail
        refine (mul_lit HM.out _).mono ?_
        rintro e w2 ⟨rfl, hb⟩
        have HB2 : Hid (Below w1.heap.size w1 w2) := Lib.hid (below_step (below_alloc HBx.out _) hb)
        clear hb x0 x1 x2
        go_wp2_with fail
        refine bodyPost_ret (results_tmp2 rfl _ _ _) rfl ?_
        exact UnitsPost.none_ HN.out (below_alloc (below_step HB1.out HB2.out) _)
    | zero =>
      obtain rfl : i = 4 := by omega
      have hz : ¬ (4 : Int) < (ins.length : Int) := by rw [HI4.out]; decide
      have HUR := Lib.hid (HU.out (unitsL ins l []) (fun u hu => by
        obtain ⟨j, hj⟩ := List.mem_iff_getElem?.1 hu
        exact HOK.out j u (by have := (List.getElem?_eq_some_iff.1 hj).1; rw [HI4.out] at this; exact this) hj) rfl)
      have c2 := blk_cell (blk_below BK1.out HBx.out) 2
      have HB2 := Lib.hid (below_step HB1.out HBx.out)
      have BK2 := Lib.hid (blk_below BK1.out HBx.out)
      go_wp2_with fail
      clear c2 hz HU HU2 HOK HBx HB1 BK1
      generalize wr = W at HB2 BK2
      go_loopg [10, 41] l.length (fun g v10 v41 wx => ∃ (i : Nat) (us : List US) (A' : Option Addr) (c' : Nat), i + g = l.length ∧ us.length = i ∧ v10 = .slice A' i c' ∧ v41 = .int .i64 i ∧ Hid (unitsL ins l [] = unitsL ins (l.drop i) us) ∧ Hid (wx.ownsRow w.heap.size 34 3 (.slice A' i c') i (encUS us)) ∧ Hid (Below w.heap.size w wx))
      case atStart => exact ⟨0, [], none, 0, by omega, rfl, rfl, rfl, Lib.hid rfl, Lib.hid (own_nil_ _ _ _ _), HB2⟩
      case round =>
        obtain ⟨i, us, A', c', hig, hus, rfl, rfl, HM, HO, HBx⟩ := hrel
        have HUS := Lib.hid hus
        clear hus
        cases gk with
        | zero =>
          obtain rfl : i = l.length := by omega
          have hz : ¬ (l.length : Int) < (l.length : Int) := by omega
          have HF : Hid (R = (us, 0)) := Lib.hid (by
            have hm := HM.out
            rw [List.drop_length, unitsL] at hm
            exact HUR.out.trans hm)
          go_wp2_with fail
          refine bodyPost_ret (results_tmp2 rfl _ _ _) rfl ?_
          rw [HF.out]
          have ho := HO.out
          rw [← HUS.out] at ho
          exact ⟨_, by rw [HUS.out]; rfl, ho, HBx.out⟩
        | succ g =>
          have hil : i < l.length := by omega
          have hz : (i : Int) < (l.length : Int) := by omega
          obtain ⟨x, hx⟩ : ∃ x, l[i]? = some x := ⟨_, List.getElem?_eq_getElem hil⟩
          obtain ⟨ms, m, hml, hsm⟩ : ∃ ms m, ms.length = i ∧ stepM ms x = some m := by
            obtain ⟨MS, hMS⟩ := HMS.out
            obtain ⟨ms, m, h1, h2⟩ := masks_at l [] MS i x hMS hx
            exact ⟨ms, m, by simpa using h1, h2⟩
          have HSx := Lib.hid (HST.out.below HBx.out)
          obtain ⟨k, a, d, n⟩ := x
          have x0 : wr.cell? ⟨b, o + i * 4, none⟩ = some (.int .i64 k) := HSx.out.2 i _ hx 0 _ rfl
          have x1 : wr.cell? ⟨b, o + i * 4 + 1, none⟩ = some (.int .i64 a) := HSx.out.2 i _ hx 1 _ rfl
          have x2 : wr.cell? ⟨b, o + i * 4 + 2, none⟩ = some (.int .i64 d) := HSx.out.2 i _ hx 2 _ rfl
          have x3 : wr.cell? ⟨b, o + i * 4 + 3, none⟩ = some (.int .i64 n) := HSx.out.2 i _ hx 3 _ rfl
          have HX := Lib.hid hx
          clear hx
          go_upto_block 4 with fail
          obtain ⟨⟨⟨z0, z1, z2⟩, ze⟩, hZ⟩ : ∃ z, unitOf ins us ⟨k, a, d, n⟩ = z := ⟨_, rfl⟩
          have HZ := Lib.hid hZ
          clear hZ
          have BS : Hid (((wr.alloc (.cells #[.int .i64 k, .int .i64 a, .int .i64 d, .int .i64 n] 32)).alloc (.cells #[.int .i64 0, .int .i64 0, .int .i64 0] 34)).heap[wr.heap.size]? = some (.cells #[.int .i64 k, .int .i64 a, .int .i64 d, .int .i64 n] 32 (0, 0))) := Lib.hid (blk_alloc (blk_new wr _) _)
          have BU : Hid (((wr.alloc (.cells #[.int .i64 k, .int .i64 a, .int .i64 d, .int .i64 n] 32)).alloc (.cells #[.int .i64 0, .int .i64 0, .int .i64 0] 34)).heap[wr.heap.size + 1]? = some (.cells #[.int .i64 0, .int .i64 0, .int .i64 0] 34 (0, 0))) := Lib.hid (by have := blk_new (wr.alloc (.cells #[.int .i64 k, .int .i64 a, .int .i64 d, .int .i64 n] 32)) (.cells #[.int .i64 0, .int .i64 0, .int .i64 0] 34); rw [World.size_alloc] at this; exact this)
          go_cut [14] (fun s14 wx => s14 = .int .i64 ze ∧ Hid (wx.heap[wr.heap.size + 1]? = some (.cells #[.int .i64 z0, .int .i64 z1, .int .i64 z2] 34 (0, 0))) ∧ Hid (wx.ownsRow w.heap.size 34 3 (.slice A' i c') i (encUS us)) ∧ Hid (Below w.heap.size w wx))
          case first =>
            have hop := (stepM_args hsm).1
            clear x0 x1 x2 x3
            rcases isOp_cases hop with rfl | rfl | rfl | rfl | rfl | rfl | rfl | rfl | rfl | rfl
            all_goals clear hop
            · have hi3 : 0 ≤ n ∧ n ≤ 3 := step_in hsm rfl
              obtain ⟨n, rfl⟩ := Int.eq_ofNat_of_zero_le hi3.1
              have hn4 : n < ins.length := by rw [HI4.out]; omega
              have hn1 : (n : Int) < (ins.length : Int) := by omega
              obtain ⟨⟨p0, p1, p2⟩, hp⟩ : ∃ y, ins[n]? = some y := ⟨_, List.getElem?_eq_getElem hn4⟩
              have HIx := (HIN.out.below HBx.out)
              have y0 : wr.cell? ⟨bi, oi + n * 3, none⟩ = some (.int .i64 p0) := HIx.2 n _ hp 0 _ rfl
              have y1 : wr.cell? ⟨bi, oi + n * 3 + 1, none⟩ = some (.int .i64 p1) := HIx.2 n _ hp 1 _ rfl
              have y2 : wr.cell? ⟨bi, oi + n * 3 + 2, none⟩ = some (.int .i64 p2) := HIx.2 n _ hp 2 _ rfl
              have hbl : bi < wr.heap.size := HIx.1
              obtain ⟨rfl, rfl, rfl, rfl⟩ := pair_eq ((unitOf_in hp).symm.trans HZ.out)
              clear hi3 hp HIx hsm
              go_wp2_with fail
              go_meet
              exact ⟨rfl, Lib.hid (blk_new2 wr _ _ _), Lib.hid ((HO.out.alloc _).alloc _), Lib.hid (below_alloc (below_alloc HBx.out _) _)⟩
            · have hb3 : 0 ≤ a ∧ a < i ∧ 0 ≤ d ∧ d < i := by
                have := step_two hsm (by first | exact Or.inl rfl | exact Or.inr (Or.inl rfl) | exact Or.inr (Or.inr (Or.inl rfl)) | exact Or.inr (Or.inr (Or.inr rfl)))
                rw [hml] at this
                exact this
              have HOO := HO.out
              obtain ⟨a, rfl⟩ := Int.eq_ofNat_of_zero_le (by first | exact hb3.1 | exact hb3.2.2.1 : 0 ≤ a)
              obtain ⟨d, rfl⟩ := Int.eq_ofNat_of_zero_le (by first | exact hb3.1 | exact hb3.2.2.1 : 0 ≤ d)
              have ha : a < i := by omega
              have ha' : (a : Int) < (i : Int) := by omega
              obtain ⟨⟨p0, p1, p2⟩, hau⟩ : ∃ y, us[a]? = some y := ⟨_, List.getElem?_eq_getElem (by rw [HUS.out]; omega)⟩
              have hd : d < i := by omega
              have hd' : (d : Int) < (i : Int) := by omega
              obtain ⟨⟨q0, q1, q2⟩, hdu⟩ : ∃ y, us[d]? = some y := ⟨_, List.getElem?_eq_getElem (by rw [HUS.out]; omega)⟩
              obtain ⟨gB, rfl, hgl, y0, y1, y2⟩ := unit_own HOO hau
              obtain ⟨gB', hgB, _, y3, y4, y5⟩ := unit_own HOO hdu
              injection hgB with hgB
              injection hgB with hgB _ _
              subst hgB
              obtain ⟨qq, hqq⟩ : ∃ qq, sameU ⟨p0, p1, p2⟩ ⟨q0, q1, q2⟩ = qq := ⟨_, rfl⟩
              have hun := unitOf_add (ins := ins) (k := 2) (n := n) (by decide) hau hdu
              rw [hqq] at hun
              have heq := eq_units hqq
              cases qq with
              | true =>
                obtain ⟨rfl, rfl, rfl, rfl⟩ := pair_eq (hun.symm.trans HZ.out)
                clear hun hqq hau hdu HOO hb3 hsm
                go_wp2_with fail
                go_quiet (fail)
                go_wp2_with fail
                go_meet
                exact ⟨rfl, Lib.hid (blk_drewN (blk_new2 wr _ _ _) _), Lib.hid (own_drewN ((HO.out.alloc _).alloc _) _), Lib.hid (bdr (below_alloc (below_alloc HBx.out _) _) _)⟩
              | false =>
                obtain ⟨rfl, rfl, rfl, rfl⟩ := pair_eq (hun.symm.trans HZ.out)
                clear hun hqq hau hdu HOO hb3 hsm
                go_wp2_with fail
                go_quiet (fail)
                go_wp2_with fail
                go_meet
                exact ⟨rfl, Lib.hid (blk_drewN (blk_new2 wr _ _ _) _), Lib.hid (own_drewN ((HO.out.alloc _).alloc _) _), Lib.hid (bdr (below_alloc (below_alloc HBx.out _) _) _)⟩
            · have hb3 : 0 ≤ a ∧ a < i ∧ 0 ≤ d ∧ d < i := by
                have := step_two hsm (by first | exact Or.inl rfl | exact Or.inr (Or.inl rfl) | exact Or.inr (Or.inr (Or.inl rfl)) | exact Or.inr (Or.inr (Or.inr rfl)))
                rw [hml] at this
                exact this
              have HOO := HO.out
              obtain ⟨a, rfl⟩ := Int.eq_ofNat_of_zero_le (by first | exact hb3.1 | exact hb3.2.2.1 : 0 ≤ a)
              obtain ⟨d, rfl⟩ := Int.eq_ofNat_of_zero_le (by first | exact hb3.1 | exact hb3.2.2.1 : 0 ≤ d)
              have ha : a < i := by omega
              have ha' : (a : Int) < (i : Int) := by omega
              obtain ⟨⟨p0, p1, p2⟩, hau⟩ : ∃ y, us[a]? = some y := ⟨_, List.getElem?_eq_getElem (by rw [HUS.out]; omega)⟩
              have hd : d < i := by omega
              have hd' : (d : Int) < (i : Int) := by omega
              obtain ⟨⟨q0, q1, q2⟩, hdu⟩ : ∃ y, us[d]? = some y := ⟨_, List.getElem?_eq_getElem (by rw [HUS.out]; omega)⟩
              obtain ⟨gB, rfl, hgl, y0, y1, y2⟩ := unit_own HOO hau
              obtain ⟨gB', hgB, _, y3, y4, y5⟩ := unit_own HOO hdu
              injection hgB with hgB
              injection hgB with hgB _ _
              subst hgB
              obtain ⟨qq, hqq⟩ : ∃ qq, sameU ⟨p0, p1, p2⟩ ⟨q0, q1, q2⟩ = qq := ⟨_, rfl⟩
              have hun := unitOf_add (ins := ins) (k := 3) (n := n) (by decide) hau hdu
              rw [hqq] at hun
              have heq := eq_units hqq
              cases qq with
              | true =>
                obtain ⟨rfl, rfl, rfl, rfl⟩ := pair_eq (hun.symm.trans HZ.out)
                clear hun hqq hau hdu HOO hb3 hsm
                go_wp2_with fail
                go_quiet (fail)
                go_wp2_with fail
                go_meet
                exact ⟨rfl, Lib.hid (blk_drewN (blk_new2 wr _ _ _) _), Lib.hid (own_drewN ((HO.out.alloc _).alloc _) _), Lib.hid (bdr (below_alloc (below_alloc HBx.out _) _) _)⟩
              | false =>
                obtain ⟨rfl, rfl, rfl, rfl⟩ := pair_eq (hun.symm.trans HZ.out)
                clear hun hqq hau hdu HOO hb3 hsm
                go_wp2_with fail
                go_quiet (fail)
                go_wp2_with fail
                go_meet
                exact ⟨rfl, Lib.hid (blk_drewN (blk_new2 wr _ _ _) _), Lib.hid (own_drewN ((HO.out.alloc _).alloc _) _), Lib.hid (bdr (below_alloc (below_alloc HBx.out _) _) _)⟩
            · have hb3 : 0 ≤ a ∧ a < i ∧ 0 ≤ d ∧ d < i := by
                have := step_two hsm (by first | exact Or.inl rfl | exact Or.inr (Or.inl rfl) | exact Or.inr (Or.inr (Or.inl rfl)) | exact Or.inr (Or.inr (Or.inr rfl)))
                rw [hml] at this
                exact this
              have HOO := (HO.out.alloc (.cells #[.int .i64 4, .int .i64 a, .int .i64 d, .int .i64 n] 32)).alloc (.cells #[.int .i64 0, .int .i64 0, .int .i64 0] 34)
              obtain ⟨a, rfl⟩ := Int.eq_ofNat_of_zero_le (by first | exact hb3.1 | exact hb3.2.2.1 : 0 ≤ a)
              obtain ⟨d, rfl⟩ := Int.eq_ofNat_of_zero_le (by first | exact hb3.1 | exact hb3.2.2.1 : 0 ≤ d)
              have ha : a < i := by omega
              have ha' : (a : Int) < (i : Int) := by omega
              obtain ⟨⟨p0, p1, p2⟩, hau⟩ : ∃ y, us[a]? = some y := ⟨_, List.getElem?_eq_getElem (by rw [HUS.out]; omega)⟩
              have hd : d < i := by omega
              have hd' : (d : Int) < (i : Int) := by omega
              obtain ⟨⟨q0, q1, q2⟩, hdu⟩ : ∃ y, us[d]? = some y := ⟨_, List.getElem?_eq_getElem (by rw [HUS.out]; omega)⟩
              obtain ⟨gB, rfl, hgl, y0, y1, y2⟩ := unit_own HOO hau
              obtain ⟨gB', hgB, _, y3, y4, y5⟩ := unit_own HOO hdu
              injection hgB with hgB
              injection hgB with hgB _ _
              subst hgB
              have hun := (unitOf_mul (ins := ins) (n := n) hau hdu).symm.trans HZ.out
              have HM2 := Lib.hid hun
              have k1 : ((wr.alloc (.cells #[.int .i64 4, .int .i64 (a : Nat), .int .i64 (d : Nat), .int .i64 n] 32)).alloc (.cells #[.int .i64 0, .int .i64 0, .int .i64 0] 34)).cell? ⟨wr.heap.size, 1, none⟩ = some (.int .i64 (a : Nat)) := blk_cell BS.out 1
              have k2 : ((wr.alloc (.cells #[.int .i64 4, .int .i64 (a : Nat), .int .i64 (d : Nat), .int .i64 n] 32)).alloc (.cells #[.int .i64 0, .int .i64 0, .int .i64 0] 34)).cell? ⟨wr.heap.size, 2, none⟩ = some (.int .i64 (d : Nat)) := blk_cell BS.out 2
              have k0 : ((wr.alloc (.cells #[.int .i64 4, .int .i64 (a : Nat), .int .i64 (d : Nat), .int .i64 n] 32)).alloc (.cells #[.int .i64 0, .int .i64 0, .int .i64 0] 34)).cell? ⟨wr.heap.size, 0, none⟩ = some (.int .i64 4) := blk_cell BS.out 0
              have HO2 := Lib.hid HOO
              have HB4 := Lib.hid (below_alloc (below_alloc HBx.out (.cells #[.int .i64 4, .int .i64 (a : Nat), .int .i64 (d : Nat), .int .i64 n] 32)) (.cells #[.int .i64 0, .int .i64 0, .int .i64 0] 34))
              have hsz : ((wr.alloc (.cells #[.int .i64 4, .int .i64 (a : Nat), .int .i64 (d : Nat), .int .i64 n] 32)).alloc (.cells #[.int .i64 0, .int .i64 0, .int .i64 0] 34)).heap.size = wr.heap.size + 1 + 1 := by rw [World.size_alloc, World.size_alloc]
              clear hun hau hdu HOO hb3 hsm
              go_upto_region 20 with fail
              have hwb : w.heap.size ≤ wr.heap.size + 1 := Nat.le_succ_of_le HBx.out.size
              have hgw : gB < wr.heap.size := (HO.out.lt gB rfl).2
              have BU2 : Hid (((wr.alloc (.cells #[.int .i64 4, .int .i64 (a : Nat), .int .i64 (d : Nat), .int .i64 n] 32)).alloc (.cells #[.int .i64 0, .int .i64 0, .int .i64 0] 34)).heap[wr.heap.size + 1]? = some (.cells #[.int .i64 0, .int .i64 0, .int .i64 0] 34 (0, 0))) := BU
              clear BU BS k0
              generalize (wr.alloc (.cells #[.int .i64 4, .int .i64 (a : Nat), .int .i64 (d : Nat), .int .i64 n] 32)).alloc (.cells #[.int .i64 0, .int .i64 0, .int .i64 0] 34) = W2 at k1 k2 y0 y1 y2 y3 y4 y5 HO2 HB4 BU2 hsz hgl ⊢
              have HK : Hid (∀ w', Below W2.drew.heap.size W2.drew w' → w'.cell? ⟨wr.heap.size, 1, none⟩ = some (.int .i64 (a : Nat)) ∧ w'.cell? ⟨wr.heap.size, 2, none⟩ = some (.int .i64 (d : Nat)) ∧ w'.cell? ⟨gB, a * 3, none⟩ = some (.int .i64 p0) ∧ w'.cell? ⟨gB, a * 3 + 1, none⟩ = some (.int .i64 p1) ∧ w'.cell? ⟨gB, a * 3 + 2, none⟩ = some (.int .i64 p2) ∧ w'.cell? ⟨gB, d * 3, none⟩ = some (.int .i64 q0) ∧ w'.cell? ⟨gB, d * 3 + 1, none⟩ = some (.int .i64 q1) ∧ w'.cell? ⟨gB, d * 3 + 2, none⟩ = some (.int .i64 q2)) := Lib.hid (fun w' hb =>
                have l1 : wr.heap.size < W2.heap.size := by omega
                ⟨(hb.cell (p := ⟨wr.heap.size, 1, none⟩) l1).trans k1, (hb.cell (p := ⟨wr.heap.size, 2, none⟩) l1).trans k2, (hb.cell (p := ⟨gB, a * 3, none⟩) hgl).trans y0, (hb.cell (p := ⟨gB, a * 3 + 1, none⟩) hgl).trans y1, (hb.cell (p := ⟨gB, a * 3 + 2, none⟩) hgl).trans y2, (hb.cell (p := ⟨gB, d * 3, none⟩) hgl).trans y3, (hb.cell (p := ⟨gB, d * 3 + 1, none⟩) hgl).trans y4, (hb.cell (p := ⟨gB, d * 3 + 2, none⟩) hgl).trans y5⟩)
              have gne : gB ≠ wr.heap.size + 1 := by omega
              have gne2 : wr.heap.size + 1 ≠ gB := by omega
              clear hsz
              go_region_held3 (fun w' => w'.cell? ⟨wr.heap.size, 1, none⟩ = some (.int .i64 (a : Nat)) ∧ w'.cell? ⟨wr.heap.size, 2, none⟩ = some (.int .i64 (d : Nat)) ∧ w'.cell? ⟨gB, a * 3, none⟩ = some (.int .i64 p0) ∧ w'.cell? ⟨gB, a * 3 + 1, none⟩ = some (.int .i64 p1) ∧ w'.cell? ⟨gB, a * 3 + 2, none⟩ = some (.int .i64 p2) ∧ w'.cell? ⟨gB, d * 3, none⟩ = some (.int .i64 q0) ∧ w'.cell? ⟨gB, d * 3 + 1, none⟩ = some (.int .i64 q1) ∧ w'.cell? ⟨gB, d * 3 + 2, none⟩ = some (.int .i64 q2)) (first | exact HK.out _ hb | go_keep)
                ((go_at_call 14; refine (mul_lit HM2.out _).mono ?_; rintro e w2 ⟨rfl, hb⟩; have hk := HK.out _ hb; have g0 := blk_frozen (blk_below (blk_drew BU2.out) hb) 0; have g1 := blk_frozen (blk_below (blk_drew BU2.out) hb) 1; have g2 := blk_frozen (blk_below (blk_drew BU2.out) hb) 2; have e0 := blk_cell (blk_below (blk_drew BU2.out) hb) 0; have e1 := blk_cell (blk_below (blk_drew BU2.out) hb) 1; have e2 := blk_cell (blk_below (blk_drew BU2.out) hb) 2))
              all_goals
                go_wp2_with fail
                go_meet
                exact ⟨rfl, Lib.hid (blk_put (blk_put (blk_put (blk_below (blk_drew BU2.out) hb) 0 (.int .i64 z0) rfl) 1 (.int .i64 z1) rfl) 2 (.int .i64 z2) rfl),
                  Lib.hid (own_setCell (own_setCell (own_setCell (own_below_ (own_drew HO2.out) hb) (fun e => gne (by injection e with e; exact e.symm)) _) (fun e => gne (by injection e with e; exact e.symm)) _) (fun e => gne (by injection e with e; exact e.symm)) _),
                  Lib.hid (below_set (below_set (below_set (below_step HB4.out (undrew hb)) ⟨wr.heap.size + 1, 0, none⟩ (.int .i64 z0) hwb) ⟨wr.heap.size + 1, 1, none⟩ (.int .i64 z1) hwb) ⟨wr.heap.size + 1, 2, none⟩ (.int .i64 z2) hwb)⟩
            · have hb3 : 0 ≤ a ∧ a < i := by
                have := step_one hsm rfl
                rw [hml] at this
                exact this
              have HOO := HO.out
              obtain ⟨a, rfl⟩ := Int.eq_ofNat_of_zero_le (by first | exact hb3.1 | exact hb3.2.2.1 : 0 ≤ a)
              have ha : a < i := by omega
              have ha' : (a : Int) < (i : Int) := by omega
              obtain ⟨⟨p0, p1, p2⟩, hau⟩ : ∃ y, us[a]? = some y := ⟨_, List.getElem?_eq_getElem (by rw [HUS.out]; omega)⟩
              obtain ⟨gB, rfl, hgl, y0, y1, y2⟩ := unit_own HOO hau
              obtain ⟨rfl, rfl, rfl, rfl⟩ := pair_eq ((unitOf_scale (ins := ins) (d := d) (n := n) hau).symm.trans HZ.out)
              clear hau HOO hb3 hsm
              go_wp2_with fail
              go_meet
              exact ⟨rfl, Lib.hid (blk_new2 wr _ _ _), Lib.hid ((HO.out.alloc _).alloc _), Lib.hid (below_alloc (below_alloc HBx.out _) _)⟩
            · have hb3 : 0 ≤ a ∧ a < i ∧ 0 ≤ d ∧ d < i := by
                have := step_two hsm (by first | exact Or.inl rfl | exact Or.inr (Or.inl rfl) | exact Or.inr (Or.inr (Or.inl rfl)) | exact Or.inr (Or.inr (Or.inr rfl)))
                rw [hml] at this
                exact this
              have HOO := HO.out
              obtain ⟨a, rfl⟩ := Int.eq_ofNat_of_zero_le (by first | exact hb3.1 | exact hb3.2.2.1 : 0 ≤ a)
              obtain ⟨d, rfl⟩ := Int.eq_ofNat_of_zero_le (by first | exact hb3.1 | exact hb3.2.2.1 : 0 ≤ d)
              have ha : a < i := by omega
              have ha' : (a : Int) < (i : Int) := by omega
              obtain ⟨⟨p0, p1, p2⟩, hau⟩ : ∃ y, us[a]? = some y := ⟨_, List.getElem?_eq_getElem (by rw [HUS.out]; omega)⟩
              have hd : d < i := by omega
              have hd' : (d : Int) < (i : Int) := by omega
              obtain ⟨⟨q0, q1, q2⟩, hdu⟩ : ∃ y, us[d]? = some y := ⟨_, List.getElem?_eq_getElem (by rw [HUS.out]; omega)⟩
              obtain ⟨gB, rfl, hgl, y0, y1, y2⟩ := unit_own HOO hau
              obtain ⟨gB', hgB, _, y3, y4, y5⟩ := unit_own HOO hdu
              injection hgB with hgB
              injection hgB with hgB _ _
              subst hgB
              obtain ⟨qq, hqq⟩ : ∃ qq, sameU ⟨p0, p1, p2⟩ ⟨q0, q1, q2⟩ = qq := ⟨_, rfl⟩
              have hun := unitOf_add (ins := ins) (k := 6) (n := n) (by decide) hau hdu
              rw [hqq] at hun
              have heq := eq_units hqq
              cases qq with
              | true =>
                obtain ⟨rfl, rfl, rfl, rfl⟩ := pair_eq (hun.symm.trans HZ.out)
                clear hun hqq hau hdu HOO hb3 hsm
                go_wp2_with fail
                go_quiet (fail)
                go_wp2_with fail
                go_meet
                exact ⟨rfl, Lib.hid (blk_drewN (blk_new2 wr _ _ _) _), Lib.hid (own_drewN ((HO.out.alloc _).alloc _) _), Lib.hid (bdr (below_alloc (below_alloc HBx.out _) _) _)⟩
              | false =>
                obtain ⟨rfl, rfl, rfl, rfl⟩ := pair_eq (hun.symm.trans HZ.out)
                clear hun hqq hau hdu HOO hb3 hsm
                go_wp2_with fail
                go_quiet (fail)
                go_wp2_with fail
                go_meet
                exact ⟨rfl, Lib.hid (blk_drewN (blk_new2 wr _ _ _) _), Lib.hid (own_drewN ((HO.out.alloc _).alloc _) _), Lib.hid (bdr (below_alloc (below_alloc HBx.out _) _) _)⟩
            · obtain ⟨rfl, rfl, rfl, rfl⟩ := pair_eq ((unitOf_none (ins := ins) (us := us) (a := a) (d := d) (n := n) (k := 7) (by decide)).symm.trans HZ.out)
              clear hsm
              go_wp2_with fail
              go_meet
              exact ⟨rfl, Lib.hid (blk_new2 wr _ _ _), Lib.hid ((HO.out.alloc _).alloc _), Lib.hid (below_alloc (below_alloc HBx.out _) _)⟩
            · obtain ⟨rfl, rfl, rfl, rfl⟩ := pair_eq ((unitOf_none (ins := ins) (us := us) (a := a) (d := d) (n := n) (k := 8) (by decide)).symm.trans HZ.out)
              clear hsm
              go_wp2_with fail
              go_meet
              exact ⟨rfl, Lib.hid (blk_new2 wr _ _ _), Lib.hid ((HO.out.alloc _).alloc _), Lib.hid (below_alloc (below_alloc HBx.out _) _)⟩
            · obtain ⟨rfl, rfl, rfl, rfl⟩ := pair_eq ((unitOf_none (ins := ins) (us := us) (a := a) (d := d) (n := n) (k := 9) (by decide)).symm.trans HZ.out)
              clear hsm
              go_wp2_with fail
              go_meet
              exact ⟨rfl, Lib.hid (blk_new2 wr _ _ _), Lib.hid ((HO.out.alloc _).alloc _), Lib.hid (below_alloc (below_alloc HBx.out _) _)⟩
            · obtain ⟨rfl, rfl, rfl, rfl⟩ := pair_eq ((unitOf_none (ins := ins) (us := us) (a := a) (d := d) (n := n) (k := 10) (by decide)).symm.trans HZ.out)
              clear hsm
              go_wp2_with fail
              go_meet
              exact ⟨rfl, Lib.hid (blk_new2 wr _ _ _), Lib.hid ((HO.out.alloc _).alloc _), Lib.hid (below_alloc (below_alloc HBx.out _) _)⟩
          case rest =>
            obtain ⟨rfl, HBU, HO3, HB3⟩ := hcut
            clear BS BU
            have HU3 := Lib.hid (HM.out)
            have c0 := blk_cell HBU.out 0
            have c1 := blk_cell HBU.out 1
            have c2 := blk_cell HBU.out 2
            by_cases hze : ze = 0
            · subst hze
              have HM2 : Hid (unitsL ins l [] = unitsL ins (l.drop (i + 1)) (us ++ [⟨z0, z1, z2⟩])) := Lib.hid (by
                rw [HM.out, units_go HX.out (by rw [HZ.out]), HZ.out])
              clear HM HU3
              obtain ⟨it, hi, hz0, hz1, hz2⟩ := info_parts infoU
              go_wp2_with (first | (at_builtin; refine wpList_append_own _ rfl _ _ 25 rfl w.heap.size 34 it (.agg #[.int .i64 0, .int .i64 0, .int .i64 0]) 3 24 Tryd.underlying25 hi hz0 hz1 hz2 rfl (by decide) _ _ _ rfl (HO3.out.alloc _) ⟨wc.heap.size, 0, none⟩ 1 1 [.int .i64 z0, .int .i64 z1, .int .i64 z2] rfl rfl ?c1 ?c2 ?c3 ?c4 ?c5 ?_) | fail)
              case c1 =>
                have hn := blk_new wc (.cells #[.int .i64 z0, .int .i64 z1, .int .i64 z2] 34)
                intro j u hj
                match j, hj with
                | 0, hj => simp at hj; subst hj; exact blk_cell hn 0
                | 1, hj => simp at hj; subst hj; exact blk_cell hn 1
                | 2, hj => simp at hj; subst hj; exact blk_cell hn 2
              case c2 => intro u hu; simp at hu; rcases hu with rfl | rfl | rfl <;> rfl
              case c3 => unfold maxLen; omega
              case c4 => omega
              case c5 => have := HB3.out.size; simp; omega
              intro v' w4 hown hgrow _
              have HB8 : Hid (Below w.heap.size w w4) := Lib.hid (below_grown_own (below_alloc HB3.out _) (HO3.out.alloc _) hgrow)
              obtain ⟨A2, c2', rfl⟩ := own_view hown
              have HO8 : Hid (w4.ownsRow w.heap.size 34 3 (.slice A2 (i + 1) c2') (i + 1) (encUS (us ++ [⟨z0, z1, z2⟩]))) := Lib.hid (by rw [encUS_push]; exact hown)
              clear hgrow hown
              go_wp2_with fail
              go_roundg g
              case measure => omega
              case rel => exact ⟨i + 1, us ++ [⟨z0, z1, z2⟩], A2, c2', by omega, by rw [List.length_append, HUS.out]; rfl, rfl, by go_num, HM2, HO8, HB8⟩
            · have e0 : (ze == 0) = false := by simpa using hze
              have e1 : (ze != 0) = true := by simpa using hze
              have HN : Hid (R = ([], ze)) := Lib.hid (by
                have hb := units_bad HX.out (by rw [HZ.out]; exact hze)
                rw [HZ.out] at hb
                exact HUR.out.trans (HM.out.trans hb))
              clear hze HM HU3
              go_wp2_with fail
              refine bodyPost_ret (results_tmp2 rfl _ _ _) rfl ?_
              exact UnitsPost.none_ HN.out HB3.out
end Go.Proofs.YtamabdijeklgjaaDoor.Ext

/- flow.Units: the whole answer; the rows that flow's functions return, read as lists. -/
namespace Go.Proofs.YtamabdijeklgjaaDoor.Ext
open Go Go.Proofs Go.RowKit Go.Proofs.YtamabdijeklgjaaDoorW.PrintWords
set_option linter.unusedVariables false

theorem units_calls (name : ByteArray) (ver : Int) (A I : Option Addr) (c ci : Nat) (l : List FS) (ins : List US) (w : World) (hr : Kd.C L.k32 w A l.length l) (hI : Kd.C L.k34 w I ins.length ins) :
    Calls Tryd.prog 12 #[.agg #[.string name, .int .i64 ver, .slice A l.length c], .slice I ins.length ci] w (UnitsPost w (unitsE name.data.toList ver l ins)) := by
  by_cases h : validB name.data.toList ver l = true ∧ ins.length = 4
  · exact units_main name ver A I c ci l ins w hr hI h.2 h.1
  · have h2 : validB name.data.toList ver l = false ∨ ins.length ≠ 4 := by
      by_cases h3 : validB name.data.toList ver l = true
      · exact Or.inr (fun e => h ⟨h3, e⟩)
      · exact Or.inl (by simpa using h3)
    refine (units_invalid name ver A I c ci ins.length l w hr h2 hI.2.1).mono ?_
    rintro e w' ⟨rfl, hb⟩
    refine UnitsPost.none_ ?_ hb
    unfold unitsE
    rw [if_neg (fun k => h ⟨k.1, k.2.1⟩)]
theorem encUS_sub : ∀ (l : List US) (j : Nat) (x : US), l[j]? = some x → ((encUS l).drop (j * 3)).take 3 = unitC x
  | [], j, x, h => by simp at h
  | y :: l, 0, x, h => by
    obtain rfl : y = x := by simpa using h
    rfl
  | y :: l, j + 1, x, h => by
    have := encUS_sub l j x (by simpa using h)
    rw [← this]
    show ((unitC y ++ encUS l).drop ((j + 1) * 3)).take 3 = _
    rw [show (j + 1) * 3 = (unitC y).length + j * 3 by show _ = 3 + j * 3; omega, List.drop_length_add_append]
theorem encFS_length (l : List FS) : (encFS l).length = l.length * 4 := by
  induction l with
  | nil => rfl
  | cons x l ih =>
    show (stepC x ++ encFS l).length = _
    rw [List.length_append, ih, List.length_cons]
    show 4 + _ = _
    omega
theorem encFS_sub : ∀ (l : List FS) (j : Nat) (x : FS), l[j]? = some x → ((encFS l).drop (j * 4)).take 4 = stepC x
  | [], j, x, h => by simp at h
  | y :: l, 0, x, h => by
    obtain rfl : y = x := by simpa using h
    rfl
  | y :: l, j + 1, x, h => by
    have := encFS_sub l j x (by simpa using h)
    rw [← this]
    show ((stepC y ++ encFS l).drop ((j + 1) * 4)).take 4 = _
    rw [show (j + 1) * 4 = (stepC y).length + j * 4 by show _ = 4 + j * 4; omega, List.drop_length_add_append]
theorem units_R {w : World} {base : Nat} {v : Value} {us : List US} (h : w.ownsRow base 34 3 v us.length (encUS us)) : Kd.R L.k34 34 w base (fun _ => True) v us :=
  ⟨fun _ _ => trivial, encUS us, h, encUS_length us, fun j p hj => by
    show L.k34.M _ _ _ p (((encUS us).drop (j * 3)).take 3)
    rw [encUS_sub us j p hj]
    exact L.k34_mkM _ _ _ p⟩
theorem steps_R {w : World} {base : Nat} {v : Value} {l : List FS} (h : w.ownsRow base 32 4 v l.length (encFS l)) : Kd.R L.k32 32 w base (fun _ => True) v l :=
  ⟨fun _ _ => trivial, encFS l, h, encFS_length l, fun j p hj => by
    show L.k32.M _ _ _ p (((encFS l).drop (j * 4)).take 4)
    rw [encFS_sub l j p hj]
    exact L.k32_mkM _ _ _ p⟩
theorem parse_good {t name : List UInt8} {ver : Int} {l : List FS} (h : parseL t = .good name ver l) (w : World) :
    Calls Tryd.prog 22 #[.string (bs t)] w fun e w' => ∃ A c, e = .returned (.tuple #[.agg #[.string (bs name), .int .i64 ver, .slice A l.length c], .int .i64 0, .int .i64 0]) ∧ Kd.C L.k32 w' A l.length l ∧ l.length ≤ c ∧ Below w.heap.size w w' := by
  have P := parse_calls (bs t) w
  rw [bs_list, h] at P
  refine P.mono ?_
  rintro e w' ⟨SV, rfl, ho, _, hb⟩
  obtain ⟨A, c, rfl, hc, hC⟩ := Kd.R_reads (steps_R ho)
  exact ⟨A, c, rfl, hC, hc, hb⟩
theorem parse_bad {t : List UInt8} {er at_ : Int} (h : parseL t = .bad er at_) (w : World) :
    Calls Tryd.prog 22 #[.string (bs t)] w fun e w' => e = .returned (.tuple #[.agg #[.string ⟨#[]⟩, .int .i64 0, .slice none 0 0], .int .i64 er, .int .i64 at_]) ∧ Below w.heap.size w w' := by
  have P := parse_calls (bs t) w
  rw [bs_list, h] at P
  exact P
/-! ### for what the kit's printer prints over these -/
def flow_Valid.f (n : ByteArray) (v : Int) (l : List FS) : Option Bool := some (validB n.data.toList v l)
theorem flow_Valid.calls (n : ByteArray) (v : Int) (A : Option Addr) (c : Nat) (l : List FS) (r : Bool) (w : World) (hr : Kd.C L.k32 w A l.length l) (hc : l.length ≤ c) (h : flow_Valid.f n v l = some r) :
    Calls Tryd.prog 13 #[.agg #[.string n, .int .i64 v, .slice A l.length c]] w fun e w' => e = .returned (.bool r) ∧ Below w.heap.size w w' := by
  obtain rfl := Option.some.inj h
  exact valid_of_reads n v A c l w hr
def flow_Units.f (n : ByteArray) (v : Int) (l : List FS) (ins : List US) : Option (List US × Int) := some (unitsE n.data.toList v l ins)
theorem flow_Units.calls (n : ByteArray) (v : Int) (A : Option Addr) (c : Nat) (l : List FS) (I : Option Addr) (ci : Nat) (ins : List US) (r1 : List US) (r2 : Int) (w : World) (hr : Kd.C L.k32 w A l.length l) (hc : l.length ≤ c) (hI : Kd.C L.k34 w I ins.length ins) (hci : ins.length ≤ ci) (h : flow_Units.f n v l ins = some (r1, r2)) :
    Calls Tryd.prog 12 #[.agg #[.string n, .int .i64 v, .slice A l.length c], .slice I ins.length ci] w fun e w' => ∃ SV : Value, e = .returned (.tuple #[SV, .int .i64 r2]) ∧ Kd.R L.k34 34 w' w.heap.size (fun _ => True) SV r1 ∧ Below w.heap.size w w' := by
  have hh := Option.some.inj h
  refine (units_calls n v A I c ci l ins w hr hI).mono ?_
  rw [hh]
  rintro e w' ⟨SV, rfl, ho, hb⟩
  exact ⟨SV, rfl, units_R ho, hb⟩
end Go.Proofs.YtamabdijeklgjaaDoor.Ext

/- The chapter's examples (law 33's head), walked. -/
namespace Go.Proofs.YtamabdijeklgjaaDoor.Ext
open Go Go.Proofs Go.RowKit Go.Proofs.YtamabdijeklgjaaDoorW.PrintWords
set_option linter.unusedVariables false
set_option linter.unusedSimpArgs false

theorem text_calls (w : World) : Calls Tryd.prog 25 #[] w fun e w' => e = .returned (.string (bs t0)) ∧ w = w' := by
  go_enter Tryd.func25, Tryd.ntmps25
  go_wp2_with fail
  go_ret
  exact ⟨rfl, rfl⟩
theorem fails_calls {t : List UInt8} {er at_ : Int} (h : parseL t = .bad er at_) (w : World) :
    Calls Tryd.prog 26 #[.string (bs t), .int .i64 er, .int .i64 at_] w fun e w' => e = .returned (.bool true) ∧ Below w.heap.size w w' := by
  have P := Lib.hid (parse_bad h w)
  have e1 : (er == er) = true := by simp
  have e2 : (at_ == at_) = true := by simp
  clear h
  go_enter Tryd.func26, Tryd.ntmps26
  go_wp2_with fail
  refine P.out.mono ?_
  rintro e w1 ⟨rfl, hb⟩
  have HB := Lib.hid hb
  clear hb
  go_wp2_with fail
  go_ret
  exact ⟨rfl, below_alloc HB.out _⟩
theorem parse_t0 (w : World) : Calls Tryd.prog 22 #[.string (bs t0)] w fun e w' => ∃ b o c, e = .returned (.tuple #[.agg #[.string { data := #[102, 97, 115, 116] }, .int .i64 2, .slice (some ⟨b, o, none⟩) 7 c], .int .i64 0, .int .i64 0]) ∧ Hid (Kd.C L.k32 w' (some ⟨b, o, none⟩) 7 st0) ∧ Hid (StepsAt w' b o st0) ∧ Below w.heap.size w w' := by
  refine (parse_good p0 w).mono ?_
  rintro e w' ⟨A, c, rfl, hC, hc, hb⟩
  obtain ⟨b, o, rfl, hst⟩ := steps_view hC (by decide)
  exact ⟨b, o, c, rfl, Lib.hid hC, Lib.hid hst, hb⟩
theorem units_t0 (b o c : Nat) (I : Option Addr) (w : World) (hr : Kd.C L.k32 w (some ⟨b, o, none⟩) 7 st0) (ins : List US) (hl : ins.length = 4) (hI : Kd.C L.k34 w I 4 ins) {us : List US} {er : Int} (n : Nat) (hn : us.length = n) (h : unitsE [102, 97, 115, 116] 2 st0 ins = (us, er)) :
    Calls Tryd.prog 12 #[.agg #[.string { data := #[102, 97, 115, 116] }, .int .i64 2, .slice (some ⟨b, o, none⟩) 7 c], .slice I 4 4] w fun e w' => ∃ A c', e = .returned (.tuple #[.slice A n c', .int .i64 er]) ∧ Hid (w'.ownsRow w.heap.size 34 3 (.slice A n c') n (encUS us)) ∧ Below w.heap.size w w' := by
  subst hn
  have U := units_calls { data := #[102, 97, 115, 116] } 2 (some ⟨b, o, none⟩) I c 4 st0 ins w hr (by rw [hl]; exact hI)
  rw [hl, show unitsE (ByteArray.mk #[102, 97, 115, 116]).data.toList 2 st0 ins = (us, er) from h] at U
  refine Calls.mono U ?_
  rintro e w' ⟨SV, rfl, ho, hb⟩
  obtain ⟨A, c', rfl⟩ := own_view ho
  exact ⟨A, c', rfl, Lib.hid ho, hb⟩
theorem four_units {w : World} {g : Nat} {x0 x1 x2 x3 : US} (h : w.heap[g]? = some (.cells #[.int .i64 x0.f0, .int .i64 x0.f1, .int .i64 x0.f2, .int .i64 x1.f0, .int .i64 x1.f1, .int .i64 x1.f2, .int .i64 x2.f0, .int .i64 x2.f1, .int .i64 x2.f2, .int .i64 x3.f0, .int .i64 x3.f1, .int .i64 x3.f2] 34 (0, 0))) :
    Kd.C L.k34 w (some ⟨g, 0, none⟩) 4 [x0, x1, x2, x3] := by
  have ho : w.ownsRow 0 34 3 (.slice (some ⟨g, 0, none⟩) 4 4) 4 (encUS [x0, x1, x2, x3]) := by
    refine ⟨rfl, .inr ⟨g, 4, _, rfl, Nat.zero_le _, h, by omega, by unfold maxLen; omega, rfl, rfl⟩⟩
  obtain ⟨A, c, e, _, hC⟩ := Kd.R_reads (units_R (us := [x0, x1, x2, x3]) ho)
  injection e with e1 e2 e3
  rw [← e1] at hC
  exact hC
def cu : US := ⟨1, 0, 0⟩
def su : US := ⟨0, 0, 1⟩
theorem u0 : unitsE [102, 97, 115, 116] 2 st0 [cu, cu, cu, cu] = ([cu, cu, cu, us0, cu, us0, us0], 0) := by kernel_rfl
theorem u1 : unitsE [102, 97, 115, 116] 2 st0 [cu, su, cu, cu] = ([], 15) := by kernel_rfl
theorem alloc4 (w : World) (c0 c1 c2 c3 : Array Value) (t0 t1 t2 t3 : TypeId) :
    ((((w.alloc (.cells c0 t0)).alloc (.cells c1 t1)).alloc (.cells c2 t2)).alloc (.cells c3 t3)).heap[w.heap.size]? = some (.cells c0 t0 (0, 0)) ∧
    ((((w.alloc (.cells c0 t0)).alloc (.cells c1 t1)).alloc (.cells c2 t2)).alloc (.cells c3 t3)).heap[w.heap.size + 1]? = some (.cells c1 t1 (0, 0)) ∧
    ((((w.alloc (.cells c0 t0)).alloc (.cells c1 t1)).alloc (.cells c2 t2)).alloc (.cells c3 t3)).heap[w.heap.size + 1 + 1]? = some (.cells c2 t2 (0, 0)) ∧
    ((((w.alloc (.cells c0 t0)).alloc (.cells c1 t1)).alloc (.cells c2 t2)).alloc (.cells c3 t3)).heap[w.heap.size + 1 + 1 + 1]? = some (.cells c3 t3 (0, 0)) := by
  refine ⟨blk_alloc (blk_alloc (blk_alloc (blk_new w _) _) _) _, blk_alloc (blk_alloc (blk_new2 w _ _ _) _) _, ?_, ?_⟩
  · have := blk_new2 (w.alloc (.cells c0 t0)) (.cells c1 t1) c2 t2
    rw [World.size_alloc] at this
    exact blk_alloc this _
  · have := blk_new2 ((w.alloc (.cells c0 t0)).alloc (.cells c1 t1)) (.cells c2 t2) c3 t3
    rw [World.size_alloc, World.size_alloc] at this
    exact this
theorem valid_t0 (b o c : Nat) (w : World) (hr : Kd.C L.k32 w (some ⟨b, o, none⟩) 7 st0) :
    Calls Tryd.prog 13 #[.agg #[.string { data := #[102, 97, 115, 116] }, .int .i64 2, .slice (some ⟨b, o, none⟩) 7 c]] w fun e w' => e = .returned (.bool true) ∧ Below w.heap.size w w' := by
  have V := valid_of_reads { data := #[102, 97, 115, 116] } 2 (some ⟨b, o, none⟩) c st0 w hr
  rw [show validB (ByteArray.mk #[102, 97, 115, 116]).data.toList 2 st0 = true from v0] at V
  exact V
theorem valid_nil (w : World) : Calls Tryd.prog 13 #[.agg #[.string { data := #[] }, .int .i64 0, .slice none 0 0]] w fun e w' => e = .returned (.bool false) ∧ Below w.heap.size w w' := by
  have V := valid_of_reads { data := #[] } 0 none 0 [] w ⟨rfl, Nat.zero_le _, fun h => absurd h (by simp)⟩
  rw [show validB (ByteArray.mk #[]).data.toList 0 [] = false from v1] at V
  exact V
theorem eq_steps (a b c d : Int) : ∀ (k : Nat) (w : World), (Op.equalIn (k + 2) 32 (.agg #[.int .i64 a, .int .i64 b, .int .i64 c, .int .i64 d]) (.agg #[.int .i64 a, .int .i64 b, .int .i64 c, .int .i64 d])).run Tryd.prog w = .ok true w := fun k w => by
  rw [L.eqA32]
  simp
theorem own_cells {w : World} {base : Nat} {A : Option Addr} {c i : Nat} {us : List US} (h : w.ownsRow base 34 3 (.slice A i c) i (encUS us)) (hi : 0 < i) (hl : us.length = i) : ∃ gB, A = some ⟨gB, 0, none⟩ ∧ ∀ a x, us[a]? = some x → w.cell? ⟨gB, a * 3, none⟩ = some (.int .i64 x.f0) ∧ w.cell? ⟨gB, a * 3 + 1, none⟩ = some (.int .i64 x.f1) ∧ w.cell? ⟨gB, a * 3 + 2, none⟩ = some (.int .i64 x.f2) := by
  obtain ⟨gB, e, _⟩ := unit_own h (List.getElem?_eq_getElem (show 0 < us.length by omega))
  refine ⟨gB, e, fun a x hx => ?_⟩
  obtain ⟨g2, e2, _, h0, h1, h2⟩ := unit_own h hx
  rw [e] at e2
  injection e2 with e2
  injection e2 with e2 _ _
  subst e2
  exact ⟨h0, h1, h2⟩
set_option maxRecDepth 100000 in
set_option maxHeartbeats 4000000 in
theorem head33_calls (w : World) : Calls Tryd.prog 10 #[] w fun e w' => e = .returned (.bool true) ∧ Below w.heap.size w w' := by
  go_enter Tryd.func10, Tryd.ntmps10
  go_wp2_with fail
  refine (text_calls _).mono ?_
  rintro e w' ⟨rfl, rfl⟩
  go_wp2_with fail
  refine (parse_t0 _).mono ?_
  rintro e w1 ⟨b, o, c, rfl, HC, HS, hb⟩
  have HB := Lib.hid hb
  clear hb
  go_wp2_with fail
  obtain ⟨k1, k2, k3, k4⟩ := alloc4 w1 #[.string { data := #[102, 97, 115, 116] }, .int .i64 2, .slice (some ⟨b, o, none⟩) 7 c] #[.int .i64 1, .int .i64 0, .int .i64 0] #[.int .i64 0, .int .i64 0, .int .i64 1] #[.int .i64 1, .int .i64 0, .int .i64 0, .int .i64 1, .int .i64 0, .int .i64 0, .int .i64 1, .int .i64 0, .int .i64 0, .int .i64 1, .int .i64 0, .int .i64 0] 24 34 34 34
  have bel := below_alloc (below_alloc (below_alloc (below_allocs w1 (.cells #[.string { data := #[102, 97, 115, 116] }, .int .i64 2, .slice (some ⟨b, o, none⟩) 7 c] 24)) (.cells #[.int .i64 1, .int .i64 0, .int .i64 0] 34)) (.cells #[.int .i64 0, .int .i64 0, .int .i64 1] 34)) (.cells #[.int .i64 1, .int .i64 0, .int .i64 0, .int .i64 1, .int .i64 0, .int .i64 0, .int .i64 1, .int .i64 0, .int .i64 0, .int .i64 1, .int .i64 0, .int .i64 0] 34)
  have KF := Lib.hid k1
  have KC := Lib.hid k2
  have KS := Lib.hid k3
  have HU4 := Lib.hid (four_units (x0 := cu) (x1 := cu) (x2 := cu) (x3 := cu) k4)
  have HC1 := Lib.hid (Kd.C_below HC.out bel)
  have HS1 := Lib.hid (HS.out.below bel)
  have HB1 := Lib.hid (below_step HB.out bel)
  clear k1 k2 k3 k4 bel HC HS HB
  generalize (((w1.alloc (.cells #[.string { data := #[102, 97, 115, 116] }, .int .i64 2, .slice (some ⟨b, o, none⟩) 7 c] 24)).alloc (.cells #[.int .i64 1, .int .i64 0, .int .i64 0] 34)).alloc (.cells #[.int .i64 0, .int .i64 0, .int .i64 1] 34)).alloc (.cells #[.int .i64 1, .int .i64 0, .int .i64 0, .int .i64 1, .int .i64 0, .int .i64 0, .int .i64 1, .int .i64 0, .int .i64 0, .int .i64 1, .int .i64 0, .int .i64 0] 34) = W at KF KC KS HU4 HC1 HS1 HB1 ⊢
  generalize w1.heap.size + 1 + 1 + 1 = N3 at HU4 ⊢
  generalize w1.heap.size + 1 + 1 = N2 at KS ⊢
  generalize w1.heap.size + 1 = N1 at KC ⊢
  generalize w1.heap.size = N0 at KF ⊢
  refine (units_t0 b o c _ _ HC1.out _ rfl HU4.out 7 rfl u0).mono ?_
  rintro e w2 ⟨A1, c1, rfl, HO1, hb⟩
  have KF2 := Lib.hid (blk_below KF.out hb)
  have KC2 := Lib.hid (blk_below KC.out hb)
  have KS2 := Lib.hid (blk_below KS.out hb)
  have HC2 := Lib.hid (Kd.C_below HC1.out hb)
  have HS2 := Lib.hid (HS1.out.below hb)
  have HB2 := Lib.hid (below_step HB1.out hb)
  clear hb KF KC KS HC1 HS1 HB1 HU4
  have f0 := blk_cell KF2.out 0
  have f1 := blk_cell KF2.out 1
  have f2 := blk_cell KF2.out 2
  have n0 := blk_cell KC2.out 0
  have n1 := blk_cell KC2.out 1
  have n2 := blk_cell KC2.out 2
  have s0 := blk_cell KS2.out 0
  have s1 := blk_cell KS2.out 1
  have s2 := blk_cell KS2.out 2
  go_wp2_with fail
  have hb4 := below_allocs w2 (.cells #[.int .i64 1, .int .i64 0, .int .i64 0, .int .i64 0, .int .i64 0, .int .i64 1, .int .i64 1, .int .i64 0, .int .i64 0, .int .i64 1, .int .i64 0, .int .i64 0] 34)
  have KF3 := Lib.hid (blk_below KF2.out hb4)
  have KC3 := Lib.hid (blk_below KC2.out hb4)
  have HC3 := Lib.hid (Kd.C_below HC2.out hb4)
  have HS3 := Lib.hid (HS2.out.below hb4)
  have HB3 := Lib.hid (below_step HB2.out hb4)
  have HO3 := Lib.hid (own_below_ HO1.out hb4)
  have HU5 := Lib.hid (four_units (x0 := cu) (x1 := su) (x2 := cu) (x3 := cu) (blk_new w2 (.cells #[.int .i64 1, .int .i64 0, .int .i64 0, .int .i64 0, .int .i64 0, .int .i64 1, .int .i64 1, .int .i64 0, .int .i64 0, .int .i64 1, .int .i64 0, .int .i64 0] 34)))
  clear hb4 KF2 KC2 KS2 HC2 HS2 HB2 HO1 f0 f1 f2 n0 n1 n2 s0 s1 s2
  generalize w2.alloc (.cells #[.int .i64 1, .int .i64 0, .int .i64 0, .int .i64 0, .int .i64 0, .int .i64 1, .int .i64 1, .int .i64 0, .int .i64 0, .int .i64 1, .int .i64 0, .int .i64 0] 34) = W3 at KF3 KC3 HC3 HS3 HB3 HO3 HU5 ⊢
  generalize w2.heap.size = N4 at HU5 ⊢
  refine (units_t0 b o c _ _ HC3.out _ rfl HU5.out 0 rfl u1).mono ?_
  rintro e w4 ⟨A2, c2, rfl, HO2, hb⟩
  have KF4 := Lib.hid (blk_below KF3.out hb)
  have KC4 := Lib.hid (blk_below KC3.out hb)
  have HC4 := Lib.hid (Kd.C_below HC3.out hb)
  have HS4 := Lib.hid (HS3.out.below hb)
  have HB4 := Lib.hid (below_step HB3.out hb)
  have HO4 := own_below_ HO3.out hb
  clear hb KF3 KC3 HC3 HS3 HB3 HO3 HU5 HO2
  have f0 := blk_cell KF4.out 0
  have f1 := blk_cell KF4.out 1
  have f2 := blk_cell KF4.out 2
  have n0 := blk_cell KC4.out 0
  have n1 := blk_cell KC4.out 1
  have n2 := blk_cell KC4.out 2
  obtain ⟨gU, rfl, hc⟩ := own_cells HO4 (by decide) rfl
  obtain ⟨y20, y21, y22⟩ : w4.cell? ⟨gU, 6, none⟩ = some (.int .i64 1) ∧ w4.cell? ⟨gU, 7, none⟩ = some (.int .i64 0) ∧ w4.cell? ⟨gU, 8, none⟩ = some (.int .i64 0) := hc 2 _ rfl
  obtain ⟨y30, y31, y32⟩ : w4.cell? ⟨gU, 9, none⟩ = some (.int .i64 0) ∧ w4.cell? ⟨gU, 10, none⟩ = some (.int .i64 0) ∧ w4.cell? ⟨gU, 11, none⟩ = some (.int .i64 0) := hc 3 _ rfl
  obtain ⟨y40, y41, y42⟩ : w4.cell? ⟨gU, 12, none⟩ = some (.int .i64 1) ∧ w4.cell? ⟨gU, 13, none⟩ = some (.int .i64 0) ∧ w4.cell? ⟨gU, 14, none⟩ = some (.int .i64 0) := hc 4 _ rfl
  obtain ⟨y60, y61, y62⟩ : w4.cell? ⟨gU, 18, none⟩ = some (.int .i64 0) ∧ w4.cell? ⟨gU, 19, none⟩ = some (.int .i64 0) ∧ w4.cell? ⟨gU, 20, none⟩ = some (.int .i64 0) := hc 6 _ rfl
  have z20 : w4.cell? ⟨b, o + 8, none⟩ = some (.int .i64 3) := HS4.out.2 2 _ rfl 0 _ rfl
  have z21 : w4.cell? ⟨b, o + 9, none⟩ = some (.int .i64 0) := HS4.out.2 2 _ rfl 1 _ rfl
  have z22 : w4.cell? ⟨b, o + 10, none⟩ = some (.int .i64 1) := HS4.out.2 2 _ rfl 2 _ rfl
  have z23 : w4.cell? ⟨b, o + 11, none⟩ = some (.int .i64 0) := HS4.out.2 2 _ rfl 3 _ rfl
  have z60 : w4.cell? ⟨b, o + 24, none⟩ = some (.int .i64 8) := HS4.out.2 6 _ rfl 0 _ rfl
  have z61 : w4.cell? ⟨b, o + 25, none⟩ = some (.int .i64 3) := HS4.out.2 6 _ rfl 1 _ rfl
  have z62 : w4.cell? ⟨b, o + 26, none⟩ = some (.int .i64 5) := HS4.out.2 6 _ rfl 2 _ rfl
  have z63 : w4.cell? ⟨b, o + 27, none⟩ = some (.int .i64 0) := HS4.out.2 6 _ rfl 3 _ rfl
  have q1 := eq_steps 3 0 1 0
  have q2 := eq_steps 8 3 5 0
  have q3 := eq_units (x0 := 1) (x1 := 0) (x2 := 0) (y0 := 1) (y1 := 0) (y2 := 0) (q := true) rfl
  have q4 := eq_units (x0 := 0) (x1 := 0) (x2 := 0) (y0 := 0) (y1 := 0) (y2 := 0) (q := true) rfl
  clear hc HO4
  go_upto_region 8 with fail
  go_quiet (fail)
  go_wp2_with fail
  clear y20 y21 y22 y30 y31 y32 y40 y41 y42 y60 y61 y62 z20 z21 z22 z23 z60 z61 z62 z63 q1 q2 q3 q4 f0 f1 f2 n0 n1 n2 HS4 KC4
  refine (fails_calls (t := t1) p1 _).mono ?_
  rintro e w5 ⟨rfl, hb⟩
  have KF5 := Lib.hid (blk_below (blk_drewN KF4.out _) hb)
  have HC5 := Lib.hid (Kd.C_below (Kd.C_drewN HC4.out _) hb)
  have HB5 := Lib.hid (below_step (bdr HB4.out _) hb)
  clear hb KF4 HC4 HB4
  go_wp2_with fail
  refine (fails_calls (t := t2) p2 _).mono ?_
  rintro e w6 ⟨rfl, hb⟩
  have KF6 := Lib.hid (blk_below KF5.out hb)
  have HC6 := Lib.hid (Kd.C_below HC5.out hb)
  have HB6 := Lib.hid (below_step HB5.out hb)
  clear hb KF5 HC5 HB5
  go_wp2_with fail
  refine (fails_calls (t := t3) p3 _).mono ?_
  rintro e w7 ⟨rfl, hb⟩
  have KF7 := Lib.hid (blk_below KF6.out hb)
  have HC7 := Lib.hid (Kd.C_below HC6.out hb)
  have HB7 := Lib.hid (below_step HB6.out hb)
  clear hb KF6 HC6 HB6
  go_wp2_with fail
  refine (fails_calls (t := t4) p4 _).mono ?_
  rintro e w8 ⟨rfl, hb⟩
  have KF8 := Lib.hid (blk_below KF7.out hb)
  have HC8 := Lib.hid (Kd.C_below HC7.out hb)
  have HB8 := Lib.hid (below_step HB7.out hb)
  clear hb KF7 HC7 HB7
  have f0 := blk_cell KF8.out 0
  have f1 := blk_cell KF8.out 1
  have f2 := blk_cell KF8.out 2
  go_wp2_with fail
  refine (valid_t0 b o c _ HC8.out).mono ?_
  rintro e w9 ⟨rfl, hb⟩
  have HB9 := Lib.hid (below_step HB8.out hb)
  clear hb f0 f1 f2 KF8 HC8 HB8
  go_wp2_with fail
  refine (valid_nil _).mono ?_
  rintro e w10 ⟨rfl, hb⟩
  have HB10 := Lib.hid (below_step HB9.out hb)
  clear hb HB9
  go_wp2_with fail
  go_ret
  exact ⟨rfl, HB10.out⟩
def head33.f : Option Bool := some true
theorem head33.calls (r : Bool) (w : World) (h : head33.f = some r) : Calls Tryd.prog 10 #[] w fun e w' => e = .returned (.bool r) ∧ Below w.heap.size w w' := by
  obtain rfl := Option.some.inj h
  exact head33_calls w
end Go.Proofs.YtamabdijeklgjaaDoor.Ext
