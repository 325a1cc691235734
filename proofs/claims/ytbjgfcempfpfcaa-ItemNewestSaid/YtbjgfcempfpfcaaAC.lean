/- The row of RectBad (begun). -/
import Derived.Test.YtbjgfcempfpfcaaRows
import Derived.Test.YtbjgfcempfpfcaaAA
import Derived.Test.YtbjgfcempfpfcaaZ
import Derived.OpenShut
namespace Go.Proofs.Ytbjgfcempfpfcaa
open Go.ChangeShapes Go.WideShapes Go.ChangeAt Go.RowKit

theorem Try.own : ownKnob Try.prog.godebug = none := by kernel_rfl
theorem Try.laidOut : laidOutB Try.prog = true := by kernel_rfl

set_option maxRecDepth 100000 in
theorem open_view {H : Type} {enc : TypeId × Value → H} {W : World} {r : Reach} {b0 : Nat} {v : Value} {d : DataW H} {p : List MemPlace} (hv : Value.okWide Try.prog W r b0 25 v) (h : DataW.Trod enc Try.prog W 0 (fun _ => true) true 25 v d p) :
    ∃ (x : View) (A1 : Option Addr) (c1 : Nat) (A2 : Option Addr) (c2 : Nat), v = x.v A1 c1 A2 c2 ∧ Sl0 W A1 c1 x.base ∧ Sl0 W A2 c2 x.list := by
  obtain ⟨cs, rfl, hsz⟩ := okWide_struct Try.underlying25 hv
  obtain ⟨fuel, hf⟩ := h
  obtain ⟨xs, n, _, hx, _, hlen, hg⟩ := DataW.trod_struct Try.underlying25 hf
  obtain ⟨cl⟩ := cs
  have hz : cl.length = 20 := by have := hsz.trans (show Try.prog.cellsOf 25 = 20 by kernel_rfl); simpa using this
  have c1 : Try.prog.cellsOf 3 = 1 := by kernel_rfl
  have c2 : Try.prog.cellsOf 22 = 1 := by kernel_rfl
  have c3 : Try.prog.cellsOf 23 = 16 := by kernel_rfl
  have some_of : ∀ k, k < 5 → ∃ y, xs[k]? = some y := fun k hk => ⟨_, List.getElem?_eq_getElem (by rw [hlen]; exact hk)⟩
  match cl, hz with
  | [a0, a1, a2, a3, a4, a5, a6, a7, a8, a9, a10, a11, a12, a13, a14, a15, a16, a17, a18, a19], _ =>
    obtain ⟨y0, e0⟩ := some_of 0 (by omega)
    obtain ⟨y1, e1⟩ := some_of 1 (by omega)
    obtain ⟨y2, e2⟩ := some_of 2 (by omega)
    obtain ⟨y3, e3⟩ := some_of 3 (by omega)
    obtain ⟨y4, e4⟩ := some_of 4 (by omega)
    have g0 : DataW.trod enc Try.prog W 0 (fun _ => true) true n 3 (List.take (Try.prog.cellsOf 3) (List.drop 0 [a0, a1, a2, a3, a4, a5, a6, a7, a8, a9, a10, a11, a12, a13, a14, a15, a16, a17, a18, a19])) = some y0 := (hg 0 _ rfl).trans e0
    have g1 : DataW.trod enc Try.prog W 0 (fun _ => true) true n 22 (List.take (Try.prog.cellsOf 22) (List.drop 1 [a0, a1, a2, a3, a4, a5, a6, a7, a8, a9, a10, a11, a12, a13, a14, a15, a16, a17, a18, a19])) = some y1 := (hg 1 _ rfl).trans e1
    have g2 : DataW.trod enc Try.prog W 0 (fun _ => true) true n 22 (List.take (Try.prog.cellsOf 22) (List.drop 2 [a0, a1, a2, a3, a4, a5, a6, a7, a8, a9, a10, a11, a12, a13, a14, a15, a16, a17, a18, a19])) = some y2 := (hg 2 _ rfl).trans e2
    have g3 : DataW.trod enc Try.prog W 0 (fun _ => true) true n 3 (List.take (Try.prog.cellsOf 3) (List.drop 3 [a0, a1, a2, a3, a4, a5, a6, a7, a8, a9, a10, a11, a12, a13, a14, a15, a16, a17, a18, a19])) = some y3 := (hg 3 _ rfl).trans e3
    have g4 : DataW.trod enc Try.prog W 0 (fun _ => true) true n 23 (List.take (Try.prog.cellsOf 23) (List.drop 4 [a0, a1, a2, a3, a4, a5, a6, a7, a8, a9, a10, a11, a12, a13, a14, a15, a16, a17, a18, a19])) = some y4 := (hg 4 _ rfl).trans e4
    simp only [c1, c2, c3, Value.cells, List.drop_zero, List.drop_succ_cons, List.take_succ_cons, List.take_zero] at g0 g1 g2 g3 g4
    obtain ⟨id, i0, -, -⟩ := DataW.trod_int Try.underlying3 g0
    obtain ⟨pr, i3, -, -⟩ := DataW.trod_int Try.underlying3 g3
    simp only [List.cons.injEq, and_true] at i0 i3
    subst i0; subst i3
    obtain ⟨ys, m, -, -, -, hyl, hya⟩ := DataW.trod_array Try.underlying23 g4
    have fi : ∀ k, k < 16 → ∃ z, (([a4, a5, a6, a7, a8, a9, a10, a11, a12, a13, a14, a15, a16, a17, a18, a19] : List Value).drop k).take 1 = [.int .i64 z] := fun k hk => by
      have h1 := hya k hk
      rw [c1, Nat.mul_one, List.getElem?_eq_getElem (by rw [hyl]; exact hk)] at h1
      obtain ⟨z, hz, -, -⟩ := DataW.trod_int Try.underlying3 h1
      exact ⟨z, hz⟩
    obtain ⟨z0, j0⟩ := fi 0 (by omega)
    obtain ⟨z1, j1⟩ := fi 1 (by omega)
    obtain ⟨z2, j2⟩ := fi 2 (by omega)
    obtain ⟨z3, j3⟩ := fi 3 (by omega)
    obtain ⟨z4, j4⟩ := fi 4 (by omega)
    obtain ⟨z5, j5⟩ := fi 5 (by omega)
    obtain ⟨z6, j6⟩ := fi 6 (by omega)
    obtain ⟨z7, j7⟩ := fi 7 (by omega)
    obtain ⟨z8, j8⟩ := fi 8 (by omega)
    obtain ⟨z9, j9⟩ := fi 9 (by omega)
    obtain ⟨z10, j10⟩ := fi 10 (by omega)
    obtain ⟨z11, j11⟩ := fi 11 (by omega)
    obtain ⟨z12, j12⟩ := fi 12 (by omega)
    obtain ⟨z13, j13⟩ := fi 13 (by omega)
    obtain ⟨z14, j14⟩ := fi 14 (by omega)
    obtain ⟨z15, j15⟩ := fi 15 (by omega)
    simp only [List.drop_zero, List.drop_succ_cons, List.take_succ_cons, List.take_zero, List.cons.injEq, and_true] at j0 j1 j2 j3 j4 j5 j6 j7 j8 j9 j10 j11 j12 j13 j14 j15
    subst j0 j1 j2 j3 j4 j5 j6 j7 j8 j9 j10 j11 j12 j13 j14 j15
    have row : ∀ (u : Value) (y : DataW H × List MemPlace), DataW.trod enc Try.prog W 0 (fun _ => true) true n 22 [u] = some y → ∃ (A : Option Addr) (l : List Int) (c : Nat), u = .slice A l.length c ∧ Sl0 W A c l := fun u y hu => by
      rcases open_ints Try.underlying22 Try.underlying3 c1 hu with ⟨hc, -⟩ | ⟨a, len, cap, zl, hc, -, hl, -, hzl, -, hcell, -⟩
      · simp only [List.cons.injEq, and_true] at hc
        exact ⟨none, [], 0, hc, Nat.le_refl _, fun _ => rfl, fun h => absurd h (by simp)⟩
      · simp only [List.cons.injEq, and_true] at hc
        simp only [if_true] at hzl
        refine ⟨some a, zl.take len, cap, by rw [hc]; simp; omega, sl_cells hl (by omega) hcell⟩
    obtain ⟨A1, l1, d1, rfl, s1⟩ := row _ _ g1
    obtain ⟨A2, l2, d2, rfl, s2⟩ := row _ _ g2
    exact ⟨⟨id, l1, l2, pr, fun k => ([z0, z1, z2, z3, z4, z5, z6, z7, z8, z9, z10, z11, z12, z13, z14, z15] : List Int).getD k 0⟩, A1, d1, A2, d2, rfl, s1, s2⟩

set_option maxRecDepth 100000 in
theorem open_row {H : Type} {enc : TypeId × Value → H} {W : World} {r : Reach} {b0 : Nat} {v : Value} {d : DataW H} {p : List MemPlace} (hv : Value.okWide Try.prog W r b0 22 v) (h : DataW.Trod enc Try.prog W 0 (fun _ => true) true 22 v d p) :
    ∃ (A : Option Addr) (l : List Int) (c : Nat), v = .slice A l.length c ∧ Sl0 W A c l := by
  obtain ⟨a0, len0, cap0, rfl⟩ := okWide_slice Try.underlying22 hv
  obtain ⟨fuel, hu⟩ := h
  rcases open_ints Try.underlying22 Try.underlying3 (by kernel_rfl) hu with ⟨hc, -⟩ | ⟨a, len, cap, zl, hc, -, hl, -, hzl, -, hcell, -⟩
  · simp only [Value.cells, List.cons.injEq, and_true] at hc
    exact ⟨none, [], 0, hc, Nat.le_refl _, fun _ => rfl, fun h => absurd h (by simp)⟩
  · simp only [if_true] at hzl
    simp only [Value.cells, List.cons.injEq, and_true] at hc
    exact ⟨some a, zl.take len, cap, by rw [hc, List.length_take, Nat.min_eq_left (by omega)], sl_cells hl (by omega) hcell⟩

theorem rep_of {W : World} {x : View} {A1 A2 : Option Addr} {c1 c2 : Nat} (s1 : Sl0 W A1 c1 x.base) (s2 : Sl0 W A2 c2 x.list) (hg : greatV x = false) : RepV W x A1 c1 A2 c2 := by
  simp only [greatV, Bool.or_eq_false_iff, decide_eq_false_iff_not] at hg
  exact ⟨s1.sl (by omega), s2.sl (by omega)⟩

set_option maxRecDepth 100000 in
theorem rectBad_lifted (os : Os) (started : os.Started) (H : Type) (enc : TypeId × Value → H) :
    ReturnsInHanded {} Try.checked os 7 .any (Rows.rectBadSpec.pre6 enc Try.prog Try.f7 Rows.rectBadRow.domain false) (Rows.rectBadSpec.post enc Try.prog Try.f7 false true false false) := by
  refine returnsInHanded_of_change (C := Try.checked) Try.own started (by kernel_rfl) Try.func7
    (ChangeSpec.witness6 (enc := enc) (C := Try.checked) false ⟨#[], #[.agg #[.int .i64 0, .slice none 0 0, .slice none 0 0, .int .i64 0, .int .i64 0, .int .i64 0, .int .i64 0, .int .i64 0, .int .i64 0, .int .i64 0, .int .i64 0, .int .i64 0, .int .i64 0, .int .i64 0, .int .i64 0, .int .i64 0, .int .i64 0, .int .i64 0, .int .i64 0, .int .i64 0], .int .i64 0, .slice none 0 0], []⟩ 8 (by kernel_rfl) (by kernel_rfl) (by kernel_rfl) (by kernel_rfl)) ?_
  intro W base args ds gs before hval0 hW _ _
  have hval : ∀ (j : Nat) t v, Try.f7.params[j]? = some t → args[j]? = some v → Value.okWide Try.prog W .any base t v := hval0
  have hW' := hW
  obtain ⟨p, q, hA0, hV, rfl, hfz, hnd⟩ := hW
  have hA : DataW.TrodAll enc Try.prog W 0 (fun _ => true) true Try.f7.params.toList args.toList ds p := hA0
  rw [Try.params7] at hA hval
  obtain ⟨v0, v1, v2, d0, d1, d2, p0, p1, p2, rfl, rfl, rfl, h0, h1, h2⟩ := trodAll_three hA
  obtain ⟨rfl, rfl⟩ := trodVars_none hV
  have h0k := h0
  have h2k := h2
  obtain ⟨x, A1, c1, A2, c2, rfl, s1, s2⟩ := open_view (hval 0 25 v0 rfl rfl) h0
  obtain ⟨n, rfl, rfl, rfl, wn⟩ := open_int Try.underlying3 (hval 1 3 v1 rfl rfl) h1
  obtain ⟨A3, l, c3, rfl, s3⟩ := open_row (hval 2 22 v2 rfl rfl) h2
  clear hA0 hval0
  simp only [List.append_nil] at hW'
  have hlt : ∀ z ∈ p0 ++ [] ++ p2, z.block < W.heap.size := fun z hz => by simpa using hW'.lt z (by simpa using hz)
  refine (law_RectBad x A1 A2 c1 c2 n A3 c3 l W (rep_of s1 s2) (fun hl => s3.sl (by simp at hl; omega))).mono fun e W' ⟨he, hb⟩ => ?_
  subst he
  refine ⟨_, rfl, _, _, _, [], p0 ++ ([] ++ p2), [], hW', trodAll_mk1 (shut_bool Try.underlying4 true), ?_, rfl, hb.frame _, fun h => by cases h⟩
  exact trodAll_mk3 (Below.trod Try.laidOut (by kernel_rfl) (of_decide_eq_true (by kernel_rfl)) h0k hb (fun z hz => hlt z (by simp [hz]))) (shut_int Try.underlying3 wn) (Below.trod Try.laidOut (by kernel_rfl) (of_decide_eq_true (by kernel_rfl)) h2k hb (fun z hz => hlt z (by simp [hz])))

theorem rectBad_holds : Rows.RectBadSaid :=
  OpenClaim.holds_of_wide 7 Try.f7 rfl rfl rfl rfl rfl rfl rfl ⟨rfl, rfl, rfl, rfl, rfl⟩ rfl rfl rfl rfl rfl (by kernel_rfl) Try.func7 (by kernel_rfl)
    (of_decide_eq_true (by kernel_rfl)) (by unfold Func.isWrapper; first | (rw [if_pos (by decide +kernel)]; kernel_rfl) | (rw [if_neg (by decide +kernel)]; exact ⟨rfl, rfl⟩))
    (fun os started H enc _ => rectBad_lifted os started H enc)
end Go.Proofs.Ytbjgfcempfpfcaa
