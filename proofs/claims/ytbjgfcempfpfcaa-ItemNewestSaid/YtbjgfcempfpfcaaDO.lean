/- An item, a row of items, opened out of the data of an input. -/
import Derived.Test.YtbjgfcempfpfcaaAC
import Derived.Test.YtbjgfcempfpfcaaDJ
import Derived.Deep.Slices
namespace Go.Proofs.Ytbjgfcempfpfcaa
open Go.ChangeShapes Go.WideShapes Go.ChangeAt Go.RowKit

set_option maxRecDepth 100000 in
theorem item_of {H : Type} {enc : TypeId × Value → H} {W : World} {base : Nat} {sp : Nat → Bool} {hd : Bool} {fuel : Nat} {cs : List Value} {y : DataW H × List MemPlace} (hf : DataW.trod enc Try.prog W base sp hd fuel 40 cs = some y) :
    ∃ x : It, cs = x.cells.toList ∧ -9223372036854775808 ≤ x.version := by
  obtain ⟨xs, n, -, -, hz, hlen, hg⟩ := DataW.trod_struct Try.underlying40 hf
  have hz4 : cs.length = 4 := hz.trans (show Try.prog.cellsOf 40 = 4 by kernel_rfl)
  have c1 : Try.prog.cellsOf 3 = 1 := by kernel_rfl
  have c2 : Try.prog.cellsOf 9 = 1 := by kernel_rfl
  have c3 : Try.prog.cellsOf 4 = 1 := by kernel_rfl
  have some_of : ∀ k, k < 4 → ∃ y, xs[k]? = some y := fun k hk => ⟨_, List.getElem?_eq_getElem (by rw [hlen]; exact hk)⟩
  match cs, hz4 with
  | [a0, a1, a2, a3], _ =>
    obtain ⟨y0, e0⟩ := some_of 0 (by omega)
    obtain ⟨y1, e1⟩ := some_of 1 (by omega)
    obtain ⟨y2, e2⟩ := some_of 2 (by omega)
    obtain ⟨y3, e3⟩ := some_of 3 (by omega)
    have g0 : DataW.trod enc Try.prog W base sp hd n 9 (List.take (Try.prog.cellsOf 9) (List.drop 0 [a0, a1, a2, a3])) = some y0 := (hg 0 _ rfl).trans e0
    have g1 : DataW.trod enc Try.prog W base sp hd n 3 (List.take (Try.prog.cellsOf 3) (List.drop 1 [a0, a1, a2, a3])) = some y1 := (hg 1 _ rfl).trans e1
    have g2 : DataW.trod enc Try.prog W base sp hd n 3 (List.take (Try.prog.cellsOf 3) (List.drop 2 [a0, a1, a2, a3])) = some y2 := (hg 2 _ rfl).trans e2
    have g3 : DataW.trod enc Try.prog W base sp hd n 4 (List.take (Try.prog.cellsOf 4) (List.drop 3 [a0, a1, a2, a3])) = some y3 := (hg 3 _ rfl).trans e3
    simp only [c1, c2, c3, List.drop_zero, List.drop_succ_cons, List.take_succ_cons, List.take_zero] at g0 g1 g2 g3
    obtain ⟨k, i0, -, -⟩ := DataW.trod_string Try.underlying9 g0
    obtain ⟨v, i1, -, -⟩ := DataW.trod_int Try.underlying3 g1
    obtain ⟨m, i2, -, hw⟩ := DataW.trod_int Try.underlying3 g2
    obtain ⟨g, i3, -⟩ := DataW.trod_bool Try.underlying4 g3
    simp only [List.cons.injEq, and_true] at i0 i1 i2 i3
    subst i0 i1 i2 i3
    refine ⟨⟨k, v, m, g⟩, rfl, ?_⟩
    simp only [Lit.wf, Bool.and_eq_true, decide_eq_true_eq] at hw
    have h1 : IntKind.min .i64 = -9223372036854775808 := by decide
    rw [h1] at hw
    exact hw.1
set_option maxRecDepth 100000 in
theorem open_item {H : Type} {enc : TypeId × Value → H} {W : World} {r : Reach} {b0 : Nat} {v : Value} {d : DataW H} {p : List MemPlace} (hv : Value.okWide Try.prog W r b0 40 v) (h : DataW.Trod enc Try.prog W 0 (fun _ => true) true 40 v d p) :
    ∃ x : It, v = x.v ∧ -9223372036854775808 ≤ x.version := by
  obtain ⟨cs, rfl, hsz⟩ := okWide_struct Try.underlying40 hv
  obtain ⟨fuel, hf⟩ := h
  obtain ⟨x, hx, hm⟩ := item_of hf
  obtain ⟨cl⟩ := cs
  simp only [Value.cells] at hx
  exact ⟨x, by rw [It.v]; congr 1; exact Array.ext' hx, hm⟩
set_option maxRecDepth 100000 in
theorem open_items {H : Type} {enc : TypeId × Value → H} {W : World} {r : Reach} {b0 : Nat} {v : Value} {d : DataW H} {p : List MemPlace} (hv : Value.okWide Try.prog W r b0 44 v) (h : DataW.Trod enc Try.prog W 0 (fun _ => true) true 44 v d p) :
    ∃ (A : Option Addr) (l : List It) (c : Nat), v = .slice A l.length c ∧ SlI W A c l := by
  obtain ⟨a0, len0, cap0, rfl⟩ := okWide_slice Try.underlying44 hv
  obtain ⟨fuel, hu⟩ := h
  rcases Deep.open_slice Try.underlying44 hu with ⟨hc, -⟩ | ⟨a, len, cap, m, n, D, Pl, hc, -, hl, -, hm, -, hi⟩
  · simp only [Value.cells, List.cons.injEq, and_true] at hc
    exact ⟨none, [], 0, hc, SlI.nil W⟩
  · simp only [if_true] at hm
    simp only [Value.cells, List.cons.injEq, and_true] at hc
    have c4 : Try.prog.cellsOf 40 = 4 := by kernel_rfl
    have hX : ∀ i, ∃ x : It, i < m → ∀ j u, x.cells.toList[j]? = some u → W.cell? ((a.add (i * 4)).add j) = some u := by
      intro i
      by_cases him : i < m
      · obtain ⟨cs', h1, h2⟩ := hi i him
        rw [c4] at h1
        obtain ⟨x, hx, -⟩ := item_of h2
        obtain ⟨-, hn, hcell⟩ := World.cells?_some h1
        refine ⟨x, fun _ j u hj => ?_⟩
        have hj4 : j < 4 := by
          have := (List.getElem?_eq_some_iff.1 hj).1
          exact this
        rw [hcell j hj4, hx]
        exact hj
      · exact ⟨It.zero, fun h => absurd h him⟩
    obtain ⟨X, hX⟩ := Classical.axiomOfChoice hX
    have hll : ((List.range len).map X).length = len := by simp
    refine ⟨some a, (List.range len).map X, cap, by rw [hc, hll], by rw [hll]; exact hl, fun e => (by cases e), fun hn => ?_⟩
    rw [hll] at hn
    have h0 := hX 0 (by omega) 0 _ rfl
    have e0 : (a.add (0 * 4)).add 0 = a := by simp [Addr.add]
    rw [e0] at h0
    have hb := cell_block h0
    obtain ⟨b, off, sp⟩ := a
    obtain ⟨hb1, hb2⟩ := hb
    dsimp only at hb1 hb2
    subst hb1
    refine ⟨b, off, rfl, hb2, fun k hk j u hu => ?_⟩
    rw [hll] at hk
    have e1 : nthI ((List.range len).map X) k = X k := by simp [nthI, hk]
    rw [e1] at hu
    have := hX k (by omega) j u hu
    rw [addr_add, addr_add] at this
    exact this
end Go.Proofs.Ytbjgfcempfpfcaa
