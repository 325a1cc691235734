/- What the walks of the laws of layer 15 keep: boxes of views made on the way, whose cells are set. -/
import Derived.Test.YtbjgfcempfpfcaaDoorZ
import Derived.Test.YtbjgfcempfpfcaaDoorBA
namespace Go.Proofs.YtbjgfcempfpfcaaDoor
open Go.RowKit Go.Shelf

theorem Sl.setNew {W0 W : World} {A : Option Addr} {c : Nat} {xs : List Int} (h0 : Sl W0 A c xs) (h : Sl W A c xs) (p : Addr) (v : Value) (hp : W0.heap.size ≤ p.block) : Sl (W.setCell p v) A c xs :=
  h.set2 p v fun hn b off e => by
    obtain ⟨b', off', e', hlt, _⟩ := h0.at_ hn
    rw [e] at e'; injection e' with e'; injection e' with e1 _ _; omega
theorem RepV.setNew {W0 W : World} {x : View} {A1 A2 : Option Addr} {c1 c2 : Nat} (h0 : RepV W0 x A1 c1 A2 c2) (h : RepV W x A1 c1 A2 c2) (p : Addr) (v : Value) (hp : W0.heap.size ≤ p.block) : RepV (W.setCell p v) x A1 c1 A2 c2 :=
  ⟨h0.base.setNew h.base p v hp, h0.list.setNew h.list p v hp⟩
theorem Has.setNew {w W0 W : World} {B : Nat} {x : View} {A1 A2 : Option Addr} {c1 c2 : Nat} (h0 : RepV W0 x A1 c1 A2 c2) (h : Has w W B x A1 c1 A2 c2) (p : Addr) (v : Value) (hp : W0.heap.size ≤ p.block) (hne : B ≠ p.block) : Has w (W.setCell p v) B x A1 c1 A2 c2 :=
  ⟨h.box.other hne v, h0.setNew h.rep p v hp⟩
theorem Has.setPred {w W0 W : World} {B : Nat} {x : View} {A1 A2 : Option Addr} {c1 c2 : Nat} (h0 : RepV W0 x A1 c1 A2 c2) (h : Has w W B x A1 c1 A2 c2) (n : Int) (hp : W0.heap.size ≤ B) : Has w (W.setCell ⟨B, 3, none⟩ (.int .i64 n)) B (x.withPred n) A1 c1 A2 c2 :=
  ⟨h.box.setPred n, (h0.setNew h.rep _ _ hp).base, (h0.setNew h.rep _ _ hp).list⟩
theorem Has.setId {w W0 W : World} {B : Nat} {x : View} {A1 A2 : Option Addr} {c1 c2 : Nat} (h0 : RepV W0 x A1 c1 A2 c2) (h : Has w W B x A1 c1 A2 c2) (n : Int) (hp : W0.heap.size ≤ B) : Has w (W.setCell ⟨B, 0, none⟩ (.int .i64 n)) B (x.withId n) A1 c1 A2 c2 :=
  ⟨h.box.setId n, (h0.setNew h.rep _ _ hp).base, (h0.setNew h.rep _ _ hp).list⟩

theorem gonelaw_cases {x : View} (hr : rightV x = true) (d : Int) (P : Prop)
    (c1 : ((goneV x d).pred != x.pred) = false → ((goneV x d).pred == d) = false → P)
    (c2 : ((goneV x d).pred != x.pred) = false → ((goneV x d).pred == d) = true → decide (0 ≤ d) = false → P)
    (c3 : ((goneV x d).pred != x.pred) = false → ((goneV x d).pred == d) = true → decide (0 ≤ d) = true → decide (d ∈ x.base) = true → P)
    (c4 : ((goneV x d).pred != x.pred) = true → ((goneV x d).pred != -1) = false → (x.pred != d) = false → decide (d ∈ x.base) = false → ((goneV x d).pred == d) = false → P) : P := by
  cases e1 : ((goneV x d).pred != x.pred) with
  | true =>
    obtain ⟨h1, h2, h3⟩ := gone_changed e1
    refine c4 e1 h1 h2 h3 ?_
    simp only [bne_iff_ne, ne_eq, bne_eq_false_iff_eq] at e1 h2
    exact beq_eq_false_iff_ne.2 fun h => e1 (h.trans h2.symm)
  | false =>
    cases e2 : ((goneV x d).pred == d) with
    | false => exact c1 e1 e2
    | true =>
      cases e3 : decide (0 ≤ d) with
      | false => exact c2 e1 e2 e3
      | true => exact c3 e1 e2 e3 (gone_left hr e2 e3)
theorem onelaw_cases {x : View} (hr : rightV x = true) (n : Int) (P : Prop)
    (c1 : decide (0 ≤ x.pred) = true → P)
    (c2 : decide (0 ≤ x.pred) = false → decide (n < 0) = true → P)
    (c3 : decide (0 ≤ x.pred) = false → decide (n < 0) = false → decide (65536 ≤ n) = true → P)
    (c4 : decide (0 ≤ x.pred) = false → decide (n < 0) = false → decide (65536 ≤ n) = false → (n == x.id) = true → P)
    (c5 : decide (0 ≤ x.pred) = false → decide (n < 0) = false → decide (65536 ≤ n) = false → (n == x.id) = false → ((notifyV x [n]).pred == n) = true → P) : P := by
  cases e1 : decide (0 ≤ x.pred) with
  | true => exact c1 e1
  | false =>
    cases e2 : decide (n < 0) with
    | true => exact c2 e1 e2
    | false =>
      cases e3 : decide (65536 ≤ n) with
      | true => exact c3 e1 e2 e3
      | false =>
        cases e4 : (n == x.id) with
        | true => exact c4 e1 e2 e3 e4
        | false => exact c5 e1 e2 e3 e4 (by rw [one_pred hr e1 e2 e3 e4]; simp)
end Go.Proofs.YtbjgfcempfpfcaaDoor
