/- The law RectOwns. -/
import Derived.Test.YtbjgfcempfpfcaaDoorBC
namespace Go.Proofs.YtbjgfcempfpfcaaDoor
open Go.RowKit Go.Shelf

def ApartV (x : View) (A1 A2 : Option Addr) (B : Nat) : Prop := (0 < x.base.length → ∀ b off, A1 = some ⟨b, off, none⟩ → b ≠ B) ∧ (0 < x.list.length → ∀ b off, A2 = some ⟨b, off, none⟩ → b ≠ B)
theorem ApartV.old {W : World} {x : View} {A1 A2 : Option Addr} {c1 c2 B : Nat} (h : RepV W x A1 c1 A2 c2) (hB : W.heap.size ≤ B) : ApartV x A1 A2 B :=
  ⟨fun hn b off e => by have := h.base.lt hn e; omega, fun hn b off e => by have := h.list.lt hn e; omega⟩
theorem ApartV.fresh (x : View) {A1 A2 : Option Addr} {s B : Nat} (h1 : ∀ b off, A1 = some ⟨b, off, none⟩ → s ≤ b) (h2 : ∀ b off, A2 = some ⟨b, off, none⟩ → s ≤ b) (hB : B < s) : ApartV x A1 A2 B :=
  ⟨fun _ b off e => by have := h1 b off e; omega, fun _ b off e => by have := h2 b off e; omega⟩
theorem Sl.row2 {w : World} {A : Option Addr} {c : Nat} {xs : List Int} (h : Sl w A c xs) (g : Nat) (cs : Array Value) (hk : 0 < xs.length → ∀ b off, A = some ⟨b, off, none⟩ → b ≠ g) : Sl (w.setRow g cs) A c xs :=
  ⟨h.cap, h.small, h.nil_, fun hn => by
    obtain ⟨b, off, e, hlt, hc⟩ := h.at_ hn
    exact ⟨b, off, e, by rw [size_setRow]; exact hlt, fun k hkk => (World.cell?_of_block (a := ⟨b, off + k, none⟩) (heap_setRow w g cs b (hk hn b off e))).trans (hc k hkk)⟩⟩
theorem RepV.rowA {W : World} {x : View} {A1 A2 : Option Addr} {c1 c2 B : Nat} (h : RepV W x A1 c1 A2 c2) (cs : Array Value) (ha : ApartV x A1 A2 B) : RepV (W.setRow B cs) x A1 c1 A2 c2 := ⟨h.base.row2 B cs ha.1, h.list.row2 B cs ha.2⟩
theorem RepV.setA {W : World} {x : View} {A1 A2 : Option Addr} {c1 c2 : Nat} {p : Addr} (h : RepV W x A1 c1 A2 c2) (v : Value) (ha : ApartV x A1 A2 p.block) : RepV (W.setCell p v) x A1 c1 A2 c2 := ⟨h.base.set2 p v ha.1, h.list.set2 p v ha.2⟩
theorem alloc_step {W W' : World} (e : W.alloc (.cells (View.zero.cells none 0 none 0) 25) = W') : VBox W' W.heap.size View.zero none 0 none 0 ∧ Below W.heap.size W W' := by
  subst e; exact ⟨VBox.new W View.zero none 0 none 0, (Below.refl _ W).alloc (Nat.le_refl _) _⟩
theorem name_K {K : Act → World → Prop} {a : Act} {W : World} (h : ∀ W', W = W' → K a W') : K a W := h W rfl
theorem region_held_named {P : Program} {ops : Array Oper} {Q : Exit → Act → World → Prop} {S : World → Prop} {id : Nat} {a : Act} {w : World} (hm : P.follows .mixedOrders = true) (hS : S w.drew)
    (h : ∀ V, S V → wpAnyH P .any ops Q S ops.size (Array.replicate ops.size false) a V) : (Code.region id ops true).wp P Q a w := wp_region_held_drew hm hS (h _)

/-- The other side while its fingers are being set. -/
def partF (x : View) (n : Int) (j : Nat) : View := ⟨n, x.base, [], x.id, fun i => if i < j then -1 else x.f i⟩
theorem partF_next (x : View) (n : Int) (k : Nat) : (partF x n k).withF k (-1) = partF x n (k + 1) := by
  simp only [partF, View.withF, View.mk.injEq, true_and]
  funext j
  by_cases h1 : j = k
  · subst h1; simp
  · by_cases h2 : j < k
    · simp [h2, show j < k + 1 by omega]
    · simp [h1, h2, show ¬ j < k + 1 by omega]

theorem own_set {w W : World} {x : View} {A1 A2 E1 E2 F1 F2 : Option Addr} {c1 c2 e1 e2 f1 f2 B7 B8 : Nat} (h : RepV w x A1 c1 A2 c2) (hv : Has w W w.heap.size x A1 c1 A2 c2) (ha : Has w W B7 x E1 e1 E2 e2) (hb : Has w W B8 x F1 f1 F2 f2) (hB : Below w.heap.size w W)
    (l7 : w.heap.size < B7) (l8 : w.heap.size < B8) (n78 : B7 ≠ B8) (a17 : ApartV x E1 E2 B7) (a18 : ApartV x E1 E2 B8) (a37 : ApartV x F1 F2 B7) (a38 : ApartV x F1 F2 B8) (n : Int) :
    let W4 := (((W.setCell ⟨B7, 3, none⟩ (.int .i64 n)).setCell ⟨B8, 0, none⟩ (.int .i64 n)).setCell ⟨B8, 3, none⟩ (.int .i64 x.id)).setCell ⟨B8, 2, none⟩ (.slice none 0 0)
    Has w W4 w.heap.size x A1 c1 A2 c2 ∧ Has w W4 B7 (x.withPred n) E1 e1 E2 e2 ∧ Has w W4 B8 (partF x n 0) F1 f1 none 0 ∧ Below w.heap.size w W4 := by
  have o7 := ApartV.old h (Nat.le_of_lt l7)
  have o8 := ApartV.old h (Nat.le_of_lt l8)
  have n0 := Nat.ne_of_lt l7
  have n1 := Nat.ne_of_lt l8
  refine ⟨⟨(((hv.box.other (p := ⟨B7, 3, none⟩) n0 _).other (p := ⟨B8, 0, none⟩) n1 _).other (p := ⟨B8, 3, none⟩) n1 _).other (p := ⟨B8, 2, none⟩) n1 _, ((((hv.rep.setA (p := ⟨B7, 3, none⟩) _ o7).setA (p := ⟨B8, 0, none⟩) _ o8).setA (p := ⟨B8, 3, none⟩) _ o8).setA (p := ⟨B8, 2, none⟩) _ o8)⟩,
    ⟨(((ha.box.setPred n).other (p := ⟨B8, 0, none⟩) n78 _).other (p := ⟨B8, 3, none⟩) n78 _).other (p := ⟨B8, 2, none⟩) n78 _, ?_⟩,
    ⟨?_, ?_, Sl.nil _⟩,
    (((hB.setCell (p := ⟨B7, 3, none⟩) (Nat.le_of_lt l7) _).setCell (p := ⟨B8, 0, none⟩) (Nat.le_of_lt l8) _).setCell (p := ⟨B8, 3, none⟩) (Nat.le_of_lt l8) _).setCell (p := ⟨B8, 2, none⟩) (Nat.le_of_lt l8) _⟩
  · have := ((((ha.rep.setA (p := ⟨B7, 3, none⟩) (.int .i64 n) a17).setA (p := ⟨B8, 0, none⟩) (.int .i64 n) a18).setA (p := ⟨B8, 3, none⟩) (.int .i64 x.id) a18).setA (p := ⟨B8, 2, none⟩) (.slice none 0 0) a18)
    exact ⟨this.base, this.list⟩
  · have h1 := (((hb.box.other (p := ⟨B7, 3, none⟩) n78.symm (.int .i64 n)).setId n).setPred x.id).setList none 0 []
    have he : (((x.withId n).withPred x.id).withList []) = partF x n 0 := by simp [View.withId, View.withPred, View.withList, partF]
    rw [he] at h1
    exact h1
  · exact ((((hb.rep.setA (p := ⟨B7, 3, none⟩) (.int .i64 n) a37).setA (p := ⟨B8, 0, none⟩) (.int .i64 n) a38).setA (p := ⟨B8, 3, none⟩) (.int .i64 x.id) a38).setA (p := ⟨B8, 2, none⟩) (.slice none 0 0) a38).base

theorem ownlaw_cases {x : View} (hr : rightV x = true) {n : Int} (hn : isPl n = true) (hne : (n == x.id) = false) (k : Int) (P : Prop)
    (c1 : decide (x.pred < 0) = true → P)
    (c2 : decide (x.pred < 0) = false → ownsV (notifyV x [n]) k = false → P)
    (c3 : decide (x.pred < 0) = false → ownsV (notifyV x [n]) k = true → ownsV x k = true → P) : P := by
  cases e1 : decide (x.pred < 0) with
  | true => exact c1 e1
  | false =>
    cases e2 : ownsV (notifyV x [n]) k with
    | false => exact c2 e1 e2
    | true => exact c3 e1 e2 (told_owns hr hn hne k e1 e2)

end Go.Proofs.YtbjgfcempfpfcaaDoor
