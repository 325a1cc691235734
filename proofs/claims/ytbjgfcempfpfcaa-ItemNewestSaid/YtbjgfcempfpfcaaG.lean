/- Views in memory of their own. -/
import Derived.Test.YtbjgfcempfpfcaaF
import Derived.Test.YtbjgfcempfpfcaaD
import Derived.Laws.Tables
import Derived.Deep.Cut
namespace Go.Proofs.Ytbjgfcempfpfcaa
open Go.RowKit Go.Shelf

theorem heap_setRow (w : World) (g : Nat) (cs : Array Value) (k : Nat) (h : k ≠ g) : (w.setRow g cs).heap[k]? = w.heap[k]? := by
  unfold World.setRow
  simp [Array.getElem?_modify, Ne.symm h]
theorem size_setRow (w : World) (g : Nat) (cs : Array Value) : (w.setRow g cs).heap.size = w.heap.size := by
  unfold World.setRow; simp
theorem below_setRow {B : Nat} {a w : World} (h : Below B a w) {g : Nat} (hg : B ≤ g) (cs : Array Value) : Below B a (w.setRow g cs) :=
  ⟨h.os, h.tape, h.output, by rw [size_setRow]; exact h.size, fun k hk => (heap_setRow w g cs k (by omega)).trans (h.block k hk)⟩

theorem heap_setCell_at (w : World) (b o : Nat) (v : Value) (cs : Array Value) (t : TypeId) (fr : Nat × Nat) (h : w.heap[b]? = some (.cells cs t fr)) : (w.setCell ⟨b, o, none⟩ v).heap[b]? = some (.cells (cs.setIfInBounds o v) t fr) := by
  unfold World.setCell
  have hlt := (Array.getElem?_eq_some_iff.1 h).1
  simp [Array.getElem?_modify, h]

theorem Sl.heap {w w' : World} {A : Option Addr} {c : Nat} {xs : List Int} (h : Sl w A c xs) (hs : w.heap.size ≤ w'.heap.size) (hk : ∀ b off, A = some ⟨b, off, none⟩ → w'.heap[b]? = w.heap[b]?) : Sl w' A c xs :=
  ⟨h.cap, h.small, h.nil_, fun hn => by
    obtain ⟨b, off, e, hlt, hc⟩ := h.at_ hn
    exact ⟨b, off, e, by omega, fun k hkk => (World.cell?_of_block (a := ⟨b, off + k, none⟩) (hk b off e)).trans (hc k hkk)⟩⟩
theorem Sl.set {w : World} {A : Option Addr} {c : Nat} {xs : List Int} (h : Sl w A c xs) (p : Addr) (v : Value) (hk : ∀ b off, A = some ⟨b, off, none⟩ → b ≠ p.block) : Sl (w.setCell p v) A c xs :=
  h.heap (by simp) fun b off e => Below.heap_setCell w p v b (hk b off e)
theorem Sl.row {w : World} {A : Option Addr} {c : Nat} {xs : List Int} (h : Sl w A c xs) (g : Nat) (cs : Array Value) (hk : ∀ b off, A = some ⟨b, off, none⟩ → b ≠ g) : Sl (w.setRow g cs) A c xs :=
  h.heap (by rw [size_setRow]; exact Nat.le_refl _) fun b off e => heap_setRow w g cs b (hk b off e)

/-- The view of nothing. -/
abbrev View.zero : View := ⟨0, [], [], 0, fun _ => 0⟩
def View.withPred (x : View) (p : Int) : View := { x with pred := p }
def View.withId (x : View) (p : Int) : View := { x with id := p }
def View.withF (x : View) (k : Nat) (v : Int) : View := { x with f := fun j => if j = k then v else x.f j }
def View.withList (x : View) (l : List Int) : View := { x with list := l }
def View.withBase (x : View) (l : List Int) : View := { x with base := l }

section
variable {W : World} {B : Nat} {x : View} {A1 A2 : Option Addr} {c1 c2 : Nat}
theorem VBox.setBase (h : VBox W B x A1 c1 A2 c2) (A : Option Addr) (c : Nat) (l : List Int) : VBox (W.setCell ⟨B, 1, none⟩ (.slice A l.length c)) B (x.withBase l) A c A2 c2 := heap_setCell_at W B 1 _ _ _ _ h
theorem VBox.setList (h : VBox W B x A1 c1 A2 c2) (A : Option Addr) (c : Nat) (l : List Int) : VBox (W.setCell ⟨B, 2, none⟩ (.slice A l.length c)) B (x.withList l) A1 c1 A c := heap_setCell_at W B 2 _ _ _ _ h
theorem VBox.setPred (h : VBox W B x A1 c1 A2 c2) (p : Int) : VBox (W.setCell ⟨B, 3, none⟩ (.int .i64 p)) B (x.withPred p) A1 c1 A2 c2 := heap_setCell_at W B 3 _ _ _ _ h
theorem VBox.setId (h : VBox W B x A1 c1 A2 c2) (p : Int) : VBox (W.setCell ⟨B, 0, none⟩ (.int .i64 p)) B (x.withId p) A1 c1 A2 c2 := heap_setCell_at W B 0 _ _ _ _ h
theorem VBox.setF (h : VBox W B x A1 c1 A2 c2) {k : Nat} (hk : k < 16) (v : Int) : VBox (W.setCell ⟨B, 4 + k, none⟩ (.int .i64 v)) B (x.withF k v) A1 c1 A2 c2 := by
  have := heap_setCell_at W B (4 + k) (.int .i64 v) _ _ _ h
  have hc : k = 0 ∨ k = 1 ∨ k = 2 ∨ k = 3 ∨ k = 4 ∨ k = 5 ∨ k = 6 ∨ k = 7 ∨ k = 8 ∨ k = 9 ∨ k = 10 ∨ k = 11 ∨ k = 12 ∨ k = 13 ∨ k = 14 ∨ k = 15 := by omega
  rcases hc with rfl | rfl | rfl | rfl | rfl | rfl | rfl | rfl | rfl | rfl | rfl | rfl | rfl | rfl | rfl | rfl <;> exact this
theorem VBox.setRow {y : View} {D1 D2 : Option Addr} {d1 d2 : Nat} (h : VBox W B y D1 d1 D2 d2) (x : View) (A1 A2 : Option Addr) (c1 c2 : Nat) : VBox (W.setRow B (x.cells A1 c1 A2 c2)) B x A1 c1 A2 c2 := setRow_heap W B _ _ _ _ h
theorem View.oneCell (x : View) (A1 A2 : Option Addr) (c1 c2 : Nat) : (x.cells A1 c1 A2 c2).all (·.oneCell') = true := by kernel_rfl
end

/-- A view of memory that the callee made, or was handed. -/
def RetV (w0 : World) (x : View) (e : Ending) (w' : World) : Prop := ∃ A1 c1 A2 c2, e = .returned (x.v A1 c1 A2 c2) ∧ RepV w' x A1 c1 A2 c2 ∧ Below w0.heap.size w0 w' ∧ (∀ b off, A1 = some ⟨b, off, none⟩ → w0.heap.size ≤ b) ∧ ∀ b off, A2 = some ⟨b, off, none⟩ → w0.heap.size ≤ b
theorem RepV.below {w w' : World} {x : View} {A1 A2 : Option Addr} {c1 c2 : Nat} (h : RepV w x A1 c1 A2 c2) (hb : Below w.heap.size w w') : RepV w' x A1 c1 A2 c2 := ⟨h.base.below hb, h.list.below hb⟩

/-- The world of a walk under a name of its own. -/
theorem name_world {P : Program} {c : Code} {Q : Exit → Act → World → Prop} {a : Act} {W : World} (h : ∀ W', W = W' → c.wp P Q a W') : c.wp P Q a W := h W rfl
/-- What a walk over views holds: the view's box, the box of the result, what was. -/
structure Two (w W : World) (B R : Nat) (x y : View) (A1 : Option Addr) (c1 : Nat) (A2 : Option Addr) (c2 : Nat) (D1 : Option Addr) (d1 : Nat) (D2 : Option Addr) (d2 : Nat) : Prop where
  box : VBox W B x A1 c1 A2 c2
  res : VBox W R y D1 d1 D2 d2
  b : Below w.heap.size w W
theorem Two.below {w W W' : World} {B R : Nat} {x y : View} {A1 A2 D1 D2 : Option Addr} {c1 c2 d1 d2 : Nat} (h : Two w W B R x y A1 c1 A2 c2 D1 d1 D2 d2) (hB : w.heap.size ≤ B) (hR : w.heap.size ≤ R) (hb : Below W.heap.size W W') : Two w W' B R x y A1 c1 A2 c2 D1 d1 D2 d2 :=
  ⟨h.box.below hb h.box.lt, h.res.below hb h.res.lt, h.b.trans (hb.mono h.b.size)⟩
theorem append_new {W w1 : World} {e : TypeId} {v1 : Value} {xs : List Int} {o : Obj} (h : w1.ownsRow W.heap.size e 1 v1 (0 + xs.length) ([] ++ iv xs)) (hg : (W.alloc o).grownBy w1 (Value.ownBlock (.slice (some ⟨W.heap.size, 0, none⟩) 0 0))) (hsm : xs.length ≤ 17592186044416) :
    ∃ A c, v1 = .slice A xs.length c ∧ Sl w1 A c xs ∧ (∀ b off, A = some ⟨b, off, none⟩ → W.heap.size ≤ b) ∧ Below W.heap.size W w1 := by
  obtain ⟨A, c, h1, h2, h3⟩ := sl_of_own (xs := xs) (by simpa using h) hsm
  exact ⟨A, c, h1, h2, h3, ((Below.refl W.heap.size W).alloc (Nat.le_refl _) _).grown hg (by simp) (fun k hk => by simp [Value.ownBlock] at hk; omega)⟩
theorem two_start {w W : World} {x : View} {A1 A2 : Option Addr} {c1 c2 : Nat} (h : (w.alloc (.cells (x.cells A1 c1 A2 c2) 25)).alloc (.cells (View.zero.cells none 0 none 0) 25) = W) : Two w W w.heap.size (w.heap.size + 1) x View.zero A1 c1 A2 c2 none 0 none 0 := by
  subst h
  refine ⟨(VBox.new w x A1 c1 A2 c2).alloc _, ?_, ((Below.refl _ _).alloc (Nat.le_refl _) _).alloc (by simp) _⟩
  have := VBox.new (w.alloc (.cells (x.cells A1 c1 A2 c2) 25)) View.zero none 0 none 0
  simpa using this

set_option maxRecDepth 100000 in
set_option maxHeartbeats 2000000 in
theorem r13_Own (x : View) (A1 A2 : Option Addr) (c1 c2 : Nat) (w : World) (h : RepV w x A1 c1 A2 c2) :
    Calls Try.prog 31 #[x.v A1 c1 A2 c2] w (RetV w x) := by
  obtain ⟨i0, hi, hz0, hz1, hz2⟩ := info_parts Try.info_int
  have hsm1 := h.base.small
  have hsm2 := h.list.small
  unfold View.v
  go_enter Try.func31, Try.ntmps31
  go_upto_region 1 with (fail)
  refine name_world fun W0 hW0 => ?_
  have hT := two_start hW0
  clear hW0
  have hV := hT.box
  have q1 := hV.cells.2.1
  have z0 := hV.lt
  have z1 := hT.res.lt
  go_upto_region 2 with (at_builtin; refine wpList_append_sl _ rfl (.tmp 3) (.tmp 5) _ rfl W0.heap.size 3 i0 _ 8 Try.underlying22 hi hz0 hz1 hz2 rfl (.slice (some ⟨W0.heap.size, 0, none⟩) 0 0) 0 [] rfl (World.ownsRow_lit W0 #[] 0 (Nat.le_refl _) (Nat.zero_le _) rfl) A1 c1 x.base rfl ((h.base.below hT.b).alloc _) ?h1 ?h2 ?h3 ?_; (case h1 => simp only [maxLen]; omega); (case h2 => omega); (case h3 => simp); intro v1 w1 hown1 hg1 hat1; obtain ⟨E1, f1, rfl, hs1, hf1, hb1⟩ := append_new hown1 hg1 hsm1; have hT1 := hT.below (Nat.le_refl _) (Nat.le_succ _) hb1; have q2 := hT1.box.cells.2.1; have q3 := hT1.box.frozen; clear hown1 hg1 hat1)
  have z2 := hT1.b.size
  have z3 := hb1.size
  refine name_world fun W1 hW1 => ?_
  have hT2 : Two w W1 w.heap.size (w.heap.size + 1) (x.withBase x.base) View.zero E1 f1 A2 c2 none 0 none 0 := by
    rw [← hW1]; exact ⟨hT1.box.setBase E1 f1 x.base, hT1.res.other (by simp) _, hT1.b.setCell (p := ⟨w.heap.size, 1, none⟩) (Nat.le_refl _) _⟩
  have hS1 : Sl W1 E1 f1 x.base := by rw [← hW1]; exact hs1.set _ _ fun b off e => by have := hf1 b off e; show b ≠ w.heap.size; omega
  have z4 : W0.heap.size ≤ W1.heap.size := by rw [← hW1]; simpa using z3
  have z6 := hT2.box.lt
  clear hW1 hT1 hs1 hb1 q1 q2 q3 hV
  have q1 := hT2.box.cells.2.2.1
  go_upto_region 3 with (at_builtin; refine wpList_append_sl _ rfl (.tmp 8) (.tmp 10) _ rfl W1.heap.size 3 i0 _ 8 Try.underlying22 hi hz0 hz1 hz2 rfl (.slice (some ⟨W1.heap.size, 0, none⟩) 0 0) 0 [] rfl (World.ownsRow_lit W1 #[] 0 (Nat.le_refl _) (Nat.zero_le _) rfl) A2 c2 x.list rfl ((h.list.below hT2.b).alloc _) ?h1 ?h2 ?h3 ?_; (case h1 => simp only [maxLen]; omega); (case h2 => omega); (case h3 => simp); intro v1 w2 hown1 hg1 hat1; obtain ⟨E2, f2, rfl, hs2, hf2, hb1⟩ := append_new hown1 hg1 hsm2; have hT3 := hT2.below (Nat.le_refl _) (Nat.le_succ _) hb1; have q2 := hT3.box.cells.2.2.1; have q3 := hT3.box.frozen; clear hown1 hg1 hat1)
  refine name_world fun W2 hW2 => ?_
  have z5 := hb1.size
  have hT4 : Two w W2 w.heap.size (w.heap.size + 1) x View.zero E1 f1 E2 f2 none 0 none 0 := by
    rw [← hW2]; exact ⟨hT3.box.setList E2 f2 x.list, hT3.res.other (by simp) _, hT3.b.setCell (p := ⟨w.heap.size, 2, none⟩) (Nat.le_refl _) _⟩
  have hS2 : Sl W2 E2 f2 x.list := by rw [← hW2]; exact hs2.set _ _ fun b off e => by have := hf2 b off e; show b ≠ w.heap.size; omega
  have hS3 : Sl W2 E1 f1 x.base := by rw [← hW2]; exact (hS1.below hb1).set _ _ fun b off e => by have := hf1 b off e; show b ≠ w.heap.size; omega
  clear hW2 hT3 hs2 hb1 q1 q2 q3 hT2 hS1
  have hld : (Try.prog.info? 25).map (·.size) = some (x.cells E1 f1 E2 f2).size := by kernel_rfl
  go_wp2_with (first | (refine wpList_load_row_g rfl 25 (.tmp 1) rfl w.heap.size rfl 25 (x.cells E1 f1 E2 f2) (0, 0) _ hT4.box Try.underlying25 rfl hld ?_) | (refine wpList_store_row rfl 25 (.tmp 2) (.tmp 13) rfl (w.heap.size + 1) (x.cells E1 f1 E2 f2) rfl rfl 25 (View.zero.cells none 0 none 0) hT4.res hld rfl (View.oneCell _ _ _ _ _) ?_))
  refine bodyPost_ret (results_cell_row rfl _ _ (w.heap.size + 1) 25 (x.cells E1 f1 E2 f2) (0, 0) _ rfl (hT4.res.setRow x E1 E2 f1 f2) Try.underlying25 rfl hld) rfl ?_
  exact ⟨E1, f1, E2, f2, rfl, ⟨hS3.row _ _ fun b off e => by have := hf1 b off e; omega, hS2.row _ _ fun b off e => by have := hf2 b off e; omega⟩, below_setRow hT4.b (Nat.le_succ _) _, fun b off e => by have := hf1 b off e; omega, fun b off e => by have := hf2 b off e; omega⟩
end Go.Proofs.Ytbjgfcempfpfcaa
