/- Are two views the same? -/
import Derived.Test.YtbjgfcempfpfcaaH
import Derived.ChangeKeysEq
namespace Go.Proofs.Ytbjgfcempfpfcaa
open Go.RowKit Go.Shelf

/-- The fingers of two views, one by one. -/
def fEq (x y : View) : Bool := (List.range 16).all fun k => x.f k == y.f k
def sameV (x y : View) : Bool := x.id == y.id && decide (x.base = y.base) && decide (x.list = y.list) && x.pred == y.pred && fEq x y

set_option maxRecDepth 10000 in
theorem fing_part (x : View) {k : Nat} (hk : k < 16) (w : World) : (part 3 x.fing (k * Try.prog.cellsOf 3)).run Try.prog w = .ok (.int .i64 (x.f k)) w := by
  have : k = 0 ∨ k = 1 ∨ k = 2 ∨ k = 3 ∨ k = 4 ∨ k = 5 ∨ k = 6 ∨ k = 7 ∨ k = 8 ∨ k = 9 ∨ k = 10 ∨ k = 11 ∨ k = 12 ∨ k = 13 ∨ k = 14 ∨ k = 15 := by omega
  rcases this with rfl | rfl | rfl | rfl | rfl | rfl | rfl | rfl | rfl | rfl | rfl | rfl | rfl | rfl | rfl | rfl <;> (refine Eq.trans (b := Result.ok _ w) ?_ rfl; kernel_rfl)
theorem eqItems_fing (x y : View) (d : Nat) (w : World) : ∀ is : List Nat, (∀ i ∈ is, i < 16) → (Op.eqItems (d + 1) 3 (Try.prog.cellsOf 3) x.fing y.fing is).run Try.prog w = .ok (is.all fun k => x.f k == y.f k) w
  | [], _ => by simp [Op.eqItems]
  | i :: is, h => by
    have h1 := fing_part x (h i (by simp)) w
    have h2 := fing_part y (h i (by simp)) w
    have ih := eqItems_fing x y d w is fun j hj => h j (by simp [hj])
    simp only [Op.eqItems, Sem.run_bind, h1, h2, Result.andThen_ok, run_equalIn_int w d 3 .i64 .i64 (x.f i) (y.f i) Try.underlying3, List.all_cons, Bool.not_eq_true']
    cases hh : x.f i == y.f i <;> simp [ih]
theorem eql_fing (x y : View) (w : World) : (binOp .eql 23 (.agg x.fing) (.agg y.fing)).run Try.prog w = .ok (.bool (fEq x y)) w := by
  obtain ⟨i0, hi, -, -, -⟩ := info_parts Try.info_int
  rw [run_eql_struct, show (10000 : Nat) = 9998 + 1 + 1 from rfl, run_equalIn_array w (9998 + 1) x.fing y.fing Try.underlying23 hi, eqItems_fing x y 9998 w _ (by simp)]
  rfl

theorem same_cases (x y : View) (P : Prop) (h1 : (x.id == y.id) = false → P) (h2 : (x.id == y.id) = true → decide (x.base = y.base) = false → P) (h3 : (x.id == y.id) = true → decide (x.base = y.base) = true → decide (x.list = y.list) = false → P)
    (h4 : (x.id == y.id) = true → decide (x.base = y.base) = true → decide (x.list = y.list) = true → (x.pred == y.pred) = false → P) (h5 : (x.id == y.id) = true → decide (x.base = y.base) = true → decide (x.list = y.list) = true → (x.pred == y.pred) = true → P) : P := by
  cases e1 : x.id == y.id with
  | false => exact h1 e1
  | true =>
    cases e2 : decide (x.base = y.base) with
    | false => exact h2 e1 e2
    | true =>
      cases e3 : decide (x.list = y.list) with
      | false => exact h3 e1 e2 e3
      | true =>
        cases e4 : x.pred == y.pred with
        | false => exact h4 e1 e2 e3 e4
        | true => exact h5 e1 e2 e3 e4

/-- The world behind the two boxes. -/
theorem boxes_start {w W : World} {x y : View} {A1 A2 D1 D2 : Option Addr} {c1 c2 d1 d2 : Nat} (h : (w.alloc (.cells (x.cells A1 c1 A2 c2) 25)).alloc (.cells (y.cells D1 d1 D2 d2) 25) = W) : Two w W w.heap.size (w.heap.size + 1) x y A1 c1 A2 c2 D1 d1 D2 d2 := by
  subst h
  refine ⟨(VBox.new w x A1 c1 A2 c2).alloc _, ?_, ((Below.refl _ _).alloc (Nat.le_refl _) _).alloc (by simp) _⟩
  have := VBox.new (w.alloc (.cells (x.cells A1 c1 A2 c2) 25)) y D1 d1 D2 d2
  simpa using this

set_option maxRecDepth 100000 in
set_option maxHeartbeats 400000 in
theorem r13_Same_1 (x y : View) (A1 A2 D1 D2 : Option Addr) (c1 c2 d1 d2 : Nat) (w : World) (h : RepV w x A1 c1 A2 c2) (h' : RepV w y D1 d1 D2 d2) (e1 : (x.id == y.id) = false) :
    Calls Try.prog 22 #[x.v A1 c1 A2 c2, y.v D1 d1 D2 d2] w fun e w' => e = .returned (.bool (sameV x y)) ∧ Below w.heap.size w w' := by
  have heq := eql_fing x y
  unfold View.v
  go_enter Try.func22, Try.ntmps22
  go_upto_region 1 with (fail)
  refine name_world fun W0 hW0 => ?_
  have hT := boxes_start hW0
  clear hW0
  have q0 := hT.box.cells.1
  have q1 := hT.box.cells.2.1
  have q2 := hT.box.cells.2.2.1
  have q3 := hT.box.cells.2.2.2.1
  have r0 := hT.res.cells.1
  have r1 := hT.res.cells.2.1
  have r2 := hT.res.cells.2.2.1
  have r3 := hT.res.cells.2.2.2.1
  go_wp2
  go_ret
  exact ⟨ret_bool (by simp [sameV, e1]), hT.b⟩

set_option maxRecDepth 100000 in
set_option maxHeartbeats 400000 in
theorem r13_Same_2 (x y : View) (A1 A2 D1 D2 : Option Addr) (c1 c2 d1 d2 : Nat) (w : World) (h : RepV w x A1 c1 A2 c2) (h' : RepV w y D1 d1 D2 d2) (e1 : (x.id == y.id) = true) (e2 : decide (x.base = y.base) = false) :
    Calls Try.prog 22 #[x.v A1 c1 A2 c2, y.v D1 d1 D2 d2] w fun e w' => e = .returned (.bool (sameV x y)) ∧ Below w.heap.size w w' := by
  have heq := eql_fing x y
  unfold View.v
  go_enter Try.func22, Try.ntmps22
  go_upto_region 1 with (fail)
  refine name_world fun W0 hW0 => ?_
  have hT := boxes_start hW0
  clear hW0
  have q0 := hT.box.cells.1
  have q1 := hT.box.cells.2.1
  have q2 := hT.box.cells.2.2.1
  have q3 := hT.box.cells.2.2.2.1
  have r0 := hT.res.cells.1
  have r1 := hT.res.cells.2.1
  have r2 := hT.res.cells.2.2.1
  have r3 := hT.res.cells.2.2.2.1
  go_wp2_with (first | (go_at_call_of 48 A1; refine (r12_Ints _ _ _ _ _ _ _ (h.base.below hT.b) (h'.base.below hT.b)).mono ?_; rintro e w' ⟨rfl, n1, rfl⟩))
  go_ret
  exact ⟨ret_bool (by simp [sameV, e1, e2]), Below.drewN hT.b _⟩

set_option maxRecDepth 100000 in
set_option maxHeartbeats 400000 in
theorem r13_Same_3 (x y : View) (A1 A2 D1 D2 : Option Addr) (c1 c2 d1 d2 : Nat) (w : World) (h : RepV w x A1 c1 A2 c2) (h' : RepV w y D1 d1 D2 d2) (e1 : (x.id == y.id) = true) (e2 : decide (x.base = y.base) = true) (e3 : decide (x.list = y.list) = false) :
    Calls Try.prog 22 #[x.v A1 c1 A2 c2, y.v D1 d1 D2 d2] w fun e w' => e = .returned (.bool (sameV x y)) ∧ Below w.heap.size w w' := by
  have heq := eql_fing x y
  unfold View.v
  go_enter Try.func22, Try.ntmps22
  go_upto_region 1 with (fail)
  refine name_world fun W0 hW0 => ?_
  have hT := boxes_start hW0
  clear hW0
  have q0 := hT.box.cells.1
  have q1 := hT.box.cells.2.1
  have q2 := hT.box.cells.2.2.1
  have q3 := hT.box.cells.2.2.2.1
  have r0 := hT.res.cells.1
  have r1 := hT.res.cells.2.1
  have r2 := hT.res.cells.2.2.1
  have r3 := hT.res.cells.2.2.2.1
  go_wp2_with (first | (go_at_call_of 48 A1; refine (r12_Ints _ _ _ _ _ _ _ (h.base.below hT.b) (h'.base.below hT.b)).mono ?_; rintro e w' ⟨rfl, n1, rfl⟩) | (go_at_call_of 48 A2; refine (r12_Ints _ _ _ _ _ _ _ ((h.list.below hT.b).drewN _) ((h'.list.below hT.b).drewN _)).mono ?_; rintro e w' ⟨rfl, n2, rfl⟩))
  go_ret
  exact ⟨ret_bool (by simp [sameV, e1, e2, e3]), Below.drewN hT.b _⟩

set_option maxRecDepth 100000 in
set_option maxHeartbeats 400000 in
theorem r13_Same_4 (x y : View) (A1 A2 D1 D2 : Option Addr) (c1 c2 d1 d2 : Nat) (w : World) (h : RepV w x A1 c1 A2 c2) (h' : RepV w y D1 d1 D2 d2) (e1 : (x.id == y.id) = true) (e2 : decide (x.base = y.base) = true) (e3 : decide (x.list = y.list) = true) (e4 : (x.pred == y.pred) = false) :
    Calls Try.prog 22 #[x.v A1 c1 A2 c2, y.v D1 d1 D2 d2] w fun e w' => e = .returned (.bool (sameV x y)) ∧ Below w.heap.size w w' := by
  have heq := eql_fing x y
  unfold View.v
  go_enter Try.func22, Try.ntmps22
  go_upto_region 1 with (fail)
  refine name_world fun W0 hW0 => ?_
  have hT := boxes_start hW0
  clear hW0
  have q0 := hT.box.cells.1
  have q1 := hT.box.cells.2.1
  have q2 := hT.box.cells.2.2.1
  have q3 := hT.box.cells.2.2.2.1
  have r0 := hT.res.cells.1
  have r1 := hT.res.cells.2.1
  have r2 := hT.res.cells.2.2.1
  have r3 := hT.res.cells.2.2.2.1
  go_wp2_with (first | (go_at_call_of 48 A1; refine (r12_Ints _ _ _ _ _ _ _ (h.base.below hT.b) (h'.base.below hT.b)).mono ?_; rintro e w' ⟨rfl, n1, rfl⟩) | (go_at_call_of 48 A2; refine (r12_Ints _ _ _ _ _ _ _ ((h.list.below hT.b).drewN _) ((h'.list.below hT.b).drewN _)).mono ?_; rintro e w' ⟨rfl, n2, rfl⟩))
  go_ret
  exact ⟨ret_bool (by simp [sameV, e1, e2, e3, e4]), Below.drewN hT.b _⟩

set_option maxRecDepth 100000 in
set_option maxHeartbeats 400000 in
theorem r13_Same_5 (x y : View) (A1 A2 D1 D2 : Option Addr) (c1 c2 d1 d2 : Nat) (w : World) (h : RepV w x A1 c1 A2 c2) (h' : RepV w y D1 d1 D2 d2) (e1 : (x.id == y.id) = true) (e2 : decide (x.base = y.base) = true) (e3 : decide (x.list = y.list) = true) (e4 : (x.pred == y.pred) = true) :
    Calls Try.prog 22 #[x.v A1 c1 A2 c2, y.v D1 d1 D2 d2] w fun e w' => e = .returned (.bool (sameV x y)) ∧ Below w.heap.size w w' := by
  have heq := eql_fing x y
  unfold View.v
  go_enter Try.func22, Try.ntmps22
  go_upto_region 1 with (fail)
  refine name_world fun W0 hW0 => ?_
  have hT := boxes_start hW0
  clear hW0
  have q0 := hT.box.cells.1
  have q1 := hT.box.cells.2.1
  have q2 := hT.box.cells.2.2.1
  have q3 := hT.box.cells.2.2.2.1
  have r0 := hT.res.cells.1
  have r1 := hT.res.cells.2.1
  have r2 := hT.res.cells.2.2.1
  have r3 := hT.res.cells.2.2.2.1
  go_wp2_with (first | (go_at_call_of 48 A1; refine (r12_Ints _ _ _ _ _ _ _ (h.base.below hT.b) (h'.base.below hT.b)).mono ?_; rintro e w' ⟨rfl, n1, rfl⟩) | (go_at_call_of 48 A2; refine (r12_Ints _ _ _ _ _ _ _ ((h.list.below hT.b).drewN _) ((h'.list.below hT.b).drewN _)).mono ?_; rintro e w' ⟨rfl, n2, rfl⟩) | (refine wpList_load_fing_g rfl 23 (.tmp 32) rfl w.heap.size 4 rfl x.fing _ hT.box.range Try.underlying23 rfl (by kernel_rfl) ?_) | (refine wpList_load_fing_g rfl 23 (.tmp 34) rfl (w.heap.size + 1) 4 rfl y.fing _ hT.res.range Try.underlying23 rfl (by kernel_rfl) ?_))
  go_ret
  exact ⟨ret_bool (by simp [sameV, e1, e2, e3, e4]), Below.drewN hT.b _⟩

theorem r13_Same (x y : View) (A1 A2 D1 D2 : Option Addr) (c1 c2 d1 d2 : Nat) (w : World) (h : RepV w x A1 c1 A2 c2) (h' : RepV w y D1 d1 D2 d2) :
    Calls Try.prog 22 #[x.v A1 c1 A2 c2, y.v D1 d1 D2 d2] w fun e w' => e = .returned (.bool (sameV x y)) ∧ Below w.heap.size w w' :=
  same_cases x y _ (r13_Same_1 x y A1 A2 D1 D2 c1 c2 d1 d2 w h h') (r13_Same_2 x y A1 A2 D1 D2 c1 c2 d1 d2 w h h') (r13_Same_3 x y A1 A2 D1 D2 c1 c2 d1 d2 w h h') (r13_Same_4 x y A1 A2 D1 D2 c1 c2 d1 d2 w h h') (r13_Same_5 x y A1 A2 D1 D2 c1 c2 d1 d2 w h h')
end Go.Proofs.Ytbjgfcempfpfcaa
