/- Words on memory: a slice of ints that reads as a list; a view by value. -/
import Derived.Test.YtbjgfcempfpfcaaM
import Derived.WalkKit
import Derived.Deep.Draws
import Derived.Deep.MidRow
import Derived.StillTailTactics
namespace Go.Proofs.Ytbjgfcempfpfcaa
open Go.RowKit

/-- The slice value '.slice A xs.length c' reads in w as the ints xs. -/
structure Sl (w : World) (A : Option Addr) (c : Nat) (xs : List Int) : Prop where
  cap : xs.length ≤ c
  small : xs.length ≤ 17592186044416
  nil_ : A = none → c = 0
  at_ : 0 < xs.length → ∃ b off, A = some ⟨b, off, none⟩ ∧ b < w.heap.size ∧ ∀ k, k < xs.length → w.cell? ⟨b, off + k, none⟩ = some (.int .i64 (nth xs k))

section
variable {w w' : World} {A : Option Addr} {c : Nat} {xs : List Int}
theorem Sl.lt (h : Sl w A c xs) {b off : Nat} (hn : 0 < xs.length) (e : A = some ⟨b, off, none⟩) : b < w.heap.size := by
  obtain ⟨b', off', e', hlt, _⟩ := h.at_ hn
  rw [e] at e'; injection e' with e'; injection e' with e1 _ _; omega
theorem Sl.nil (w : World) : Sl w none 0 [] := ⟨Nat.le_refl _, by simp, fun _ => rfl, fun h => absurd h (by simp)⟩
theorem Sl.keep (h : Sl w A c xs) (hb : w.heap.size ≤ w'.heap.size) (hk : ∀ b o, b < w.heap.size → w'.cell? ⟨b, o, none⟩ = w.cell? ⟨b, o, none⟩) : Sl w' A c xs :=
  ⟨h.cap, h.small, h.nil_, fun hn => by
    obtain ⟨b, off, e, hlt, hc⟩ := h.at_ hn
    exact ⟨b, off, e, by omega, fun k hkk => (hk _ _ hlt).trans (hc k hkk)⟩⟩
theorem Sl.below (h : Sl w A c xs) (hb : Below w.heap.size w w') : Sl w' A c xs := h.keep hb.size fun b o hlt => hb.cell (p := ⟨b, o, none⟩) hlt
theorem Sl.drewN (h : Sl w A c xs) (n : Nat) : Sl (w.drewN n) A c xs := h.keep (Nat.le_refl _) fun _ _ _ => rfl
theorem Sl.alloc (h : Sl w A c xs) (o : Obj) : Sl (w.alloc o) A c xs := h.below ((Below.refl _ w).alloc (Nat.le_refl _) o)
end

theorem bcell {W w1 : World} {B : Nat} (hb : Below B W w1) : (∀ b o, b < B → w1.cell? ⟨b, o, none⟩ = W.cell? ⟨b, o, none⟩) ∧ (∀ b o, b < B → w1.frozen? ⟨b, o, none⟩ = W.frozen? ⟨b, o, none⟩) :=
  ⟨fun b o h => hb.cell (p := ⟨b, o, none⟩) h, fun b o h => hb.frozen (p := ⟨b, o, none⟩) h⟩

theorem below_drewN (w : World) (B n : Nat) : Below B w (w.drewN n) := ⟨rfl, rfl, rfl, Nat.le_refl _, fun _ _ => rfl⟩
theorem Below.drewN {B : Nat} {a w : World} (h : Below B a w) (n : Nat) : Below B a (w.drewN n) := h.trans (below_drewN w B n)

/-- A whole struct read out of its block, guarded or not. -/
theorem wpList_load_row_g {P : Program} {ops : Array Oper} {rest : List Oper} {o : Oper} {a : Act} {w : World} {Q : Exit → Act → World → Prop} (hw : Region.wanted o (yielded ops a.tmps) = true) (ty : TypeId) (x : Operand) (ho : o.op = .load ty x)
    (g : Nat) (hx : a.eval x = .pointer (some ⟨g, 0, none⟩)) (t : TypeId) (cs : Array Value) (fr : Nat × Nat) (d : TypeDesc) (hg : w.heap[g]? = some (.cells cs t fr))
    (hu : P.underlying ty = some d) (hd : (match d with | .struct _ | .array _ _ => true | _ => false) = true) (hi : (P.info? ty).map (·.size) = some cs.size)
    (h : wpList P ops Q rest (a.put o.dst (.agg cs)) w) : wpList P ops Q (o :: rest) a w :=
  wpList_step fun _ hK => by rw [if_pos hw]; exact wp_load_row ty x ho g hx t cs fr d hg hu hd hi (hK _ _ h)

/-- The same in a region that draws its order, ahead of its tail. -/
theorem wpStill_load_row {P : Program} {ops : Array Oper} {rest : List Oper} {o : Oper} {a : Act} {w : World} {Q : Act → Prop} (hw : Region.wanted o (yielded ops a.tmps) = true) (ty : TypeId) (x : Operand) (ho : o.op = .load ty x)
    (g : Nat) (hx : a.eval x = .pointer (some ⟨g, 0, none⟩)) (t : TypeId) (cs : Array Value) (fr : Nat × Nat) (d : TypeDesc) (hg : w.heap[g]? = some (.cells cs t fr))
    (hu : P.underlying ty = some d) (hd : (match d with | .struct _ | .array _ _ => true | _ => false) = true) (hi : (P.info? ty).map (·.size) = some cs.size)
    (h : wpStill P ops w Q rest (a.put o.dst (.agg cs))) : wpStill P ops w Q (o :: rest) a :=
  wpStill_step fun _ hK => by
    rw [if_pos hw]
    unfold Oper.still execOp
    simp only [ho, hx, Instr.loadAt, Instr.sureAddr, Sem.run_bind, Sem.run_pure, Result.andThen_ok, run_loadVar_row w g t ty cs fr d hg hu hd hi, Oper.stillUpon]
    exact ⟨trivial, hK _ h⟩

/-- A region that draws its order: n operations that only read, then a tail in one order. -/
theorem region_tail {P : Program} {id : Nat} {Q : Exit → Act → World → Prop} {a : Act} {w : World} {l : List Oper} (n : Nat) (hm : P.follows .mixedOrders = true) (hB : Region.lexTailB .any l.toArray n = true)
    (h : wpStill P l.toArray w.drew (fun a' => wpList P l.toArray Q (l.drop n) a' w.drew) (l.take n) a) : (Code.region id l.toArray true).wp P Q a w :=
  wp_region_still_tail n hm hB h

/-- A contract that leaves the world alone, met in a region that only reads. -/
theorem qs {P : Program} {f : FuncId} {args : Array Value} {w : World} {n : Nat} {v v' : Value}
    (h : Calls P f args (w.drewN n) fun e w' => e = .returned v ∧ w.drewN n = w') (hv : v = v') : Calls P f args (w.drewN n) fun e w'' => e = .returned v' ∧ ∃ m, w'' = w.drewN m :=
  h.mono fun _ _ ⟨he, hm⟩ => ⟨by rw [he, hv], n, hm.symm⟩
theorem drews {w wr : World} (h : ∃ n, wr = w.drewN n) (m : Nat) : ∃ n, wr.drewN m = w.drewN n := by
  obtain ⟨n, rfl⟩ := h; exact ⟨n + m, by rw [World.drewN_drewN]⟩
theorem vb {a b : Bool} (h : a = b) : Value.bool a = .bool b := by rw [h]
theorem ret_bool {a b : Bool} (h : a = b) : Ending.returned (.bool a) = .returned (.bool b) := by rw [h]
theorem ret_int {k : IntKind} {a b : Int} (h : a = b) : Ending.returned (.int k a) = .returned (.int k b) := by rw [h]

def View.cells (x : View) (A1 : Option Addr) (c1 : Nat) (A2 : Option Addr) (c2 : Nat) : Array Value :=
  #[.int .i64 x.id, .slice A1 x.base.length c1, .slice A2 x.list.length c2, .int .i64 x.pred, .int .i64 (x.f 0), .int .i64 (x.f 1), .int .i64 (x.f 2), .int .i64 (x.f 3), .int .i64 (x.f 4), .int .i64 (x.f 5), .int .i64 (x.f 6), .int .i64 (x.f 7), .int .i64 (x.f 8), .int .i64 (x.f 9), .int .i64 (x.f 10), .int .i64 (x.f 11), .int .i64 (x.f 12), .int .i64 (x.f 13), .int .i64 (x.f 14), .int .i64 (x.f 15)]
def View.v (x : View) (A1 : Option Addr) (c1 : Nat) (A2 : Option Addr) (c2 : Nat) : Value := .agg (x.cells A1 c1 A2 c2)

theorem View.at_ (x : View) (A1 : Option Addr) (c1 : Nat) (A2 : Option Addr) (c2 : Nat) : ((x.cells A1 c1 A2 c2)[0]? = some (.int .i64 x.id)) ∧ ((x.cells A1 c1 A2 c2)[1]? = some (.slice A1 x.base.length c1)) ∧ ((x.cells A1 c1 A2 c2)[2]? = some (.slice A2 x.list.length c2)) ∧ ((x.cells A1 c1 A2 c2)[3]? = some (.int .i64 x.pred)) ∧ ((x.cells A1 c1 A2 c2).size = 20) := ⟨rfl, rfl, rfl, rfl, rfl⟩
theorem View.cells_v (x : View) (A1 : Option Addr) (c1 : Nat) (A2 : Option Addr) (c2 : Nat) : (x.v A1 c1 A2 c2).cells = x.cells A1 c1 A2 c2 := rfl

/-- A view's fingers as cells. -/
def View.fing (x : View) : Array Value := #[.int .i64 (x.f 0), .int .i64 (x.f 1), .int .i64 (x.f 2), .int .i64 (x.f 3), .int .i64 (x.f 4), .int .i64 (x.f 5), .int .i64 (x.f 6), .int .i64 (x.f 7), .int .i64 (x.f 8), .int .i64 (x.f 9), .int .i64 (x.f 10), .int .i64 (x.f 11), .int .i64 (x.f 12), .int .i64 (x.f 13), .int .i64 (x.f 14), .int .i64 (x.f 15)]
theorem View.fing_at (x : View) {k : Nat} (hk : k < 16) : x.fing[k]? = some (.int .i64 (x.f k)) := by
  have : k = 0 ∨ k = 1 ∨ k = 2 ∨ k = 3 ∨ k = 4 ∨ k = 5 ∨ k = 6 ∨ k = 7 ∨ k = 8 ∨ k = 9 ∨ k = 10 ∨ k = 11 ∨ k = 12 ∨ k = 13 ∨ k = 14 ∨ k = 15 := by omega
  rcases this with rfl | rfl | rfl | rfl | rfl | rfl | rfl | rfl | rfl | rfl | rfl | rfl | rfl | rfl | rfl | rfl <;> rfl

/-- Block B is a view's box. -/
def VBox (W : World) (B : Nat) (x : View) (A1 : Option Addr) (c1 : Nat) (A2 : Option Addr) (c2 : Nat) : Prop := W.heap[B]? = some (.cells (x.cells A1 c1 A2 c2) 25 (0, 0))
section
variable {W W' : World} {B : Nat} {x : View} {A1 A2 : Option Addr} {c1 c2 : Nat}
theorem VBox.lt (h : VBox W B x A1 c1 A2 c2) : B < W.heap.size := (Array.getElem?_eq_some_iff.1 h).1
theorem VBox.cells (h : VBox W B x A1 c1 A2 c2) : (W.cell? ⟨B, 0, none⟩ = some (.int .i64 x.id)) ∧ (W.cell? ⟨B, 1, none⟩ = some (.slice A1 x.base.length c1)) ∧ (W.cell? ⟨B, 2, none⟩ = some (.slice A2 x.list.length c2)) ∧ (W.cell? ⟨B, 3, none⟩ = some (.int .i64 x.pred)) ∧ (W.cell? ⟨B, 4, none⟩ = some (.int .i64 (x.f 0))) ∧ (W.cell? ⟨B, 5, none⟩ = some (.int .i64 (x.f 1))) ∧ (W.cell? ⟨B, 6, none⟩ = some (.int .i64 (x.f 2))) ∧ (W.cell? ⟨B, 7, none⟩ = some (.int .i64 (x.f 3))) ∧ (W.cell? ⟨B, 8, none⟩ = some (.int .i64 (x.f 4))) ∧ (W.cell? ⟨B, 9, none⟩ = some (.int .i64 (x.f 5))) ∧ (W.cell? ⟨B, 10, none⟩ = some (.int .i64 (x.f 6))) ∧ (W.cell? ⟨B, 11, none⟩ = some (.int .i64 (x.f 7))) ∧ (W.cell? ⟨B, 12, none⟩ = some (.int .i64 (x.f 8))) ∧ (W.cell? ⟨B, 13, none⟩ = some (.int .i64 (x.f 9))) ∧ (W.cell? ⟨B, 14, none⟩ = some (.int .i64 (x.f 10))) ∧ (W.cell? ⟨B, 15, none⟩ = some (.int .i64 (x.f 11))) ∧ (W.cell? ⟨B, 16, none⟩ = some (.int .i64 (x.f 12))) ∧ (W.cell? ⟨B, 17, none⟩ = some (.int .i64 (x.f 13))) ∧ (W.cell? ⟨B, 18, none⟩ = some (.int .i64 (x.f 14))) ∧ (W.cell? ⟨B, 19, none⟩ = some (.int .i64 (x.f 15))) := by
  unfold VBox at h
  simp [World.cell?, h, View.cells]
theorem VBox.frozen (h : VBox W B x A1 c1 A2 c2) : ∀ o, W.frozen? ⟨B, o, none⟩ = false := by
  intro o
  unfold VBox at h
  simp [World.frozen?, h]
theorem VBox.finger (h : VBox W B x A1 c1 A2 c2) {k : Nat} (hk : k < 16) : W.cell? ⟨B, 4 + k, none⟩ = some (.int .i64 (x.f k)) := by
  unfold VBox at h
  have : k = 0 ∨ k = 1 ∨ k = 2 ∨ k = 3 ∨ k = 4 ∨ k = 5 ∨ k = 6 ∨ k = 7 ∨ k = 8 ∨ k = 9 ∨ k = 10 ∨ k = 11 ∨ k = 12 ∨ k = 13 ∨ k = 14 ∨ k = 15 := by omega
  rcases this with rfl | rfl | rfl | rfl | rfl | rfl | rfl | rfl | rfl | rfl | rfl | rfl | rfl | rfl | rfl | rfl <;> simp [World.cell?, h, View.cells]
theorem VBox.new (w : World) (x : View) (A1 : Option Addr) (c1 : Nat) (A2 : Option Addr) (c2 : Nat) : VBox (w.alloc (.cells (x.cells A1 c1 A2 c2) 25)) w.heap.size x A1 c1 A2 c2 := heap_alloc_new w _
theorem VBox.below {L : Nat} (h : VBox W B x A1 c1 A2 c2) (hb : Below L W W') (hB : B < L) : VBox W' B x A1 c1 A2 c2 := (hb.block B hB).trans h
theorem VBox.alloc (h : VBox W B x A1 c1 A2 c2) (o : Obj) : VBox (W.alloc o) B x A1 c1 A2 c2 := (Below.heap_alloc W o B h.lt).trans h
theorem VBox.other (h : VBox W B x A1 c1 A2 c2) {p : Addr} (hp : B ≠ p.block) (u : Value) : VBox (W.setCell p u) B x A1 c1 A2 c2 := (Below.heap_setCell W p u B hp).trans h
end

theorem VBox.range {W : World} {B : Nat} {x : View} {A1 A2 : Option Addr} {c1 c2 : Nat} (h : VBox W B x A1 c1 A2 c2) : W.rangeAt B 4 x.fing.toList := fun j v hv => by
  have hj : j < 16 := by
    rcases Nat.lt_or_ge j 16 with hj | hj
    · exact hj
    · rw [List.getElem?_eq_none (by simp [View.fing]; exact hj)] at hv; cases hv
  have h1 := x.fing_at hj
  rw [← Array.getElem?_toList] at h1
  rw [h1] at hv
  injection hv with hv
  rw [← hv]; exact h.finger hj
/-- The fingers of a view's box, read as an array. -/
theorem wpList_load_fing {P : Program} {ops : Array Oper} {rest : List Oper} {op : Oper} {a : Act} {w : World} {Q : Exit → Act → World → Prop} (hgd : op.guard = none) (ty : TypeId) (x : Operand) (ho : op.op = .load ty x)
    (b o : Nat) (hx : a.eval x = .pointer (some ⟨b, o, none⟩)) (cs : Array Value) (d : TypeDesc) (hc : w.rangeAt b o cs.toList)
    (hu : P.underlying ty = some d) (hd : d.isRow = true) (hi : (P.info? ty).map (·.size) = some cs.size)
    (h : wpList P ops Q rest (a.put op.dst (.agg cs)) w) : wpList P ops Q (op :: rest) a w :=
  wpList_load_mid hgd ty x ho b o hx cs.toList d hc hu hd (by rw [hi]; simp) h
theorem wpList_load_fing_g {P : Program} {ops : Array Oper} {rest : List Oper} {op : Oper} {a : Act} {w : World} {Q : Exit → Act → World → Prop} (hw : Region.wanted op (yielded ops a.tmps) = true) (ty : TypeId) (x : Operand) (ho : op.op = .load ty x)
    (b o : Nat) (hx : a.eval x = .pointer (some ⟨b, o, none⟩)) (cs : Array Value) (d : TypeDesc) (hc : w.rangeAt b o cs.toList)
    (hu : P.underlying ty = some d) (hd : d.isRow = true) (hi : (P.info? ty).map (·.size) = some cs.size)
    (h : wpList P ops Q rest (a.put op.dst (.agg cs)) w) : wpList P ops Q (op :: rest) a w :=
  wpList_step fun _ hK => by rw [if_pos hw]; exact wp_load_mid ty x ho b o hx cs.toList d hc hu hd (by rw [hi]; simp) (hK _ _ h)

structure RepV (w : World) (x : View) (A1 : Option Addr) (c1 : Nat) (A2 : Option Addr) (c2 : Nat) : Prop where
  base : Sl w A1 c1 x.base
  list : Sl w A2 c2 x.list

end Go.Proofs.Ytbjgfcempfpfcaa
