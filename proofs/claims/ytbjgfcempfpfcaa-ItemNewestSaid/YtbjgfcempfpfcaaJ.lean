/- Plain words of the layer rect: who is better, who is told, who owns. -/
import Derived.Test.YtbjgfcempfpfcaaI
namespace Go.Proofs.Ytbjgfcempfpfcaa
open Go.RowKit Go.Shelf

def greatV (x : View) : Bool := decide (20 < x.base.length) || decide (20 < x.list.length)
def ownsV (x : View) (k : Int) : Bool := rightV x && decide (0 ≤ x.pred) && upTo x.pred k x.id
def asksV (x : View) : Bool := rightV x && decide (0 ≤ x.pred)
def askP (x : View) : Int := if asksV x then x.pred else 0
def betterV (x : View) (n : Int) : Bool := rightV x && (isPl n && (n != x.id && (x.pred == -1 || inn x.pred n x.id)))
def toldV (x : View) (n : Int) : View := if betterV x n then x.withPred n else x
def notifyV (x : View) (l : List Int) : View := l.foldl toldV x
def goneV (x : View) (d : Int) : View := if rightV x && (x.pred == d && !decide (d ∈ x.base)) then x.withPred (-1) else x

theorem told_base (x : View) (n : Int) : (toldV x n).base = x.base := by unfold toldV; split <;> rfl
theorem told_list (x : View) (n : Int) : (toldV x n).list = x.list := by unfold toldV; split <;> rfl
theorem notify_next (x : View) {l : List Int} {k : Nat} (h : k < l.length) : notifyV x (l.take (k + 1)) = toldV (notifyV x (l.take k)) (nth l k) := by
  rw [notifyV, nth_eq h, List.take_succ_eq_append_getElem h, List.foldl_append]; rfl
theorem notify_same (x : View) (l : List Int) : (notifyV x l).base = x.base ∧ (notifyV x l).list = x.list := by
  induction l generalizing x with
  | nil => exact ⟨rfl, rfl⟩
  | cons n l ih =>
    have := ih (toldV x n)
    rw [told_base, told_list] at this
    exact this
theorem told_yes {x : View} {n : Int} (h : betterV x n = true) : toldV x n = x.withPred n := by simp [toldV, h]
theorem told_no {x : View} {n : Int} (h : betterV x n = false) : toldV x n = x := by simp [toldV, h]

/-- A whole struct read out of its block by an operation without a guard. -/
theorem wpList_load_row_n {P : Program} {ops : Array Oper} {rest : List Oper} {o : Oper} {a : Act} {w : World} {Q : Exit → Act → World → Prop} (hw : o.guard = none) (ty : TypeId) (x : Operand) (ho : o.op = .load ty x)
    (g : Nat) (hx : a.eval x = .pointer (some ⟨g, 0, none⟩)) (t : TypeId) (cs : Array Value) (fr : Nat × Nat) (d : TypeDesc) (hg : w.heap[g]? = some (.cells cs t fr))
    (hu : P.underlying ty = some d) (hd : (match d with | .struct _ | .array _ _ => true | _ => false) = true) (hi : (P.info? ty).map (·.size) = some cs.size)
    (h : wpList P ops Q rest (a.put o.dst (.agg cs)) w) : wpList P ops Q (o :: rest) a w :=
  wpList_plain hw fun _ hK => wp_load_row ty x ho g hx t cs fr d hg hu hd hi (hK _ _ h)

/-- What a walk over one view holds. -/
structure One (w W : World) (B : Nat) (x : View) (A1 : Option Addr) (c1 : Nat) (A2 : Option Addr) (c2 : Nat) : Prop where
  box : VBox W B x A1 c1 A2 c2
  b : Below w.heap.size w W
section
variable {w W W' : World} {B : Nat} {x : View} {A1 A2 : Option Addr} {c1 c2 : Nat}
theorem One.below (h : One w W B x A1 c1 A2 c2) (hb : Below W.heap.size W W') : One w W' B x A1 c1 A2 c2 := ⟨h.box.below hb h.box.lt, h.b.trans (hb.mono h.b.size)⟩
theorem one_start (h : w.alloc (.cells (x.cells A1 c1 A2 c2) 25) = W) : One w W w.heap.size x A1 c1 A2 c2 := by
  subst h
  exact ⟨VBox.new w x A1 c1 A2 c2, (Below.refl _ _).alloc (Nat.le_refl _) _⟩
theorem view_size (x : View) (A1 A2 : Option Addr) (c1 c2 : Nat) : (Try.prog.info? 25).map (·.size) = some (x.cells A1 c1 A2 c2).size := by kernel_rfl
end
theorem nonneg_not (p : Int) : decide (0 ≤ p) = !decide (p < 0) := by rw [Bool.eq_iff_iff]; simp
theorem better_cases (x : View) (k : Int) (P : Prop)
    (c1 : rightV x = false → Hid (betterV x k = false) → P)
    (c2 : rightV x = true → decide (0 ≤ k) = false → Hid (betterV x k = false) → P)
    (c3 : rightV x = true → decide (0 ≤ k) = true → decide (k < 65536) = false → Hid (betterV x k = false) → P)
    (c4 : rightV x = true → decide (0 ≤ k) = true → decide (k < 65536) = true → (k != x.id) = false → Hid (betterV x k = false) → P)
    (c5 : rightV x = true → decide (0 ≤ k) = true → decide (k < 65536) = true → (k != x.id) = true → (x.pred == -1) = true → Hid (betterV x k = true) → P)
    (c6 : rightV x = true → decide (0 ≤ k) = true → decide (k < 65536) = true → (k != x.id) = true → (x.pred == -1) = false → Hid (betterV x k = inn x.pred k x.id) → P) : P := by
  cases e1 : rightV x
  case false => exact c1 e1 (Lib.hid (by simp only [betterV, isPl, e1, Bool.false_and, Bool.and_false, Bool.true_and, Bool.and_true, Bool.true_or, Bool.false_or]))
  case true =>
    cases e2 : decide (0 ≤ k)
    case false => exact c2 e1 e2 (Lib.hid (by simp only [betterV, isPl, e1, e2, Bool.false_and, Bool.and_false, Bool.true_and, Bool.and_true, Bool.true_or, Bool.false_or]))
    case true =>
      cases e3 : decide (k < 65536)
      case false => exact c3 e1 e2 e3 (Lib.hid (by simp only [betterV, isPl, e1, e2, e3, Bool.false_and, Bool.and_false, Bool.true_and, Bool.and_true, Bool.true_or, Bool.false_or]))
      case true =>
        cases e4 : (k != x.id)
        case false => exact c4 e1 e2 e3 e4 (Lib.hid (by simp only [betterV, isPl, e1, e2, e3, e4, Bool.false_and, Bool.and_false, Bool.true_and, Bool.and_true, Bool.true_or, Bool.false_or]))
        case true =>
          cases e5 : (x.pred == -1)
          case true => exact c5 e1 e2 e3 e4 e5 (Lib.hid (by simp only [betterV, isPl, e1, e2, e3, e4, e5, Bool.false_and, Bool.and_false, Bool.true_and, Bool.and_true, Bool.true_or, Bool.false_or]))
          case false =>
            exact c6 e1 e2 e3 e4 e5 (Lib.hid (by simp only [betterV, isPl, e1, e2, e3, e4, e5, Bool.false_and, Bool.and_false, Bool.true_and, Bool.and_true, Bool.true_or, Bool.false_or]))
theorem asks_cases (x : View) (P : Prop)
    (c1 : rightV x = false → Hid (askP x = 0 ∧ asksV x = false) → P)
    (c2 : rightV x = true → decide (x.pred < 0) = true → Hid (askP x = 0 ∧ asksV x = false) → P)
    (c3 : rightV x = true → decide (x.pred < 0) = false → Hid (askP x = x.pred ∧ asksV x = true) → P) : P := by
  cases e1 : rightV x
  case false => exact c1 e1 (Lib.hid (by simp [askP, asksV, nonneg_not x.pred, e1]))
  case true =>
    cases e2 : decide (x.pred < 0)
    case true => exact c2 e1 e2 (Lib.hid (by simp [askP, asksV, nonneg_not x.pred, e1, e2]))
    case false =>
      exact c3 e1 e2 (Lib.hid (by simp [askP, asksV, nonneg_not x.pred, e1, e2]))
theorem owns_cases (x : View) (k : Int) (P : Prop)
    (c1 : rightV x = false → Hid (ownsV x k = false) → P)
    (c2 : rightV x = true → decide (0 ≤ x.pred) = false → Hid (ownsV x k = false) → P)
    (c3 : rightV x = true → decide (0 ≤ x.pred) = true → Hid (ownsV x k = upTo x.pred k x.id) → P) : P := by
  cases e1 : rightV x
  case false => exact c1 e1 (Lib.hid (by simp only [ownsV, e1, Bool.false_and, Bool.and_false, Bool.true_and, Bool.and_true]))
  case true =>
    cases e2 : decide (0 ≤ x.pred)
    case false => exact c2 e1 e2 (Lib.hid (by simp only [ownsV, e1, e2, Bool.false_and, Bool.and_false, Bool.true_and, Bool.and_true]))
    case true =>
      exact c3 e1 e2 (Lib.hid (by simp only [ownsV, e1, e2, Bool.false_and, Bool.and_false, Bool.true_and, Bool.and_true]))
theorem gone_cases (x : View) (d : Int) (P : Prop)
    (c1 : rightV x = false → Hid (goneV x d = x) → P)
    (c2 : rightV x = true → (x.pred == d) = false → Hid (goneV x d = x) → P)
    (c3 : rightV x = true → (x.pred == d) = true → decide (d ∈ x.base) = true → Hid (goneV x d = x) → P)
    (c4 : rightV x = true → (x.pred == d) = true → decide (d ∈ x.base) = false → Hid (goneV x d = x.withPred (-1)) → P) : P := by
  cases e1 : rightV x
  case false => exact c1 e1 (Lib.hid (by simp [goneV, e1]))
  case true =>
    cases e2 : (x.pred == d)
    case false => exact c2 e1 e2 (Lib.hid (by simp [goneV, e1, e2]))
    case true =>
      cases e3 : decide (d ∈ x.base)
      case true => exact c3 e1 e2 e3 (Lib.hid (by simp [goneV, e1, e2, e3]))
      case false =>
        exact c4 e1 e2 e3 (Lib.hid (by simp [goneV, e1, e2, e3]))
end Go.Proofs.Ytbjgfcempfpfcaa
