/- The iterator rect.improved. -/
import Derived.Test.YtbjgfcempfpfcaaDoorO
namespace Go.Proofs.YtbjgfcempfpfcaaDoor
open Go.RowKit Go.Shelf

attribute [local go_sem] Oper.semAt_some

def stepP (p : View × List Int) (n : Int) : View × List Int := if btV p.1 n then (p.1.withPred n, p.2 ++ [n]) else p
/-- The view behind a row, and who of them was better. -/
def accP (x : View) (l : List Int) : View × List Int := l.foldl stepP (x, [])
theorem accP_next (x : View) {l : List Int} {k : Nat} (h : k < l.length) : accP x (l.take (k + 1)) = stepP (accP x (l.take k)) (nth l k) := by
  rw [accP, nth_eq h, List.take_succ_eq_append_getElem h, List.foldl_append]; rfl
theorem stepP_grow (p : View × List Int) (l : List Int) : ∃ rest, (l.foldl stepP p).2 = p.2 ++ rest := by
  induction l generalizing p with
  | nil => exact ⟨[], by simp⟩
  | cons n l ih =>
    obtain ⟨r, h⟩ := ih (stepP p n)
    rw [List.foldl_cons, h]
    unfold stepP
    split
    · exact ⟨n :: r, by simp⟩
    · exact ⟨r, rfl⟩
theorem accP_split (x : View) {l : List Int} {k : Nat} (h : k < l.length) (hb : btV (accP x (l.take k)).1 (nth l k) = true) : ∃ rest, (accP x l).2 = (accP x (l.take k)).2 ++ nth l k :: rest := by
  obtain ⟨r, hr⟩ := stepP_grow (accP x (l.take (k + 1))) (l.drop (k + 1))
  refine ⟨r, ?_⟩
  have : accP x l = (l.drop (k + 1)).foldl stepP (accP x (l.take (k + 1))) := by
    rw [accP, accP, ← List.foldl_append, List.take_append_drop]
  rw [this, hr, accP_next x h, stepP, if_pos hb]
  simp
theorem stepP_yes {p : View × List Int} {n : Int} (h : btV p.1 n = true) : stepP p n = (p.1.withPred n, p.2 ++ [n]) := by simp [stepP, h]
theorem stepP_no {p : View × List Int} {n : Int} (h : btV p.1 n = false) : stepP p n = p := by simp [stepP, h]

abbrev encI (n : Int) : Array Value := #[.int .i64 n]

theorem wpListIn_load_view {F : Fence} {m : Nat} {ops : Array Oper} {rest : List Oper} {a : Act} {w : World} {Q : Exit → Act → World → Prop} {dst : Option Tmp} {ty : TypeId} {pos : String} {af : Array Edge} {t : Nat} (x : View) (A1 A2 : Option Addr) (c1 c2 B : Nat)
    (hg : VBox w B x A1 c1 A2 c2) (hx : a.eval (.tmp t) = .pointer (some ⟨B, 0, none⟩)) (h : wpListIn F m Tryd.prog ops Q rest (a.put dst (.agg (x.cells A1 c1 A2 c2))) w) :
    wpListIn F m Tryd.prog ops Q ({ dst := dst, op := .load 25 (.tmp t), type := ty, pos := pos, after := af, guard := none } :: rest) a w := by
  refine wpListIn_plain rfl fun K hK' => ?_
  unfold Oper.wpIn
  refine ⟨by simp [Oper.about], ?_⟩
  rw [Oper.semAt_plain F _ _ (by intro c hc; cases hc)]
  simp only [execOp, hx, Instr.loadAt, Instr.sureAddr, Sem.run_bind, Sem.run_pure, Result.andThen_ok, run_loadVar_row w B 25 25 (x.cells A1 c1 A2 c2) (0, 0) _ hg Tryd.underlying25 rfl (view_size _ _ _ _ _)]
  exact hK' _ _ h

end Go.Proofs.YtbjgfcempfpfcaaDoor
