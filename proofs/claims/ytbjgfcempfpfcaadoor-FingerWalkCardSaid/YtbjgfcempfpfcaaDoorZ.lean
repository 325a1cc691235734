/- The law RectBad. -/
import Derived.Test.YtbjgfcempfpfcaaDoorY
import Derived.Deep.RegionHeld
namespace Go.Proofs.YtbjgfcempfpfcaaDoor
open Go.RowKit Go.Shelf

theorem yields_view {ops : Array Oper} {S : World → Prop} {a : Act} {dst : Option Tmp} {ty : TypeId} {pos : String} {af : Array Edge} {t : Nat} {gd : Option (Nat × Bool)} (x : View) (A1 A2 : Option Addr) (c1 c2 B : Nat)
    (hw : Region.wanted { dst := dst, op := .load 25 (.tmp t), type := ty, pos := pos, after := af, guard := gd } (yielded ops a.tmps) = true) (hx : a.eval (.tmp t) = .pointer (some ⟨B, 0, none⟩)) (hS : ∀ w, S w → VBox w B x A1 c1 A2 c2) :
    YieldsIf Tryd.prog ops S { dst := dst, op := .load 25 (.tmp t), type := ty, pos := pos, after := af, guard := gd } (.agg (x.cells A1 c1 A2 c2)) a :=
  .inl ⟨hw, fun w h => by
    unfold execOp
    simp only [hx, Instr.loadAt, Instr.sureAddr, Sem.run_bind, Sem.run_pure, Result.andThen_ok, run_loadVar_row w B 25 25 (x.cells A1 c1 A2 c2) (0, 0) _ (hS w h) Tryd.underlying25 rfl (view_size _ _ _ _ _)]⟩

theorem bad_words {x : View} (hr : rightV x = false) (n : Int) (l : List Int) : betterV x n = false ∧ sameV (notifyV x l) x = true ∧ ownsV x n = false ∧ sameV (goneV x n) x = true ∧ askP x = 0 ∧ asksV x = false := by
  have hsame : sameV x x = true := by simp [sameV, fEq]
  have h4 : asksV x = false := by rw [asksV, hr]; rfl
  refine ⟨by rw [betterV, hr]; rfl, by rw [notify_bad hr]; exact hsame, by rw [ownsV, hr]; rfl, ?_, by rw [askP, h4]; rfl, h4⟩
  have : goneV x n = x := by rw [goneV, hr]; rfl
  rw [this]; exact hsame

end Go.Proofs.YtbjgfcempfpfcaaDoor
