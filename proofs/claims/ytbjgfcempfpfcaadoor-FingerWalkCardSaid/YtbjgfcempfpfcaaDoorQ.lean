/- Contract: rect.Notify. -/
import Derived.Test.YtbjgfcempfpfcaaDoorP
namespace Go.Proofs.YtbjgfcempfpfcaaDoor
open Go.RowKit Go.Shelf

attribute [local go_sem] Oper.semAt_some

/-- What holds where rect.Notify jumps to its end. -/
def NJ (w : World) (x : View) (a : Act) (W : World) : Prop := ∃ t0 t1 t3 t5 t6 t7 t8 t9 t10 t11 t12 t13 t14 t15 t16 t17 : Value, ∃ (E1 : Option Addr) (f1 : Nat) (E2 : Option Addr) (f2 : Nat), a = { tmps := #[t0, t1, .pointer (some ⟨w.heap.size, 0, none⟩), t3, .pointer (some ⟨w.heap.size + 1, 0, none⟩), t5, t6, t7, t8, t9, t10, t11, t12, t13, t14, t15, t16, t17], defers := [] } ∧
  Two w W w.heap.size (w.heap.size + 1) x View.zero E1 f1 E2 f2 none 0 none 0 ∧ RepV W x E1 f1 E2 f2 ∧ Hid ((∀ b off, E1 = some ⟨b, off, none⟩ → w.heap.size + 1 < b) ∧ ∀ b off, E2 = some ⟨b, off, none⟩ → w.heap.size + 1 < b)

theorem right_withPred {x : View} (h : rightV x = true) {n : Int} (hn : other x.id n = true) : rightV (x.withPred n) = true := by
  simp only [rightV, headOk, Bool.and_eq_true] at h ⊢
  exact ⟨⟨⟨h.1.1.1, hn⟩, h.1.2⟩, h.2⟩
theorem right_told {x : View} (h : rightV x = true) (n : Int) : rightV (toldV x n) = true := by
  unfold toldV
  split
  · rename_i hb
    simp only [betterV, Bool.and_eq_true] at hb
    exact right_withPred h (by simp only [other, hb.2.1, hb.2.2.1]; simp)
  · exact h
theorem step_told {p : View × List Int} (h : rightV p.1 = true) (n : Int) : (stepP p n).1 = toldV p.1 n := by
  unfold stepP toldV
  rw [bt_of_right h]
  split <;> rfl
theorem acc_told (l : List Int) : ∀ p : View × List Int, rightV p.1 = true → (l.foldl stepP p).1 = l.foldl toldV p.1 := by
  induction l with
  | nil => intro p _; rfl
  | cons n l ih =>
    intro p h
    rw [List.foldl_cons, List.foldl_cons, ih _ (by rw [step_told h]; exact right_told h n), step_told h]
theorem acc_fold (x : View) (l : List Int) : ∀ p : View × List Int, p.2.foldl View.withPred x = p.1 → (l.foldl stepP p).2.foldl View.withPred x = (l.foldl stepP p).1 := by
  induction l with
  | nil => intro p h; exact h
  | cons n l ih =>
    intro p h
    rw [List.foldl_cons]
    refine ih _ ?_
    unfold stepP
    split
    · rw [List.foldl_append, h]; rfl
    · exact h
theorem notify_acc {x : View} (h : rightV x = true) (l : List Int) : (accP x l).2.foldl View.withPred x = notifyV x l := by
  rw [accP, acc_fold x l (x, []) rfl, acc_told l (x, []) h]; rfl
theorem fold_same (l : List Int) (x : View) : (l.foldl View.withPred x).base = x.base ∧ (l.foldl View.withPred x).list = x.list := by
  induction l generalizing x with
  | nil => exact ⟨rfl, rfl⟩
  | cons n l ih => exact ih (x.withPred n)
theorem notify_bad {x : View} (h : rightV x = false) (l : List Int) : notifyV x l = x := by
  induction l with
  | nil => rfl
  | cons n l ih =>
    have : toldV x n = x := told_no (by rw [betterV, h]; rfl)
    rw [notifyV, List.foldl_cons, this]; exact ih

theorem Sl.heap2 {w w' : World} {A : Option Addr} {c : Nat} {xs : List Int} (h : Sl w A c xs) (hs : w.heap.size ≤ w'.heap.size) (hk : ∀ b off, b < w.heap.size → A = some ⟨b, off, none⟩ → w'.heap[b]? = w.heap[b]?) : Sl w' A c xs :=
  ⟨h.cap, h.small, h.nil_, fun hn => by
    obtain ⟨b, off, e, hlt, hc⟩ := h.at_ hn
    exact ⟨b, off, e, by omega, fun k hkk => (World.cell?_of_block (a := ⟨b, off + k, none⟩) (hk b off hlt e)).trans (hc k hkk)⟩⟩
theorem VBox.abide {T : Nat → Prop} {L : Nat} {A A' : World} {B : Nat} {x : View} {A1 A2 : Option Addr} {c1 c2 : Nat} (h : VBox A B x A1 c1 A2 c2) (ha : Abide T L A A') (hT : ¬ T B) : VBox A' B x A1 c1 A2 c2 := ha.row hT h rfl
theorem foldl_snoc (x : View) (l : List Int) (n : Int) : (l ++ [n]).foldl View.withPred x = (l.foldl View.withPred x).withPred n := by rw [List.foldl_append]; rfl

end Go.Proofs.YtbjgfcempfpfcaaDoor
