/- A range over a function whose round's variable is a box of its own. -/
import Derived.Test.YtbjgfcempfpfcaaDE
namespace Go.Proofs.Ytbjgfcempfpfcaa
open Go.RowKit Go.Shelf

theorem Abide.of_below' {T : Nat → Prop} {B : Nat} {A A' : World} (h : Below A.heap.size A A') (hB : B ≤ A.heap.size) : Abide T B A A' :=
  ⟨Grows.of_below h, fun k hk _ => h.block k (by omega), fun k o _ ho _ => (h.block k (Array.getElem?_eq_some_iff.1 ho).1).trans ho⟩

/-- The law where the round's variable is a box of its own. -/
theorem wp_rf2 {P : Program} {α : Type} {g : Operand} {ps : Array Tmp} {assign body : Code} {Q : Exit → Act → World → Prop} {a : Act} {w : World} {gf : Nat} {lb : Array Value}
    (hg : a.eval g = .func (.func gf) #[] lb) (eg : ∀ args w, (callFunc gf args).run P w = .ok (.enter gf args) w)
    {encs : α → Array Value} {T R : Nat → Prop} {xs : List α} (hit : ∀ o1 o2, IterAt P gf lb encs T R xs ((w.alloc o1).alloc o2))
    (hT : ∀ k, T k → k < w.heap.size) (hR : ∀ k, R k → k < w.heap.size) (hps : ∀ x, (encs x).size = ps.size)
    (I : List α → World → Prop) (Ix : Code → List α → World → Prop) (hsz : ∀ s W, I s W → w.heap.size ≤ W.heap.size) (hI : Abides1 T w.heap.size I) (hIx : ∀ c, Abides1 T w.heap.size (Ix c)) (h0 : I [] w) (S : α → Act → World → Prop) (hS : ∀ x a A A', S x a A → Abide T w.heap.size A A' → S x a A')
    (hassign : ∀ (l : Nat) (pre : List α) (x : α) (W : World) (K : Act → World → Prop), I pre W → (∀ a' W', S x a' W' → Below W.heap.size W W' → K a' W') →
      assign.wpIn (Fence.wide.inRound l) 0 P (Exit.then K (fun _ _ _ => False)) { tmps := (ps.zip (encs x)).foldl (fun t (p, v) => t.setIfInBounds p v) a.tmps, defers := [] } W)
    (hbody : ∀ (l : Nat) (pre : List α) (x : α) (rest : List α) (a' : Act) (W : World), xs = pre ++ x :: rest → I pre W → S x a' W → body.wpIn (Fence.wide.inRound l) 0 P (roundPost1 w.heap.size R I Ix (pre ++ [x]) W) a' W)
    (hdone : ∀ (D : Nat) (W : World), w.heap.size ≤ D → I xs W → W.heap[D]? = some (.deferred (some [])) → Q .normal { a with defers := { target := .collected D, args := #[] } :: a.defers } W)
    (hstop : ∀ (D : Nat) (c : Code) (pre : List α) (x : α) (rest : List α) (W : World), w.heap.size ≤ D → xs = pre ++ x :: rest → Ix c (pre ++ [x]) W → W.heap[D]? = some (.deferred (some [])) →
      c.wp P Q { a with defers := { target := .collected D, args := #[] } :: a.defers } W) :
    (Code.rangeFunc g ps assign body).wp P Q a w := by
  refine (wpIn_wide (n := 0)).1 (wpIn_rangeFunc ?_)
  intro fn hfn
  obtain ⟨rec, hrec⟩ : ∃ rec : LoopState → Option Code → Loop, rec = fun st pe => { state := st, pending := pe, fn, tmps := a.tmps, params := ps, assign, body, defers := w.heap.size } := ⟨_, rfl⟩
  obtain ⟨W1, hW1⟩ : ∃ W1, (w.alloc (.deferred (some []))).alloc (.loop (rec .ready none)) = W1 := ⟨_, rfl⟩
  have hL1 : W1.heap[w.heap.size + 1]? = some (.loop (rec .ready none)) := by
    rw [← hW1]; have := World.alloc_heap_new (w.alloc (.deferred (some []))) (.loop (rec .ready none)); rwa [World.size_alloc] at this
  have hK1 : W1.heap[w.heap.size]? = some (.deferred (some [])) := by
    rw [← hW1]; exact (Below.heap_alloc _ _ _ (by simp)).trans (World.alloc_heap_new w _)
  have hI1 : I [] W1 := by rw [← hW1]; exact hI _ _ _ (hI _ _ _ h0 (Abide.alloc w _ (Nat.le_refl _))) (Abide.alloc _ _ (by simp))
  have hnT : ∀ k, w.heap.size ≤ k → ¬ T k := fun k hk ht => by have := hT k ht; omega
  have hnR : ∀ k, w.heap.size ≤ k → ¬ R k := fun k hk ht => by have := hR k ht; omega
  refine ⟨w.heap.size + 1, [{ target := .collected w.heap.size, args := #[] }], W1, { target := .fn (.func gf) lb, args := #[.func (.yield (w.heap.size + 1)) #[] #[]] }, W1, gf,
    #[.func (.yield (w.heap.size + 1)) #[] #[]] ++ lb, W1, ?_, ?_, ?_, ?_, (fun h => (by cases h)), ?_⟩
  · rw [← hW1, hrec]; exact run_enterLoop_outer _ _ _ _ _
  · simp only [resolve, hg]
    simp [go_sem]
  · intro f' hf'; trivial
  · simp [invoke, go_sem, eg]
  · have hitW : IterAt P gf lb encs T R xs W1 := by rw [← hW1]; exact hit _ _
    refine (hitW (w.heap.size + 1)
      (fun pre W => I pre W ∧ W.heap[w.heap.size + 1]? = some (.loop (rec .ready none)) ∧ W.heap[w.heap.size]? = some (.deferred (some [])))
      (fun pre W => ∃ c, Ix c pre W ∧ w.heap.size + 1 < W.heap.size ∧ W.heap[w.heap.size + 1]? = some (.loop (rec .done (some c))) ∧ W.heap[w.heap.size]? = some (.deferred (some [])))
      (fun s A B hs hst => ⟨hI s A B hs.1 (Abide.of_steps hst (hsz _ _ hs.1) hT), (hst.block _ (Array.getElem?_eq_some_iff.1 hs.2.1).1 (hnT _ (by omega))).trans hs.2.1, (hst.block _ (Array.getElem?_eq_some_iff.1 hs.2.2).1 (hnT _ (by omega))).trans hs.2.2⟩)
      (fun s A B hs hst => by
        obtain ⟨c, hc, hlt, hl, hk⟩ := hs
        exact ⟨c, hIx c s A B hc (Abide.of_steps hst (by omega) hT), Nat.lt_of_lt_of_le hlt hst.grows.size, (hst.block _ hlt (hnT _ (by omega))).trans hl, (hst.block _ (by omega) (hnT _ (by omega))).trans hk⟩)
      ?_ ⟨hI1, hL1, hK1⟩).mono ?_
    · rintro pre x rest W hxs ⟨hi, hl, hk⟩
      have hlt : w.heap.size + 1 < W.heap.size := (Array.getElem?_eq_some_iff.1 hl).1
      have hy := run_yield (P := P) (args := encs x) hl (by rw [hrec]; exact hps x)
      rw [hrec] at hy
      refine ⟨fn, _, assign, body, hy, roundIn_of_wpIn trivial (hassign _ pre x W _ hi fun a1 V hs1 hb1 => ⟨_, run_beginRound ((hb1.block _ hlt).trans hl) (by rw [hrec]), ?_⟩)⟩
      have hlV := (hb1.block _ hlt).trans hl
      have hkV := (hb1.block _ (by omega)).trans hk
      have hltV := Nat.lt_of_lt_of_le hlt hb1.size
      have hiV := hI _ _ _ hi (Abide.of_below' hb1 (hsz _ _ hi))
      have hl2 : (V.putObj (w.heap.size + 1) (.loop { rec .ready none with state := .busy })).heap[w.heap.size + 1]? = some (.loop { rec .ready none with state := .busy }) := World.putObj_heap_same hltV
      have hk2 : (V.putObj (w.heap.size + 1) (.loop { rec .ready none with state := .busy })).heap[w.heap.size]? = some (.deferred (some [])) := (World.putObj_heap_other (by omega)).trans hkV
      refine wpIn_mono (hbody _ pre x rest _ _ hxs (hI _ _ _ hiV (Abide.putObj V _ (by omega) hlV rfl)) (hS _ _ _ _ hs1 (Abide.putObj V _ (by omega) hlV rfl))) ?_
      have fin : ∀ (jump : Option Code) (W3 : World), BodyKeeps w.heap.size R (V.putObj (w.heap.size + 1) (.loop { rec .ready none with state := .busy })) W3 →
          (Instr.endRound (w.heap.size + 1) jump).run P W3 = .ok (.bool jump.isNone) (W3.putObj (w.heap.size + 1) (.loop (rec (if jump.isNone then .ready else .done) jump))) ∧
          W3.heap[w.heap.size + 1]? = some (.loop { rec .ready none with state := .busy }) ∧
          (W3.putObj (w.heap.size + 1) (.loop (rec (if jump.isNone then .ready else .done) jump))).heap[w.heap.size + 1]? = some (.loop (rec (if jump.isNone then .ready else .done) jump)) ∧
          (W3.putObj (w.heap.size + 1) (.loop (rec (if jump.isNone then .ready else .done) jump))).heap[w.heap.size]? = some (.deferred (some [])) := fun jump W3 hk3 => by
        have hl3 := hk3.recs _ _ (by omega) hl2 rfl
        have := run_endRound (P := P) jump hl3
        rw [hrec] at this ⊢
        exact ⟨this, by rw [hrec] at hl3; exact hl3, World.putObj_heap_same (Array.getElem?_eq_some_iff.1 hl3).1, (World.putObj_heap_other (by omega)).trans (hk3.recs _ _ (Nat.le_refl _) hk2 rfl)⟩
      have lt3 : ∀ (W3 : World) (o : Obj), W3.heap[w.heap.size + 1]? = some o → w.heap.size + 1 < W3.heap.size := fun W3 o h => (Array.getElem?_eq_some_iff.1 h).1
      rintro e a3 W3 hp
      cases e with
      | normal =>
        obtain ⟨hk3, hi3⟩ := hp
        obtain ⟨hr, hl3, hl4, hk4⟩ := fin none W3 hk3
        refine ⟨_, _, hr, .inl ⟨rfl, ⟨hI _ _ _ hi3 (Abide.putObj W3 _ (by omega) hl3 rfl), hl4, hk4⟩, ⟨(Grows.of_below hb1).trans ((Grows.putObj V _ _).trans (hk3.grows.trans (Grows.putObj W3 _ _))), fun k hkR => ?_⟩⟩⟩
        have hne : k ≠ w.heap.size + 1 := by have := hR k hkR; omega
        exact (World.putObj_heap_other hne).trans ((hk3.block k hkR).trans ((World.putObj_heap_other hne).trans (hb1.block k (by have := hR k hkR; have := hsz _ _ hi; omega))))
      | ret =>
        obtain ⟨hk3, hi3⟩ := hp
        obtain ⟨hr, hl3, hl4, hk4⟩ := fin (some .ret) W3 hk3
        exact ⟨_, _, hr, .inr ⟨rfl, .ret, hIx _ _ _ _ hi3 (Abide.putObj W3 _ (by omega) hl3 rfl), by have := lt3 _ _ hl4; exact this, hl4, hk4⟩⟩
      | exit id =>
        obtain ⟨hk3, hi3⟩ := hp
        obtain ⟨hr, hl3, hl4, hk4⟩ := fin (some (.exit id)) W3 hk3
        exact ⟨_, _, hr, .inr ⟨rfl, .exit id, hIx _ _ _ _ hi3 (Abide.putObj W3 _ (by omega) hl3 rfl), by have := lt3 _ _ hl4; exact this, hl4, hk4⟩⟩
      | goto t =>
        obtain ⟨hk3, hi3⟩ := hp
        obtain ⟨hr, hl3, hl4, hk4⟩ := fin (some (.goto t)) W3 hk3
        exact ⟨_, _, hr, .inr ⟨rfl, .goto t, hIx _ _ _ _ hi3 (Abide.putObj W3 _ (by omega) hl3 rfl), by have := lt3 _ _ hl4; exact this, hl4, hk4⟩⟩
      | panic ch => exact hp.elim
      | outgrown => exact hp.elim
    · rintro e W2 ⟨⟨v, rfl⟩, (⟨hi, hl, hk⟩ | ⟨pre, x, rest, hxs, c, hi, hlt, hl, hk⟩)⟩
      · exact ⟨none, _, by have := run_endLoop (P := P) hl (by rw [hrec]; simp); rw [hrec] at this; exact this, hdone _ _ (Nat.le_refl _) (hI _ _ _ hi (Abide.putObj W2 _ (by omega) hl rfl)) ((World.putObj_heap_other (by omega)).trans hk)⟩
      · exact ⟨some c, _, by have := run_endLoop (P := P) hl (by rw [hrec]; simp); rw [hrec] at this; exact this, wpIn_wide.2 (hstop _ c pre x rest _ (Nat.le_refl _) hxs (hIx c _ _ _ hi (Abide.putObj W2 _ (by omega) hl rfl)) ((World.putObj_heap_other (by omega)).trans hk))⟩

end Go.Proofs.Ytbjgfcempfpfcaa
