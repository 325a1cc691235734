/- A range over a function whose iterator keeps state of its own in memory: what the two parties promise each other, and the law of the statement. -/
import Derived.Test.YtbjgfcempfpfcaaW
import Derived.RangeFuncNested
import Derived.RangeFuncBound
import Derived.RangeFuncCalls
import Derived.RangeFuncLeaves
import Derived.RangeFuncBox
import Derived.ScopeJumps
import Derived.Shelf.Abstract
import Derived.OwnWalkIn
import Derived.TacticsInMore
import Derived.LoopNIn
import Derived.LoopIn
namespace Go.Proofs.Ytbjgfcempfpfcaa
open Go.RowKit Go.Shelf

/-- The streams are as they were, no block has gone. -/
structure Grows (w w' : World) : Prop where
  os : w'.os = w.os
  tape : w'.tape = w.tape
  output : w'.output = w.output
  size : w.heap.size ≤ w'.heap.size
theorem Grows.refl (w : World) : Grows w w := ⟨rfl, rfl, rfl, Nat.le_refl _⟩
theorem Grows.trans {a b c : World} (h : Grows a b) (k : Grows b c) : Grows a c := ⟨k.os.trans h.os, k.tape.trans h.tape, k.output.trans h.output, Nat.le_trans h.size k.size⟩
theorem Grows.alloc (w : World) (o : Obj) : Grows w (w.alloc o) := ⟨rfl, rfl, rfl, by simp⟩
theorem Grows.putObj (w : World) (l : Nat) (o : Obj) : Grows w (w.putObj l o) := ⟨rfl, rfl, rfl, by simp⟩
theorem Grows.setCell (w : World) (p : Addr) (v : Value) : Grows w (w.setCell p v) := ⟨rfl, rfl, rfl, (KeepsWalks.setCell w p v).size⟩
theorem Grows.of_below {B : Nat} {w w' : World} (h : Below B w w') : Grows w w' := ⟨h.os, h.tape, h.output, h.size⟩

/-- The iterator's step: of what lay, only blocks of T are turned. -/
structure Steps1 (T : Nat → Prop) (A A' : World) : Prop where
  grows : Grows A A'
  block : ∀ k, k < A.heap.size → ¬ T k → A'.heap[k]? = A.heap[k]?
theorem Steps1.refl (T : Nat → Prop) (A : World) : Steps1 T A A := ⟨Grows.refl A, fun _ _ _ => rfl⟩
theorem Steps1.trans {T : Nat → Prop} {A B C : World} (h : Steps1 T A B) (k : Steps1 T B C) : Steps1 T A C :=
  ⟨h.grows.trans k.grows, fun i hi hT => (k.block i (Nat.lt_of_lt_of_le hi h.grows.size) hT).trans (h.block i hi hT)⟩
theorem Steps1.of_below {T : Nat → Prop} {A B : World} (h : Below A.heap.size A B) : Steps1 T A B := ⟨Grows.of_below h, fun k hk _ => h.block k hk⟩
theorem Steps1.setCell {T : Nat → Prop} (A : World) {p : Addr} (hp : T p.block) (v : Value) : Steps1 T A (A.setCell p v) :=
  ⟨Grows.setCell A p v, fun k _ hT => Below.heap_setCell A p v k (fun e => hT (by rw [e]; exact hp))⟩

/-- The round's word to the iterator: blocks of R lie as they lay. -/
structure Keeps1 (R : Nat → Prop) (A A' : World) : Prop where
  grows : Grows A A'
  block : ∀ k, R k → A'.heap[k]? = A.heap[k]?

/-- The contract of an iterator that yields the row xs: its own state lies in T; it leans on R. -/
def IterAt {α : Type} (P : Program) (gf : Nat) (lb : Array Value) (encs : α → Array Value) (T R : Nat → Prop) (xs : List α) (W : World) : Prop :=
  ∀ (l : Nat) (J Jx : List α → World → Prop), (∀ s A A', J s A → Steps1 T A A' → J s A') → (∀ s A A', Jx s A → Steps1 T A A' → Jx s A') →
    (∀ pre x rest W1, xs = pre ++ x :: rest → J pre W1 → YieldAt Fence.wide 0 P l (encs x) W1 fun e W' =>
      (e = .returned (.bool true) ∧ J (pre ++ [x]) W' ∧ Keeps1 R W1 W') ∨ (e = .returned (.bool false) ∧ Jx (pre ++ [x]) W')) →
    J [] W →
    CallsIn Fence.wide 0 P gf (#[.func (.yield l) #[] #[]] ++ lb) W fun e W' => (∃ v, e = .returned v) ∧ (J xs W' ∨ ∃ pre x rest, xs = pre ++ x :: rest ∧ Jx (pre ++ [x]) W')

/-- What the caller's word must abide: the iterator's steps, and the turns of the loop's own records (no cells, from B on). -/
structure Abide (T : Nat → Prop) (B : Nat) (A A' : World) : Prop where
  grows : Grows A A'
  old : ∀ k, k < B → ¬ T k → A'.heap[k]? = A.heap[k]?
  cells : ∀ k o, B ≤ k → A.heap[k]? = some o → o.isCells = true → A'.heap[k]? = some o
def Abides1 {β : Type} (T : Nat → Prop) (B : Nat) (I : β → World → Prop) : Prop := ∀ s A A', I s A → Abide T B A A' → I s A'

theorem Abide.of_steps {T : Nat → Prop} {B : Nat} {A A' : World} (h : Steps1 T A A') (hB : B ≤ A.heap.size) (hT : ∀ k, T k → k < B) : Abide T B A A' :=
  ⟨h.grows, fun k hk hn => h.block k (by omega) hn, fun k o hk ho _ => (h.block k (Array.getElem?_eq_some_iff.1 ho).1 (fun ht => by have := hT k ht; omega)).trans ho⟩
theorem Abide.putObj {T : Nat → Prop} {B : Nat} (A : World) {l : Nat} {o : Obj} (o' : Obj) (hB : B ≤ l) (hl : A.heap[l]? = some o) (ho : o.isCells = false) : Abide T B A (A.putObj l o') :=
  ⟨Grows.putObj A l o', fun k hk _ => World.putObj_heap_other (by omega), fun k o2 _ h2 hc => (World.putObj_heap_other (fun e => by subst e; rw [hl] at h2; cases h2; rw [ho] at hc; cases hc)).trans h2⟩
theorem Abide.alloc {T : Nat → Prop} {B : Nat} (A : World) (o : Obj) (hB : B ≤ A.heap.size) : Abide T B A (A.alloc o) :=
  ⟨Grows.alloc A o, fun k hk _ => Below.heap_alloc A o k (by omega), fun k o2 _ h2 _ => (Below.heap_alloc A o k (Array.getElem?_eq_some_iff.1 h2).1).trans h2⟩
theorem Abide.below {T : Nat → Prop} {B n0 : Nat} {A A' : World} (h : Abide T B A A') (hn : n0 ≤ B) (hT : ∀ k, k < n0 → ¬ T k) : Below n0 A A' :=
  ⟨h.grows.os, h.grows.tape, h.grows.output, h.grows.size, fun k hk => h.old k (by omega) (hT k hk)⟩
theorem Abide.row {T : Nat → Prop} {B : Nat} {A A' : World} (h : Abide T B A A') {k : Nat} {o : Obj} (hT : ¬ T k) (ho : A.heap[k]? = some o) (hc : o.isCells = true) : A'.heap[k]? = some o := by
  rcases Nat.lt_or_ge k B with hk | hk
  · exact (h.old k hk hT).trans ho
  · exact h.cells k o hk ho hc

/-- What the body of a round keeps: the loop's records (no cells, from B on), the blocks of R. -/
structure BodyKeeps (B : Nat) (R : Nat → Prop) (A A' : World) : Prop where
  grows : Grows A A'
  recs : ∀ k o, B ≤ k → A.heap[k]? = some o → o.isCells = false → A'.heap[k]? = some o
  block : ∀ k, R k → A'.heap[k]? = A.heap[k]?
theorem BodyKeeps.refl (B : Nat) (R : Nat → Prop) (A : World) : BodyKeeps B R A A := ⟨Grows.refl A, fun _ _ _ h _ => h, fun _ _ => rfl⟩
theorem BodyKeeps.trans {B : Nat} {R : Nat → Prop} {X Y Z : World} (h : BodyKeeps B R X Y) (k : BodyKeeps B R Y Z) : BodyKeeps B R X Z :=
  ⟨h.grows.trans k.grows, fun i o hB hi ho => k.recs i o hB (h.recs i o hB hi ho) ho, fun i hi => (k.block i hi).trans (h.block i hi)⟩
theorem BodyKeeps.of_below {B : Nat} {R : Nat → Prop} {A A' : World} (h : Below A.heap.size A A') (hR : ∀ k, R k → k < A.heap.size) : BodyKeeps B R A A' :=
  ⟨Grows.of_below h, fun k _ _ ho _ => (h.block k (Array.getElem?_eq_some_iff.1 ho).1).trans ho, fun k hk => h.block k (hR k hk)⟩
theorem BodyKeeps.setCell {B : Nat} {R : Nat → Prop} (A : World) {p : Addr} (hp : ¬ R p.block) (v : Value) : BodyKeeps B R A (A.setCell p v) :=
  ⟨Grows.setCell A p v, fun k o _ ho hc => (KeepsOthers.setCell A p v).same k o ho hc, fun k hk => Below.heap_setCell A p v k (fun e => hp (by rw [← e]; exact hk))⟩

def roundPost1 {α : Type} (B : Nat) (R : Nat → Prop) (I : List α → World → Prop) (Ix : Code → List α → World → Prop) (xs : List α) (W : World) : Exit → Act → World → Prop
  | .normal, _, W' => BodyKeeps B R W W' ∧ I xs W'
  | .ret, _, W' => BodyKeeps B R W W' ∧ Ix .ret xs W'
  | .exit id, _, W' => BodyKeeps B R W W' ∧ Ix (.exit id) xs W'
  | .goto t, _, W' => BodyKeeps B R W W' ∧ Ix (.goto t) xs W'
  | .panic _, _, _ => False
  | .outgrown, _, _ => False

/-- **The law.** -/
theorem wp_rf {P : Program} {α : Type} {g : Operand} {ps : Array Tmp} {assign body : Code} {Q : Exit → Act → World → Prop} {a : Act} {w : World} {gf : Nat} {lb : Array Value}
    (hg : a.eval g = .func (.func gf) #[] lb) (eg : ∀ args w, (callFunc gf args).run P w = .ok (.enter gf args) w)
    {encs : α → Array Value} {T R : Nat → Prop} {xs : List α} (hit : ∀ o1 o2, IterAt P gf lb encs T R xs ((w.alloc o1).alloc o2))
    (hT : ∀ k, T k → k < w.heap.size) (hR : ∀ k, R k → k < w.heap.size) (hps : ∀ x, (encs x).size = ps.size)
    (I : List α → World → Prop) (Ix : Code → List α → World → Prop) (hsz : ∀ s W, I s W → w.heap.size ≤ W.heap.size) (hI : Abides1 T w.heap.size I) (hIx : ∀ c, Abides1 T w.heap.size (Ix c)) (h0 : I [] w) (a₁ : α → Act)
    (hassign : ∀ (l : Nat) (x : α) (W : World) (K : Act → World → Prop), K (a₁ x) W →
      assign.wpIn (Fence.wide.inRound l) 0 P (Exit.then K (fun _ _ _ => False)) { tmps := (ps.zip (encs x)).foldl (fun t (p, v) => t.setIfInBounds p v) a.tmps, defers := [] } W)
    (hbody : ∀ (l : Nat) (pre : List α) (x : α) (rest : List α) (W : World), xs = pre ++ x :: rest → I pre W → body.wpIn (Fence.wide.inRound l) 0 P (roundPost1 w.heap.size R I Ix (pre ++ [x]) W) (a₁ x) W)
    (hdone : ∀ (D : Nat) (W : World), w.heap.size ≤ D → I xs W → W.heap[D]? = some (.deferred (some [])) → Q .normal { a with defers := { target := .collected D, args := #[] } :: a.defers } W)
    (hstop : ∀ (D : Nat) (c : Code) (pre : List α) (x : α) (rest : List α) (W : World), w.heap.size ≤ D → xs = pre ++ x :: rest → Ix c (pre ++ [x]) W → W.heap[D]? = some (.deferred (some [])) →
      c.wp P Q { a with defers := { target := .collected D, args := #[] } :: a.defers } W) :
    (Code.rangeFunc g ps assign body).wp P Q a w := by
  refine (wpIn_wide (n := 0)).1 (wpIn_rangeFunc ?_)
  intro fn hfn
  obtain ⟨rec, hrec⟩ : ∃ rec : LoopState → Option Code → Loop, rec = fun st pe => { state := st, pending := pe, fn, tmps := a.tmps, params := ps, assign, body, defers := w.heap.size } := ⟨_, rfl⟩
  obtain ⟨W1, hW1⟩ : ∃ W1, (w.alloc (.deferred (some []))).alloc (.loop (rec .ready none)) = W1 := ⟨_, rfl⟩
  have hL1 : W1.heap[w.heap.size + 1]? = some (.loop (rec .ready none)) := by
    rw [← hW1]; have := World.alloc_heap_new (w.alloc (.deferred (some []))) (.loop (rec .ready none)); rwa [World.size_alloc] at this
  have hK1 : W1.heap[w.heap.size]? = some (.deferred (some [])) := by
    rw [← hW1]; exact (Below.heap_alloc _ _ _ (by simp)).trans (World.alloc_heap_new w _)
  have hI1 : I [] W1 := by rw [← hW1]; exact hI _ _ _ (hI _ _ _ h0 (Abide.alloc w _ (Nat.le_refl _))) (Abide.alloc _ _ (by simp))
  have hnT : ∀ k, w.heap.size ≤ k → ¬ T k := fun k hk ht => by have := hT k ht; omega
  have hnR : ∀ k, w.heap.size ≤ k → ¬ R k := fun k hk ht => by have := hR k ht; omega
  refine ⟨w.heap.size + 1, [{ target := .collected w.heap.size, args := #[] }], W1, { target := .fn (.func gf) lb, args := #[.func (.yield (w.heap.size + 1)) #[] #[]] }, W1, gf,
    #[.func (.yield (w.heap.size + 1)) #[] #[]] ++ lb, W1, ?_, ?_, ?_, ?_, (fun h => (by cases h)), ?_⟩
  · rw [← hW1, hrec]; exact run_enterLoop_outer _ _ _ _ _
  · simp only [resolve, hg]
    simp [go_sem]
  · intro f' hf'; trivial
  · simp [invoke, go_sem, eg]
  · have hitW : IterAt P gf lb encs T R xs W1 := by rw [← hW1]; exact hit _ _
    refine (hitW (w.heap.size + 1)
      (fun pre W => I pre W ∧ W.heap[w.heap.size + 1]? = some (.loop (rec .ready none)) ∧ W.heap[w.heap.size]? = some (.deferred (some [])))
      (fun pre W => ∃ c, Ix c pre W ∧ w.heap.size + 1 < W.heap.size ∧ W.heap[w.heap.size + 1]? = some (.loop (rec .done (some c))) ∧ W.heap[w.heap.size]? = some (.deferred (some [])))
      (fun s A B hs hst => ⟨hI s A B hs.1 (Abide.of_steps hst (hsz _ _ hs.1) hT), (hst.block _ (Array.getElem?_eq_some_iff.1 hs.2.1).1 (hnT _ (by omega))).trans hs.2.1, (hst.block _ (Array.getElem?_eq_some_iff.1 hs.2.2).1 (hnT _ (by omega))).trans hs.2.2⟩)
      (fun s A B hs hst => by
        obtain ⟨c, hc, hlt, hl, hk⟩ := hs
        exact ⟨c, hIx c s A B hc (Abide.of_steps hst (by omega) hT), Nat.lt_of_lt_of_le hlt hst.grows.size, (hst.block _ hlt (hnT _ (by omega))).trans hl, (hst.block _ (by omega) (hnT _ (by omega))).trans hk⟩)
      ?_ ⟨hI1, hL1, hK1⟩).mono ?_
    · rintro pre x rest W hxs ⟨hi, hl, hk⟩
      have hlt : w.heap.size + 1 < W.heap.size := (Array.getElem?_eq_some_iff.1 hl).1
      have hy := run_yield (P := P) (args := encs x) hl (by rw [hrec]; exact hps x)
      rw [hrec] at hy
      refine ⟨fn, _, assign, body, hy, roundIn_of_wpIn trivial (hassign _ x W _ ⟨_, run_beginRound hl (by rw [hrec]), ?_⟩)⟩
      have hl2 : (W.putObj (w.heap.size + 1) (.loop { rec .ready none with state := .busy })).heap[w.heap.size + 1]? = some (.loop { rec .ready none with state := .busy }) := World.putObj_heap_same hlt
      have hk2 : (W.putObj (w.heap.size + 1) (.loop { rec .ready none with state := .busy })).heap[w.heap.size]? = some (.deferred (some [])) := (World.putObj_heap_other (by omega)).trans hk
      refine wpIn_mono (hbody _ pre x rest _ hxs (hI _ _ _ hi (Abide.putObj W _ (by omega) hl rfl))) ?_
      have fin : ∀ (jump : Option Code) (W3 : World), BodyKeeps w.heap.size R (W.putObj (w.heap.size + 1) (.loop { rec .ready none with state := .busy })) W3 →
          (Instr.endRound (w.heap.size + 1) jump).run P W3 = .ok (.bool jump.isNone) (W3.putObj (w.heap.size + 1) (.loop (rec (if jump.isNone then .ready else .done) jump))) ∧
          W3.heap[w.heap.size + 1]? = some (.loop { rec .ready none with state := .busy }) ∧
          (W3.putObj (w.heap.size + 1) (.loop (rec (if jump.isNone then .ready else .done) jump))).heap[w.heap.size + 1]? = some (.loop (rec (if jump.isNone then .ready else .done) jump)) ∧
          (W3.putObj (w.heap.size + 1) (.loop (rec (if jump.isNone then .ready else .done) jump))).heap[w.heap.size]? = some (.deferred (some [])) := fun jump W3 hk3 => by
        have hl3 := hk3.recs _ _ (by omega) hl2 rfl
        have := run_endRound (P := P) jump hl3
        rw [hrec] at this ⊢
        exact ⟨this, by rw [hrec] at hl3; exact hl3, World.putObj_heap_same (Array.getElem?_eq_some_iff.1 hl3).1, (World.putObj_heap_other (by omega)).trans (hk3.recs _ _ (Nat.le_refl _) hk2 rfl)⟩
      have lt3 : ∀ (W3 : World) (o : Obj), W3.heap[w.heap.size + 1]? = some o → w.heap.size + 1 < W3.heap.size := fun W3 o h => (Array.getElem?_eq_some_iff.1 h).1
      rintro e a3 W3 hp
      cases e with
      | normal =>
        obtain ⟨hk3, hi3⟩ := hp
        obtain ⟨hr, hl3, hl4, hk4⟩ := fin none W3 hk3
        refine ⟨_, _, hr, .inl ⟨rfl, ⟨hI _ _ _ hi3 (Abide.putObj W3 _ (by omega) hl3 rfl), hl4, hk4⟩, ⟨(Grows.putObj W _ _).trans (hk3.grows.trans (Grows.putObj W3 _ _)), fun k hkR => ?_⟩⟩⟩
        have hne : k ≠ w.heap.size + 1 := by have := hR k hkR; omega
        exact (World.putObj_heap_other hne).trans ((hk3.block k hkR).trans (World.putObj_heap_other hne))
      | ret =>
        obtain ⟨hk3, hi3⟩ := hp
        obtain ⟨hr, hl3, hl4, hk4⟩ := fin (some .ret) W3 hk3
        exact ⟨_, _, hr, .inr ⟨rfl, .ret, hIx _ _ _ _ hi3 (Abide.putObj W3 _ (by omega) hl3 rfl), by have := lt3 _ _ hl4; exact this, hl4, hk4⟩⟩
      | exit id =>
        obtain ⟨hk3, hi3⟩ := hp
        obtain ⟨hr, hl3, hl4, hk4⟩ := fin (some (.exit id)) W3 hk3
        exact ⟨_, _, hr, .inr ⟨rfl, .exit id, hIx _ _ _ _ hi3 (Abide.putObj W3 _ (by omega) hl3 rfl), by have := lt3 _ _ hl4; exact this, hl4, hk4⟩⟩
      | goto t =>
        obtain ⟨hk3, hi3⟩ := hp
        obtain ⟨hr, hl3, hl4, hk4⟩ := fin (some (.goto t)) W3 hk3
        exact ⟨_, _, hr, .inr ⟨rfl, .goto t, hIx _ _ _ _ hi3 (Abide.putObj W3 _ (by omega) hl3 rfl), by have := lt3 _ _ hl4; exact this, hl4, hk4⟩⟩
      | panic ch => exact hp.elim
      | outgrown => exact hp.elim
    · rintro e W2 ⟨⟨v, rfl⟩, (⟨hi, hl, hk⟩ | ⟨pre, x, rest, hxs, c, hi, hlt, hl, hk⟩)⟩
      · exact ⟨none, _, by have := run_endLoop (P := P) hl (by rw [hrec]; simp); rw [hrec] at this; exact this, hdone _ _ (Nat.le_refl _) (hI _ _ _ hi (Abide.putObj W2 _ (by omega) hl rfl)) ((World.putObj_heap_other (by omega)).trans hk)⟩
      · exact ⟨some c, _, by have := run_endLoop (P := P) hl (by rw [hrec]; simp); rw [hrec] at this; exact this, wpIn_wide.2 (hstop _ c pre x rest _ (Nat.le_refl _) hxs (hIx c _ _ _ hi (Abide.putObj W2 _ (by omega) hl rfl)) ((World.putObj_heap_other (by omega)).trans hk))⟩

/-- A function that holds a range over a function: its contract out of its body. -/
theorem calls_of_wp_marks {P : Program} {f : FuncId} {fn : Func} {c : Code} {args : Array Value} {w : World} {R : Ending → World → Prop}
    (hf : P.funcs[f]? = some fn) (hb : fn.body = some c)
    (h : c.wp P (bodyPostM Fence.wide 0 P fn R) { tmps := args ++ Array.replicate (fn.ntmps - args.size) undef, defers := [] } w) : Calls P f args w R :=
  (callsIn_wide (n := 0)).1 (callsIn_of_wp_marks hf hb trivial (wpIn_wide.2 h))

/-- The function's end with one mark, with none. -/
theorem leave_mark {P : Program} {fn : Func} {R : Ending → World → Prop} {tmps : Array Value} {D : Nat} {W : World} {v : Value}
    (hK : W.heap[D]? = some (.deferred (some []))) (hr : (results fn tmps).run P (W.putObj D (.deferred none)) = .ok v (W.putObj D (.deferred none))) (hR : R (.returned v) (W.putObj D (.deferred none))) :
    LeavesInM Fence.wide 0 P fn tmps R [{ target := .collected D, args := #[] }] .returning W :=
  ⟨by simp, .inl ⟨_, _, rfl, run_takeDeferred hK, v, hr, hR⟩⟩
theorem leave_plain {P : Program} {fn : Func} {R : Ending → World → Prop} {tmps : Array Value} {W : World} {v : Value}
    (hr : (results fn tmps).run P W = .ok v W) (hR : R (.returned v) W) : LeavesInM Fence.wide 0 P fn tmps R [] .returning W := ⟨v, hr, hR⟩
theorem below_mark {n0 D : Nat} {W : World} {o' : Obj} (hn : n0 ≤ D) : Below n0 W (W.putObj D o') :=
  ⟨rfl, rfl, rfl, by simp, fun k hk => World.putObj_heap_other (by omega)⟩

theorem box_putObj {W : World} {B D : Nat} {t : TypeId} {v : Value} (h : Boxed W B t v) (hne : B ≠ D) (o : Obj) : Boxed (W.putObj D o) B t v := (World.putObj_heap_other hne).trans h
theorem box_abide {T : Nat → Prop} {L : Nat} {A A' : World} {B : Nat} {t : TypeId} {v : Value} (h : Boxed A B t v) (ha : Abide T L A A') (hT : ¬ T B) : Boxed A' B t v := ha.row hT h rfl
theorem box_below {W W' : World} {B L : Nat} {t : TypeId} {v : Value} (h : Boxed W B t v) (hb : Below L W W') (hB : B < L) : Boxed W' B t v := (hb.block B hB).trans h

/-- What stands behind a label: one constant into a slot, then the return. -/
theorem jump_assign {P : Program} {Q : Exit → Act → World → Prop} {a : Act} {w : World} {id t : Nat} {v : Value} {ty : TypeId} {pos : String} {af : Array Edge} (h : Q .ret (a.put (some t) v) w) :
    ((Code.region id #[{ dst := some t, op := .assign (.const v), type := ty, pos := pos, after := af, guard := none }] false).seq .ret).wp P Q a w := by
  refine wp_seq (wp_region_lit (l := [_]) (wpList_plain rfl fun K hK => ?_))
  have h2 := hK _ w (wpList_nil (P := P) (ops := #[{ dst := some t, op := .assign (.const v), type := ty, pos := pos, after := af, guard := none }]) (Q := Exit.then (Code.ret.wp P Q) Q) (a := a.put (some t) v) (w := w) (wp_ret h))
  simpa [Oper.wp, execOp, Oper.upon, Act.eval] using h2
theorem put_getD {a : Act} {t : Nat} {v : Value} (h : t < a.tmps.size) : (a.put (some t) v).tmps.getD t undef = v := by
  simp [Act.put, h]

end Go.Proofs.Ytbjgfcempfpfcaa
