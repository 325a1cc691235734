/- Contract: the iterator over the fingers that are told at once. -/
import Derived.Test.YtbjgfcempfpfcaaDoorCC
import Derived.Test.YtbjgfcempfpfcaaDoorCD
import Derived.Test.YtbjgfcempfpfcaaDoorP
namespace Go.Proofs.YtbjgfcempfpfcaaDoor
open Go.RowKit Go.Shelf

theorem wpIn_scope_label {F : Fence} {n : Nat} {P : Program} {a : Act} {w : World} {Q : Exit → Act → World → Prop} {X : Code} (l : Nat) (J : Act → World → Prop) (μ : Act → World → Nat) (h0 : J a w)
    (pass : ∀ a w, J a w → X.wpIn F n P (Exit.jump l (fun a' w' => J a' w' ∧ μ a' w' < μ a w) Q) a w) : (Code.scope (Code.seq (Code.label l) X)).wpIn F n P Q a w :=
  wpIn_scope_jumps (rest := Code.seq Code.skip X) l J μ (by simp [findLabel])
    (wpIn_seq (wpIn_label (wpIn_mono (pass a w h0) (fun e a w q => by cases e <;> first | exact q | exact ⟨q.1, q.2.1⟩))))
    (fun a w h => wpIn_seq (wpIn_skip (pass a w h)))

/-- How far one goes. -/
def walkTo (x : View) : Nat → Nat → Nat
  | 0, i => i
  | n + 1, i => if onceF x i then walkTo x n (i + 1) else i
theorem walkTo_ge (x : View) : ∀ n i, i ≤ walkTo x n i
  | 0, i => Nat.le_refl _
  | n + 1, i => by
    unfold walkTo; split
    · exact Nat.le_trans (Nat.le_succ _) (walkTo_ge x n (i + 1))
    · exact Nat.le_refl _
theorem walkTo_all (x : View) : ∀ n i k, i ≤ k → k < walkTo x n i → onceF x k = true
  | 0, i, k, h1, h2 => by simp only [walkTo] at h2; omega
  | n + 1, i, k, h1, h2 => by
    unfold walkTo at h2
    split at h2
    · rename_i h
      rcases Nat.eq_or_lt_of_le h1 with rfl | h3
      · exact h
      · exact walkTo_all x n (i + 1) k h3 h2
    · omega
theorem once_lt {x : View} {i : Int} (h : onceF x i = true) : 0 ≤ i ∧ i < 16 ∧ rightV x = true := by
  simp only [onceF, knownF, Bool.and_eq_true, decide_eq_true_eq] at h
  exact ⟨h.1.1, h.1.2.1, h.1.2.2⟩
theorem walkTo_end (x : View) : ∀ n i, 16 ≤ n + i → onceF x (walkTo x n i) = false
  | 0, i, h => by
    rw [Bool.eq_false_iff]; intro h1
    have := once_lt h1; simp only [walkTo] at this; omega
  | n + 1, i, h => by
    unfold walkTo
    split
    · exact walkTo_end x n (i + 1) (by omega)
    · rename_i h1; simpa using h1
def walkJ (x : View) (i : Nat) : Nat := walkTo x 16 i
theorem walkJ_ge (x : View) (i : Nat) : i ≤ walkJ x i := walkTo_ge x 16 i
theorem walkJ_all {x : View} {i k : Nat} (h1 : i ≤ k) (h2 : k < walkJ x i) : onceF x k = true := walkTo_all x 16 i k h1 h2
theorem walkJ_end (x : View) (i : Nat) : onceF x (walkJ x i) = false := walkTo_end x 16 i (by omega)
theorem walkJ_le {x : View} {i : Nat} (h : i ≤ 16) : walkJ x i ≤ 16 := by
  rcases Nat.lt_or_ge 16 (walkJ x i) with h1 | h1
  · have := once_lt (walkJ_all (x := x) (i := i) (k := 16) h h1); omega
  · exact h1
abbrev pairsW (x : View) (i : Nat) (k : Nat) : List Nat := List.range' i (k - i)
theorem pairs_split {i k j : Nat} (h1 : i ≤ k) (h2 : k < j) : List.range' i (j - i) = List.range' i (k - i) ++ k :: List.range' (k + 1) (j - k - 1) := by
  have e1 : j - i = (k - i) + (j - k - 1 + 1) := by omega
  have e2 : i + (k - i) = k := by omega
  rw [e1, ← List.range'_append_1, e2, List.range'_succ]
theorem pairs_next {i k : Nat} (h : i ≤ k) : List.range' i (k - i) ++ [k] = List.range' i (k + 1 - i) := by
  have := pairs_split (j := k + 1) h (Nat.lt_succ_self k)
  rw [this]; simp

abbrev encF (x : View) (k : Nat) : Array Value := #[.int .i64 k, .int .i64 (firstV x)]
theorem Sl.heap3 {w w' : World} {A : Option Addr} {c : Nat} {xs : List Int} (h : Sl w A c xs) (hs : w.heap.size ≤ w'.heap.size) (hk : 0 < xs.length → ∀ b off, A = some ⟨b, off, none⟩ → w'.heap[b]? = w.heap[b]?) : Sl w' A c xs :=
  ⟨h.cap, h.small, h.nil_, fun hn => by
    obtain ⟨b, off, e, hlt, hc⟩ := h.at_ hn
    exact ⟨b, off, e, by omega, fun k hkk => (World.cell?_of_block (a := ⟨b, off + k, none⟩) (hk hn b off e)).trans (hc k hkk)⟩⟩
theorem RepV.low {w0 w w' : World} {x : View} {A1 A2 : Option Addr} {c1 c2 : Nat} (h0 : RepV w0 x A1 c1 A2 c2) (h : RepV w x A1 c1 A2 c2) (hs : w.heap.size ≤ w'.heap.size) (hk : ∀ b, b < w0.heap.size → w'.heap[b]? = w.heap[b]?) : RepV w' x A1 c1 A2 c2 :=
  ⟨h.base.heap3 hs (fun hn b off e => hk b (h0.base.lt hn e)), h.list.heap3 hs (fun hn b off e => hk b (h0.list.lt hn e))⟩
theorem Steps.low {w0 w w' : World} (h0 : Steps w0) (h : Steps w) (hs : w.heap.size ≤ w'.heap.size) (hk : ∀ b, b < w0.heap.size → w'.heap[b]? = w.heap[b]?) : Steps w' :=
  ⟨Nat.lt_of_lt_of_le h.1 hs, fun k hkk => (World.cell?_of_block (a := ⟨0, k, none⟩) (hk 0 h0.1)).trans (h.2 k hkk)⟩

def boxNat (W : World) (b : Nat) : Nat := match W.cell? ⟨b, 0, none⟩ with
  | some (.int _ n) => n.toNat
  | _ => 0

set_option maxRecDepth 100000 in
set_option maxHeartbeats 1000000 in
theorem finger_once (x : View) (A1 A2 : Option Addr) (c1 c2 : Nat) (i : Int) (w : World) :
    Calls Tryd.prog 57 #[x.v A1 c1 A2 c2, .int .i64 i] w fun e w' => e = .returned (.func (.func 84) #[] #[.pointer (some ⟨w.heap.size, 0, none⟩), .pointer (some ⟨w.heap.size + 1, 0, none⟩)]) ∧
      (w.alloc (.cells (x.cells A1 c1 A2 c2) 25)).alloc (.cells #[.int .i64 i] 3) = w' := by
  unfold View.v
  go_enter Tryd.func57, Tryd.ntmps57
  go_wp2
  go_ret
  exact ⟨rfl, rfl⟩

/-- What holds where the iterator comes round. -/
def KJ (x : View) (A1 A2 : Option Addr) (c1 c2 : Nat) (i0 bv bi n0 : Nat) (J : List Nat → World → Prop) (W : World) (k : Nat) (wr : World) : Prop :=
  J (List.range' i0 (k - i0)) wr ∧ VBox wr bv x A1 c1 A2 c2 ∧ Boxed wr bi 3 (.int .i64 k) ∧ W.heap.size ≤ wr.heap.size ∧ ∀ b, b < n0 → wr.heap[b]? = W.heap[b]?

set_option maxRecDepth 100000 in
set_option maxHeartbeats 4000000 in
theorem once_iter (x : View) (A1 A2 : Option Addr) (c1 c2 : Nat) (i0 : Nat) (bv bi : Nat) (w0 W : World) (h0 : RepV w0 x A1 c1 A2 c2) (h : RepV W x A1 c1 A2 c2) (hs0 : Steps w0) (hs : Steps W)
    (hbv : VBox W bv x A1 c1 A2 c2) (hbi : Boxed W bi 3 (.int .i64 i0)) (hn : w0.heap.size ≤ bv) (hni : w0.heap.size ≤ bi) (hne : bv ≠ bi) :
    IterAt Tryd.prog 84 #[.pointer (some ⟨bv, 0, none⟩), .pointer (some ⟨bi, 0, none⟩)] (encF x) (fun k => k = bi) (fun k => k < w0.heap.size ∨ k = bv ∨ k = bi) (List.range' i0 (walkJ x i0 - i0)) W := by
  intro ly J Jx hJ hJx hY hJ0
  refine callsIn_of_wp Tryd.func84 rfl trivial ?_ rfl
  simp only [Tryd.ntmps84, List.size_toArray, List.length_cons, List.length_nil, Nat.reduceAdd, Nat.reduceSub, Array.replicate_succ, Array.replicate_zero, List.push_toArray, List.append_toArray, List.nil_append, List.cons_append]
  have hfn : ∀ k, Fence.wide.fn k := fun _ => trivial
  have hdp : Fence.wide.depth = none := rfl
  refine wpIn_scope_label 0 (fun a wr => ∃ k : Nat, i0 ≤ k ∧ k ≤ walkJ x i0 ∧ KJ x A1 A2 c1 c2 i0 bv bi w0.heap.size J W k wr ∧ ∃ t3 t4 t5 t6 t7 t8 t9 t10 t11 t12 t13 t14 t15 t16 t17 t18 t19 t20 : Value, a = { tmps := #[.func (.yield ly) #[] #[], .pointer (some ⟨bv, 0, none⟩), .pointer (some ⟨bi, 0, none⟩), t3, t4, t5, t6, t7, t8, t9, t10, t11, t12, t13, t14, t15, t16, t17, t18, t19, t20], defers := [] })
    (fun _ wr => 16 - boxNat wr bi) ⟨i0, Nat.le_refl _, walkJ_ge x i0, ⟨by rw [Nat.sub_self]; exact hJ0, hbv, hbi, Nat.le_refl _, fun _ _ => rfl⟩, _, _, _, _, _, _, _, _, _, _, _, _, _, _, _, _, _, _, rfl⟩ ?_
  rintro a wr ⟨k, hk1, hk2, ⟨j1, j2, j3, j4, j5⟩, t3, t4, t5, t6, t7, t8, t9, t10, t11, t12, t13, t14, t15, t16, t17, t18, t19, t20, rfl⟩
  have hR := h0.low h j4 j5
  have hS := hs0.low hs j4 j5
  have q2 := j3.cell
  have hbn : boxNat wr bi = k := by simp [boxNat, q2]
  rw [hbn]
  have HB := Lib.hid (And.intro j1 (And.intro j2 (And.intro j3 (And.intro j4 j5))))
  clear hJ0 j1 j3 j4 j5 hbn
  rcases Nat.lt_or_ge k (walkJ x i0) with hlt | hge
  · have eF := walkJ_all hk1 hlt
    have eP : onceP x k = firstV x := by simp [onceP, eF]
    have hk16 := once_lt eF
    have HE := Lib.hid (pairs_split hk1 hlt)
    gi_wp2_with (first | (refine wpListIn_load_view (t := 1) x A1 A2 c1 c2 bv ?hg ?hx ?_; (case hg => exact j2); (case hx => rfl)) | (gi_at_call 16; refine (callsIn_wide.2 (finger_Once x A1 A2 c1 c2 k wr hR hS)).mono ?_; rintro e W3 ⟨he, hb⟩; rw [eP, eF] at he; subst he; have q3 := (box_below HB.out.2.2.1 hb HB.out.2.2.1.lt).cell; obtain ⟨fn, tmps, assign, body, hy, hRd⟩ := hY _ _ _ W3 HE.out (hJ _ _ _ HB.out.1 (Steps1.of_below hb)); dsimp only [encF] at hy))
    refine hRd.mono ?_
    rintro e W4 (⟨rfl, hJ4, hk4⟩ | ⟨rfl, hJx4⟩)
    · have b3 := box_below HB.out.2.2.1 hb HB.out.2.2.1.lt
      have b4 : Boxed W4 bi 3 (.int .i64 k) := (hk4.block bi (.inr (.inr rfl))).trans b3
      have v4 : VBox W4 bv x A1 c1 A2 c2 := (hk4.block bv (.inr (.inl rfl))).trans (j2.below hb j2.lt)
      have q4 := b4.cell
      have z4 := b4.frozen
      have HV := Lib.hid (And.intro b4 v4)
      have HJ := Lib.hid (And.intro hJ4 hk4)
      clear b3 b4 v4 hJ4 hk4 q2 q3 j2
      gi_wp2_with (refine wpIn_goto ?_)
      have z0 := h0
      have hlow : w0.heap.size ≤ wr.heap.size := by have := HB.out.2.2.1.lt; omega
      refine ⟨rfl, ⟨k + 1, by omega, hlt, ⟨?_, ?_, ?_, ?_, ?_⟩, _, _, _, _, _, _, _, _, _, _, _, _, _, _, _, _, _, _, rfl⟩, ?_⟩
      · rw [← pairs_next hk1]
        exact hJ _ _ _ HJ.out.1 (Steps1.setCell (T := fun k => k = bi) W4 (p := ⟨bi, 0, none⟩) rfl _)
      · exact HV.out.2.other (p := ⟨bi, 0, none⟩) hne _
      · exact HV.out.1.set _
      · exact Nat.le_trans HB.out.2.2.2.1 (Nat.le_trans hb.size (Nat.le_trans HJ.out.2.grows.size (Grows.setCell W4 _ _).size))
      · intro b hbn
        exact (Below.heap_setCell W4 ⟨bi, 0, none⟩ _ b (by show b ≠ bi; omega)).trans ((HJ.out.2.block b (.inl hbn)).trans ((hb.block b (by omega)).trans (HB.out.2.2.2.2 b hbn)))
      · have e := (HV.out.1.set (.int .i64 ((k : Int) + 1))).cell
        simp only [boxNat, e]
        omega
    · clear q2 q3 j2
      gi_wp2
      dsimp only [Exit.jump]
      go_end0
      exact ⟨⟨_, rfl⟩, .inr ⟨_, _, _, HE.out, hJx4⟩⟩
  · obtain rfl : k = walkJ x i0 := by omega
    have eF := walkJ_end x i0
    have eP : onceP x (walkJ x i0) = 0 := by simp [onceP, eF]
    gi_wp2_with (first | (refine wpListIn_load_view (t := 1) x A1 A2 c1 c2 bv ?hg ?hx ?_; (case hg => exact j2); (case hx => rfl)) | (gi_at_call 16; refine (callsIn_wide.2 (finger_Once x A1 A2 c1 c2 _ wr hR hS)).mono ?_; rintro e W3 ⟨he, hb⟩; rw [eP, eF] at he; subst he))
    dsimp only [Exit.jump]
    go_end0
    exact ⟨⟨_, rfl⟩, .inl (hJ _ _ _ HB.out.1 (Steps1.of_below hb))⟩
end Go.Proofs.YtbjgfcempfpfcaaDoor
