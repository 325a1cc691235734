/- Contract: finger.Walk. -/
import Derived.Test.YtbjgfcempfpfcaaDoorCE
namespace Go.Proofs.YtbjgfcempfpfcaaDoor
open Go.RowKit Go.Shelf
attribute [local go_sem] Oper.semAt_some

theorem results_cell_tmp3 {P : Program} {fn : Func} {p t u v : Tmp} {ty : TypeId} (h : fn.results = #[.cell p ty, .tmp t, .tmp u, .tmp v]) (tmps : Array Value) (w : World) (g : Nat) (vt : TypeId) (cs : Array Value) (fr : Nat × Nat) (d : TypeDesc)
    (hp : tmps.getD p undef = .pointer (some ⟨g, 0, none⟩)) (hg : w.heap[g]? = some (.cells cs vt fr))
    (hu : P.underlying ty = some d) (hd : (match d with | .struct _ | .array _ _ => true | _ => false) = true) (hi : (P.info? ty).map (·.size) = some cs.size) :
    (results fn tmps).run P w = .ok (.tuple #[.agg cs, tmps.getD t undef, tmps.getD u undef, tmps.getD v undef]) w := by
  have hp' : tmps[p]?.getD undef = .pointer (some ⟨g, 0, none⟩) := by simpa using hp
  simp [results, h, hp', asAddr, run_loadVar_row w g vt ty cs fr d hg hu hd hi]

/-- A view whose fingers from a on, up to b, are its first one. -/
def setR (x : View) (a b : Nat) : View := { x with f := fun j => if a ≤ j ∧ j < b then firstV x else x.f j }
theorem setR_none (x : View) (a : Nat) : setR x a a = x := by
  simp only [setR]
  have : (fun j => if a ≤ j ∧ j < a then firstV x else x.f j) = x.f := by
    funext j; rw [if_neg (by omega)]
  rw [this]
theorem setR_next (x : View) {a b : Nat} (h : a ≤ b) : (setR x a b).withF b (firstV x) = setR x a (b + 1) := by
  simp only [setR, View.withF, View.mk.injEq, true_and]
  funext j
  by_cases h1 : j = b
  · subst h1; simp; omega
  · by_cases h2 : a ≤ j ∧ j < b
    · rw [if_neg h1, if_pos h2, if_pos (by omega)]
    · rw [if_neg h1, if_neg h2, if_neg (by omega)]
def startI (x : View) (i : Int) : Nat := if knownF x i then i.toNat else 0
def walkE (x : View) (i : Int) : Nat := walkJ x (startI x i)
def walkV (x : View) (i : Int) : View := if rightV x then setR x (startI x i) (walkE x i) else x
def walkM (x : View) (i : Int) : Bool := rightV x && decide (walkE x i < 16)
def walkN (x : View) (i : Int) : Int := if walkM x i then walkE x i else 0
def walkK (x : View) (i : Int) : Int := if walkM x i then startF x.id (walkE x i) else 0
def RetW (w0 : World) (x : View) (n k : Int) (m : Bool) (e : Ending) (w' : World) : Prop := ∃ A1 c1 A2 c2, e = .returned (.tuple #[x.v A1 c1 A2 c2, .int .i64 n, .int .i64 k, .bool m]) ∧ RepV w' x A1 c1 A2 c2 ∧ Below w0.heap.size w0 w' ∧ (∀ b off, A1 = some ⟨b, off, none⟩ → w0.heap.size ≤ b) ∧ ∀ b off, A2 = some ⟨b, off, none⟩ → w0.heap.size ≤ b
theorem walk_bad {x : View} (h : rightV x = false) (i : Int) : walkV x i = x ∧ walkN x i = 0 ∧ walkK x i = 0 ∧ walkM x i = false := by simp [walkV, walkN, walkK, walkM, h]
theorem walk_yes {x : View} (h : rightV x = true) {i : Int} (hl : walkE x i < 16) : walkV x i = setR x (startI x i) (walkE x i) ∧ walkN x i = walkE x i ∧ walkK x i = startF x.id (walkE x i) ∧ walkM x i = true := by simp [walkV, walkN, walkK, walkM, h, hl]
theorem walk_no {x : View} (h : rightV x = true) {i : Int} (hl : ¬ walkE x i < 16) : walkV x i = setR x (startI x i) (walkE x i) ∧ walkN x i = 0 ∧ walkK x i = 0 ∧ walkM x i = false := by simp [walkV, walkN, walkK, walkM, h, hl]
theorem setR_same (x : View) (a b : Nat) : (setR x a b).base = x.base ∧ (setR x a b).list = x.list ∧ (setR x a b).id = x.id := ⟨rfl, rfl, rfl⟩

/-- Three boxes: the view, an int, the result. -/
structure Three (w W : World) (x y : View) (A1 : Option Addr) (c1 : Nat) (A2 : Option Addr) (c2 : Nat) (i : Int) (D1 : Option Addr) (d1 : Nat) (D2 : Option Addr) (d2 : Nat) : Prop where
  box : VBox W w.heap.size x A1 c1 A2 c2
  int : Boxed W (w.heap.size + 1) 3 (.int .i64 i)
  res : VBox W (w.heap.size + 1 + 1) y D1 d1 D2 d2
  b : Below w.heap.size w W
theorem Three.below {w W W' : World} {x y : View} {A1 A2 D1 D2 : Option Addr} {c1 c2 d1 d2 : Nat} {i : Int} (h : Three w W x y A1 c1 A2 c2 i D1 d1 D2 d2) (hb : Below W.heap.size W W') : Three w W' x y A1 c1 A2 c2 i D1 d1 D2 d2 :=
  ⟨h.box.below hb h.box.lt, box_below h.int hb h.int.lt, h.res.below hb h.res.lt, h.b.trans (hb.mono h.b.size)⟩
theorem three_start {w W : World} {x : View} {A1 A2 : Option Addr} {c1 c2 : Nat} {i : Int} (h : ((w.alloc (.cells (x.cells A1 c1 A2 c2) 25)).alloc (.cells #[.int .i64 i] 3)).alloc (.cells (View.zero.cells none 0 none 0) 25) = W) : Three w W x View.zero A1 c1 A2 c2 i none 0 none 0 := by
  subst h
  have hs1 : (w.alloc (.cells (x.cells A1 c1 A2 c2) 25)).heap.size = w.heap.size + 1 := by simp
  have hs2 : ((w.alloc (.cells (x.cells A1 c1 A2 c2) 25)).alloc (.cells #[.int .i64 i] 3)).heap.size = w.heap.size + 1 + 1 := by simp
  refine ⟨((VBox.new w x A1 c1 A2 c2).alloc _).alloc _, ?_, ?_, (((Below.refl _ w).alloc (Nat.le_refl _) _).alloc (by simp) _).alloc (by simp; omega) _⟩
  · have := (Boxed.new (w.alloc (.cells (x.cells A1 c1 A2 c2) 25)) 3 (.int .i64 i)).alloc (.cells (View.zero.cells none 0 none 0) 25)
    rwa [hs1] at this
  · have := VBox.new ((w.alloc (.cells (x.cells A1 c1 A2 c2) 25)).alloc (.cells #[.int .i64 i] 3)) View.zero none 0 none 0
    rwa [hs2] at this

/-- Behind the label 'none'. -/
def WJ (w : World) (x : View) (a : Act) (W : World) : Prop := ∃ t0 t1 t3 t5 t6 t7 t8 t9 t10 t11 t12 t13 t14 t15 t16 t17 t18 t19 t20 t21 t22 t23 t24 t25 t26 t27 t28 t29 t30 t31 t32 t33 t34 t35 t36 t37 t38 : Value, ∃ (E1 : Option Addr) (f1 : Nat) (E2 : Option Addr) (f2 : Nat), a = { tmps := #[t0, t1, .pointer (some ⟨w.heap.size, 0, none⟩), t3, .pointer (some ⟨w.heap.size + 1 + 1, 0, none⟩), t5, t6, t7, t8, t9, t10, t11, t12, t13, t14, t15, t16, t17, t18, t19, t20, t21, t22, t23, t24, t25, t26, t27, t28, t29, t30, t31, t32, t33, t34, t35, t36, t37, t38], defers := [] } ∧
  VBox W (w.heap.size + 1 + 1) x E1 f1 E2 f2 ∧ Below w.heap.size w W ∧ RepV W x E1 f1 E2 f2 ∧ Hid (ApartV x E1 E2 (w.heap.size + 1 + 1) ∧ (∀ b off, E1 = some ⟨b, off, none⟩ → w.heap.size ≤ b) ∧ ∀ b off, E2 = some ⟨b, off, none⟩ → w.heap.size ≤ b)

set_option maxRecDepth 100000 in
set_option maxHeartbeats 4000000 in
theorem finger_Walk_bad (x : View) (A1 A2 : Option Addr) (c1 c2 : Nat) (i : Int) (w : World) (h : RepV w x A1 c1 A2 c2) (hs : Steps w) (hr : rightV x = false) :
    Calls Tryd.prog 21 #[x.v A1 c1 A2 c2, .int .i64 i] w (RetW w (walkV x i) (walkN x i) (walkK x i) (walkM x i)) := by
  unfold View.v
  refine calls_of_wp_marks Tryd.func21 rfl ?_
  simp only [Tryd.ntmps21, List.size_toArray, List.length_cons, List.length_nil, Nat.reduceAdd, Nat.reduceSub, Array.replicate_succ, Array.replicate_zero, List.push_toArray, List.append_toArray, List.nil_append, List.cons_append]
  go_upto_region 1 with (fail)
  refine name_world fun W0 hW0 => ?_
  have hT := three_start hW0
  clear hW0
  refine wp_scope_jumps (rest := ?rest) 0 (WJ w x) (fun _ _ => 0) ?hf ?first ?pass
  case hf => exact rfl
  case pass =>
    rintro a wr ⟨t0, t1, t3, t5, t6, t7, t8, t9, t10, t11, t12, t13, t14, t15, t16, t17, t18, t19, t20, t21, t22, t23, t24, t25, t26, t27, t28, t29, t30, t31, t32, t33, t34, t35, t36, t37, t38, E1, f1, E2, f2, rfl, hV, hB, hR, HG⟩
    refine wp_seq (wp_skip ?_)
    go_upto_region 11 with (fail)
    refine wp_region_lit ?_
    (refine wpList_load_view (t := 4) x E1 E2 f1 f2 ((w.heap.size + 1 + 1)) ?hg ?hw ?hx ?_; (case hg => exact hV); (case hw => rfl); (case hx => rfl))
    (refine wpList_store_row rfl 25 (.tmp 4) (.tmp 38) rfl (w.heap.size + 1 + 1) (x.cells E1 f1 E2 f2) rfl rfl 25 (x.cells E1 f1 E2 f2) hV (view_size _ _ _ _ _) rfl (View.oneCell _ _ _ _ _) ?_)
    go_wp2
    show bodyPostM Fence.wide 0 Tryd.prog Tryd.f21 _ .ret _ _
    refine leave_plain (fn := Tryd.f21) (results_cell_tmp3 (fn := Tryd.f21) (p := 4) (t := 5) (u := 6) (v := 7) rfl _ _ (w.heap.size + 1 + 1) 25 (x.cells E1 f1 E2 f2) (0, 0) _ rfl (hV.setRow x E1 E2 f1 f2) Tryd.underlying25 rfl (view_size _ _ _ _ _)) ?_
    obtain ⟨r1, r2, r3, r4⟩ := walk_bad hr i
    rw [r1, r2, r3, r4]
    exact ⟨E1, f1, E2, f2, rfl, hR.rowA _ HG.out.1, below_setRow hB (by omega) _, HG.out.2.1, HG.out.2.2⟩
  case first =>
    go_upto_region 1 with (fail)
    refine wp_region_lit ?_
    (refine wpList_load_view (t := 2) x A1 A2 c1 c2 w.heap.size ?hg ?hw ?hx ?_; (case hg => exact hT.box); (case hw => rfl); (case hx => rfl))
    go_upto_region 2 with (first | (go_at_call 53; refine (view_Own x A1 A2 c1 c2 _ ⟨h.base.below hT.b, h.list.below hT.b⟩).mono ?_; rintro e W1 ⟨E1, f1, E2, f2, rfl, hr1, hb1, hf1, hf2⟩; have hT1 := hT.below hb1) | (refine wpList_store_row rfl 25 (.tmp 4) (.tmp 11) rfl (w.heap.size + 1 + 1) (x.cells E1 f1 E2 f2) rfl rfl 25 (View.zero.cells none 0 none 0) hT1.res (view_size _ _ _ _ _) rfl (View.oneCell _ _ _ _ _) ?_))
    refine name_world fun W2 hW2 => ?_
    have z4 := hT.res.lt
    have a4 : ApartV x E1 E2 (w.heap.size + 1 + 1) := ⟨fun _ b off e => by have := hf1 b off e; omega, fun _ b off e => by have := hf2 b off e; omega⟩
    have a3 : ApartV x E1 E2 (w.heap.size + 1) := ⟨fun _ b off e => by have := hf1 b off e; omega, fun _ b off e => by have := hf2 b off e; omega⟩
    have hT2 : Three w W2 x x A1 c1 A2 c2 i E1 f1 E2 f2 := by
      rw [← hW2]
      exact ⟨(heap_setRow _ _ _ _ (by omega)).trans hT1.box, (heap_setRow _ _ _ _ (by omega)).trans hT1.int, hT1.res.setRow x E1 E2 f1 f2, below_setRow hT1.b (by omega) _⟩
    have hR2 : RepV W2 x E1 f1 E2 f2 := by rw [← hW2]; exact hr1.rowA _ a4
    have HG := Lib.hid (And.intro a4 (And.intro (fun b off (e : E1 = some ⟨b, off, none⟩) => (by have := hf1 b off e; have := hT.b.size; omega : w.heap.size ≤ b)) (fun b off (e : E2 = some ⟨b, off, none⟩) => (by have := hf2 b off e; have := hT.b.size; omega : w.heap.size ≤ b))))
    have HA3 := Lib.hid a3
    have hS2 := hs.below hT2.b
    clear hW2 hT1 hT hb1 hr1 hf1 hf2 a4 a3 z4
    go_wp2_with (first | (refine wpList_load_view (t := 2) x A1 A2 c1 c2 w.heap.size ?hg ?hw ?hx ?_; (case hg => exact hT2.box); (case hw => rfl); (case hx => rfl)) | (go_at_call 56; refine (view_Right x A1 A2 c1 c2 _ (h.below hT2.b).base (h.below hT2.b).list).mono ?_; rintro e W3 ⟨he, hb3⟩; rw [hr] at he; subst he; have hT3 := hT2.below hb3; have hR3 := hR2.below hb3; have hS3 := hS2.below hb3) | (refine wp_goto ?_))
    exact ⟨rfl, _, _, _, _, _, _, _, _, _, _, _, _, _, _, _, _, _, _, _, _, _, _, _, _, _, _, _, _, _, _, _, _, _, _, _, _, _, E1, f1, E2, f2, rfl, hT3.res, hT3.b, hR3, Lib.hid HG.out⟩
def Only (J : Act → World → Prop) : Exit → Act → World → Prop
  | .normal, a, w => J a w
  | _, _, _ => False
theorem region_only {P : Program} {s : Code} {K : Act → World → Prop} {Q' : Exit → Act → World → Prop} {a : Act} {w : World} {J : Act → World → Prop} (h : s.wp P (Only J) a w) (rest : ∀ a w, J a w → K a w) : s.wp P (Exit.then K Q') a w := by
  refine wp_mono h ?_
  intro e a' w' hq
  cases e with
  | normal => exact rest _ _ hq
  | exit id => exact hq.elim
  | goto l => exact hq.elim
  | ret => exact hq.elim
  | panic ch => exact hq.elim
  | outgrown => exact hq.elim
theorem pairs_at {s n p : Nat} {pre rest : List Nat} (h : List.range' s n = pre ++ p :: rest) : p = s + pre.length ∧ pre.length < n := by
  have hl := congrArg List.length h
  rw [List.length_range', List.length_append, List.length_cons] at hl
  have h1 : (List.range' s n)[pre.length]? = some p := by rw [h]; simp
  rw [List.getElem?_range' (by omega)] at h1
  injection h1 with h1
  exact ⟨by omega, by omega⟩
theorem boxed_other {W : World} {B : Nat} {t : TypeId} {v : Value} (h : Boxed W B t v) {p : Addr} (hp : B ≠ p.block) (u : Value) : Boxed (W.setCell p u) B t v := (Below.heap_setCell W p u B hp).trans h

set_option maxRecDepth 100000 in
set_option maxHeartbeats 4000000 in
theorem finger_Walk_good (x : View) (A1 A2 : Option Addr) (c1 c2 : Nat) (i : Int) (w : World) (h : RepV w x A1 c1 A2 c2) (hs : Steps w) (hr : rightV x = true) :
    Calls Tryd.prog 21 #[x.v A1 c1 A2 c2, .int .i64 i] w (RetW w (walkV x i) (walkN x i) (walkK x i) (walkM x i)) := by
  unfold View.v
  refine calls_of_wp_marks Tryd.func21 rfl ?_
  simp only [Tryd.ntmps21, List.size_toArray, List.length_cons, List.length_nil, Nat.reduceAdd, Nat.reduceSub, Array.replicate_succ, Array.replicate_zero, List.push_toArray, List.append_toArray, List.nil_append, List.cons_append]
  go_upto_region 1 with (fail)
  refine name_world fun W0 hW0 => ?_
  have hT := three_start hW0
  clear hW0
  refine wp_scope_jumps (rest := ?rest) 0 (fun _ _ => False) (fun _ _ => 0) ?hf ?first (fun _ _ h => h.elim)
  case hf => exact rfl
  go_upto_region 1 with (fail)
  refine wp_region_lit ?_
  (refine wpList_load_view (t := 2) x A1 A2 c1 c2 w.heap.size ?hg ?hw ?hx ?_; (case hg => exact hT.box); (case hw => rfl); (case hx => rfl))
  go_upto_region 2 with (first | (go_at_call 53; refine (view_Own x A1 A2 c1 c2 _ ⟨h.base.below hT.b, h.list.below hT.b⟩).mono ?_; rintro e W1 ⟨E1, f1, E2, f2, rfl, hr1, hb1, hf1, hf2⟩; have hT1 := hT.below hb1) | (refine wpList_store_row rfl 25 (.tmp 4) (.tmp 11) rfl (w.heap.size + 1 + 1) (x.cells E1 f1 E2 f2) rfl rfl 25 (View.zero.cells none 0 none 0) hT1.res (view_size _ _ _ _ _) rfl (View.oneCell _ _ _ _ _) ?_))
  refine name_world fun W2 hW2 => ?_
  have z4 := hT.res.lt
  have a4 : ApartV x E1 E2 (w.heap.size + 1 + 1) := ⟨fun _ b off e => by have := hf1 b off e; omega, fun _ b off e => by have := hf2 b off e; omega⟩
  have a3 : ApartV x E1 E2 (w.heap.size + 1) := ⟨fun _ b off e => by have := hf1 b off e; omega, fun _ b off e => by have := hf2 b off e; omega⟩
  have hT2 : Three w W2 x x A1 c1 A2 c2 i E1 f1 E2 f2 := by
    rw [← hW2]
    exact ⟨(heap_setRow _ _ _ _ (by omega)).trans hT1.box, (heap_setRow _ _ _ _ (by omega)).trans hT1.int, hT1.res.setRow x E1 E2 f1 f2, below_setRow hT1.b (by omega) _⟩
  have hR2 : RepV W2 x E1 f1 E2 f2 := by rw [← hW2]; exact hr1.rowA _ a4
  have HG := Lib.hid (And.intro a4 (And.intro (fun b off (e : E1 = some ⟨b, off, none⟩) => (by have := hf1 b off e; have := hT.b.size; omega : w.heap.size ≤ b)) (fun b off (e : E2 = some ⟨b, off, none⟩) => (by have := hf2 b off e; have := hT.b.size; omega : w.heap.size ≤ b))))
  have HA3 := Lib.hid a3
  have hS2 := hs.below hT2.b
  clear hW2 hT1 hT hb1 hr1 hf1 hf2 a4 a3 z4
  go_upto_region 3 with (first | (refine wpList_load_view (t := 2) x A1 A2 c1 c2 w.heap.size ?hg ?hw ?hx ?_; (case hg => exact hT2.box); (case hw => rfl); (case hx => rfl)) | (go_at_call 56; refine (view_Right x A1 A2 c1 c2 _ (h.below hT2.b).base (h.below hT2.b).list).mono ?_; rintro e W3 ⟨he, hb3⟩; rw [hr] at he; subst he; have hT3 := hT2.below hb3; have hR3 := hR2.below hb3; have hS3 := hS2.below hb3))
  have i3 := hT3.int.cell
  have i4 := hT3.int.frozen
  cases e1 : knownF x i
  case true =>
    obtain ⟨-, k, rfl, hk⟩ := known_lt e1
    go_upto_region 5 with (first | (refine wpList_load_view (t := 2) x A1 A2 c1 c2 w.heap.size ?hg ?hw ?hx ?_; (case hg => exact hT3.box); (case hw => rfl); (case hx => rfl)) | (go_at_call 49; refine (finger_known x A1 A2 c1 c2 _ _ (h.below hT3.b)).mono ?_; rintro e W5 ⟨he, hb5⟩; rw [e1] at he; subst he; have hT5 := hT3.below hb5; have hR5 := hR3.below hb5; have hS5 := hS3.below hb5))
    clear i3 i4 hT2 hR2 hS2 hT3 hR3 hS3 hb3 hb5
    have hs0 : startI x (k : Int) = k := by simp [startI, e1]
    have hwe : walkE x (k : Int) = walkJ x k := by rw [walkE, hs0]
    have hj16 : walkJ x k ≤ 16 := walkJ_le (by omega)
    have hjs := walkJ_ge x k
    have HS := Lib.hid (And.intro hs0 hwe)
    clear hs0 hwe
    have q3 := hT5.int.cell
    go_wp2_with (first | (refine wpList_load_view (t := 2) x A1 A2 c1 c2 w.heap.size ?hg ?hw ?hx ?_; (case hg => exact hT5.box); (case hw => rfl); (case hx => rfl)) | (go_at_call 57; refine (finger_once x A1 A2 c1 c2 _ _).mono ?_; rintro e w' ⟨rfl, rfl⟩))
    obtain ⟨W6, hW6⟩ : ∃ W6, (W5.alloc (.cells (x.cells A1 c1 A2 c2) 25)).alloc (.cells #[.int .i64 (k : Int)] 3) = W6 := ⟨_, rfl⟩
    have z3 := hT5.box.lt
    have z4 := hT5.res.lt
    have z5 : W6.heap.size = W5.heap.size + 1 + 1 := by rw [← hW6]; simp
    have hb6 : Below W5.heap.size W5 W6 := by rw [← hW6]; exact ((Below.refl _ W5).alloc (Nat.le_refl _) _).alloc (by simp) _
    have bv0 : VBox W6 W5.heap.size x A1 c1 A2 c2 := by rw [← hW6]; exact (VBox.new W5 x A1 c1 A2 c2).alloc _
    have bi0 : Boxed W6 (W5.heap.size + 1) 3 (.int .i64 (k : Int)) := by rw [← hW6]; have := Boxed.new (W5.alloc (.cells (x.cells A1 c1 A2 c2) 25)) 3 (.int .i64 (k : Int)); simpa using this
    have hB6 : Below w.heap.size w W6 := hT5.b.trans (hb6.mono hT5.b.size)
    have hT6 := hT5.below hb6
    have hR6 := hR5.below hb6
    rw [hW6]
    clear hW6 q3
    refine wp_rf (gf := 84) (lb := #[.pointer (some ⟨W5.heap.size, 0, none⟩), .pointer (some ⟨W5.heap.size + 1, 0, none⟩)]) rfl (enters_of Tryd.func84 (by kernel_rfl) rfl)
      (encs := encF x) (T := fun k => k = W5.heap.size + 1) (R := fun k => k < w.heap.size ∨ k = W5.heap.size ∨ k = W5.heap.size + 1) (xs := List.range' k (walkJ x k - k))
      (fun o1 o2 => once_iter x A1 A2 c1 c2 k W5.heap.size (W5.heap.size + 1) w _ h (h.below (hB6.trans ((((Below.refl _ W6).alloc (by omega) o1)).alloc (by simp; omega) o2))) hs (hs.below (hB6.trans ((((Below.refl _ W6).alloc (by omega) o1)).alloc (by simp; omega) o2))) ((bv0.alloc _).alloc _) ((bi0.alloc _).alloc _) (by omega) (by omega) (by omega))
      (fun k e => by omega) (fun k e => by omega) (fun _ => rfl)
      (fun pre W => VBox W (w.heap.size + 1 + 1) (setR x k (k + pre.length)) E1 f1 E2 f2 ∧ Boxed W (w.heap.size + 1) 3 (.int .i64 ((k + pre.length : Nat) : Int)) ∧ (∀ b, b < W5.heap.size → b ≠ (w.heap.size + 1) → b ≠ (w.heap.size + 1 + 1) → W.heap[b]? = W5.heap[b]?) ∧ Below w.heap.size w W ∧ W6.heap.size ≤ W.heap.size)
      (fun _ _ _ => False)
      (fun _ _ h => h.2.2.2.2)
      (fun s A A' h ha => ⟨h.1.abide ha (by omega), box_abide h.2.1 ha (by omega), fun b hb h3 h4 => (ha.old b (by omega) (by omega)).trans (h.2.2.1 b hb h3 h4), h.2.2.2.1.trans (ha.below (by omega) (fun k hk => by omega)), Nat.le_trans h.2.2.2.2 ha.grows.size⟩)
      (fun _ _ _ _ h _ => h)
      ⟨by rw [show k + ([] : List Nat).length = k from rfl, setR_none]; exact hT6.res, hT6.int, fun b hb _ _ => hb6.block b hb, hB6, Nat.le_refl _⟩
      (fun p => { tmps := #[.agg (x.cells A1 c1 A2 c2), .int .i64 (k : Int), .pointer (some ⟨w.heap.size, 0, none⟩), .pointer (some ⟨w.heap.size + 1, 0, none⟩), .pointer (some ⟨w.heap.size + 1 + 1, 0, none⟩), .int .i64 0, .int .i64 0, .bool false, .int .i64 (p : Int), .int .i64 (firstV x), .agg (x.cells A1 c1 A2 c2), x.v E1 f1 E2 f2, .agg (x.cells A1 c1 A2 c2), .bool true, .bool false, .agg (x.cells A1 c1 A2 c2), .int .i64 (k : Int), .bool true, .bool false, .agg (x.cells A1 c1 A2 c2), .int .i64 (k : Int), .func (.func 84) #[] #[.pointer (some ⟨W5.heap.size, 0, none⟩), .pointer (some ⟨W5.heap.size + 1, 0, none⟩)], .int .i64 (p : Int), .int .i64 (firstV x), undef, undef, undef, undef, undef, undef, undef, undef, undef, undef, undef, undef, undef, undef, undef], defers := [] }) ?assign ?body ?done (fun _ _ _ _ _ _ _ _ h _ => h.elim)
    case assign =>
      intro ly p W K hK
      gi_wp2
      exact hK
    case body =>
      rintro ly pre p rest W hxs ⟨hv, hi, hk, hB, hz⟩
      obtain ⟨hp, hpl⟩ := pairs_at hxs
      have hp16 : p < 16 := by omega
      have hsp : k ≤ p := by omega
      have p3 := hv.finger (k := p) hp16
      have p4 := hv.frozen
      have i3 := hi.cell
      have i4 := hi.frozen
      have n34 : (w.heap.size + 1 + 1) ≠ (w.heap.size + 1) := by omega
      have n43 : (w.heap.size + 1) ≠ (w.heap.size + 1 + 1) := by omega
      rw [← hp] at hv i3 hi
      have HV := Lib.hid (And.intro hv hi)
      have HK := Lib.hid hk
      have HL := Lib.hid (show k + (pre ++ [p]).length = p + 1 by rw [List.length_append]; simp; omega)
      clear hxs hb6 bv0 bi0 hB6 hT6 hT5 hR6 hR5 hS5 hv hi hk hp hpl
      have hfn : ∀ k, Fence.wide.fn k := fun _ => trivial
      have hdp : Fence.wide.depth = none := rfl
      gi_wp2
      refine ⟨(BodyKeeps.setCell W (p := ⟨(w.heap.size + 1 + 1), 4 + p, none⟩) (by show ¬ ((w.heap.size + 1 + 1) < _ ∨ (w.heap.size + 1 + 1) = _ ∨ (w.heap.size + 1 + 1) = _); omega) _).trans (BodyKeeps.setCell _ (p := ⟨(w.heap.size + 1), 0, none⟩) (by show ¬ ((w.heap.size + 1) < _ ∨ (w.heap.size + 1) = _ ∨ (w.heap.size + 1) = _); omega) _), ?_, ?_, ?_, ?_, ?_⟩
      · rw [HL.out, ← setR_next x hsp]
        exact (HV.out.1.setF hp16 _).other (p := ⟨(w.heap.size + 1), 0, none⟩) n34 _
      · rw [HL.out]
        exact ((boxed_other HV.out.2 (p := ⟨(w.heap.size + 1 + 1), 4 + p, none⟩) n43 _).set _)
      · intro b hb h3 h4
        exact (Below.heap_setCell _ ⟨(w.heap.size + 1), 0, none⟩ _ b h3).trans ((Below.heap_setCell W ⟨(w.heap.size + 1 + 1), 4 + p, none⟩ _ b h4).trans (HK.out b hb h3 h4))
      · exact (hB.setCell (p := ⟨(w.heap.size + 1 + 1), 4 + p, none⟩) (by show w.heap.size ≤ (w.heap.size + 1 + 1); omega) _).setCell (p := ⟨(w.heap.size + 1), 0, none⟩) (by show w.heap.size ≤ (w.heap.size + 1); omega) _
      · exact Nat.le_trans hz (Nat.le_trans (Grows.setCell W _ _).size (Grows.setCell _ _ _).size)
    case done =>
      rintro D W hD ⟨hv, hi, hk, hB, hz⟩ hK
      rw [List.length_range', show k + (walkJ x k - k) = walkJ x k by omega] at hv hi
      have zD : (w.heap.size + 1 + 1) < D := by omega
      have hDn : D ≠ (w.heap.size + 1 + 1) := by omega
      have hR : RepV W x E1 f1 E2 f2 := ⟨hR5.base.heap3 (by omega) (fun hn b off e => hk b (hR5.base.lt hn e) (HA3.out.1 hn b off e) (HG.out.1.1 hn b off e)), hR5.list.heap3 (by omega) (fun hn b off e => hk b (hR5.list.lt hn e) (HA3.out.2 hn b off e) (HG.out.1.2 hn b off e))⟩
      have HD := Lib.hid (show ApartV x E1 E2 D from ⟨fun hn b off e => by have := hR5.base.lt hn e; omega, fun hn b off e => by have := hR5.list.lt hn e; omega⟩)
      have i3 := hi.cell
      clear hb6 bv0 bi0 hB6 hT6 hT5 hR6 hS5 hk
      by_cases hj : walkJ x k < 16
      · have HW := Lib.hid (show walkV x (k : Int) = (setR x k (walkJ x k)) ∧ walkN x (k : Int) = walkJ x k ∧ walkK x (k : Int) = startF x.id (walkJ x k) ∧ walkM x (k : Int) = true by
          have := walk_yes hr (i := (k : Int)) (by rw [HS.out.2]; exact hj)
          rwa [HS.out.1, HS.out.2] at this)
        go_upto_region 10 with (fail)
        refine region_only (J := fun a W' => a.defers = [{ target := .collected D, args := #[] }] ∧ a.tmps.getD 4 undef = .pointer (some ⟨w.heap.size + 1 + 1, 0, none⟩) ∧ a.tmps.getD 5 undef = .int .i64 (walkJ x k : Int) ∧ a.tmps.getD 6 undef = .int .i64 (startF x.id (walkJ x k)) ∧ a.tmps.getD 7 undef = .bool true ∧ (VBox W' (w.heap.size + 1 + 1) (setR x k (walkJ x k)) E1 f1 E2 f2 ∧ Boxed W' (w.heap.size + 1) 3 (.int .i64 (walkJ x k : Int)) ∧ Steps W' ∧ RepV W' x E1 f1 E2 f2 ∧ Below w.heap.size w W' ∧ W'.heap[D]? = some (.deferred (some [])))) ?_ ?_
        · refine region_held_named (S := (fun W' => VBox W' (w.heap.size + 1 + 1) (setR x k (walkJ x k)) E1 f1 E2 f2 ∧ Boxed W' (w.heap.size + 1) 3 (.int .i64 (walkJ x k : Int)) ∧ Steps W' ∧ RepV W' x E1 f1 E2 f2 ∧ Below w.heap.size w W' ∧ W'.heap[D]? = some (.deferred (some [])))) (by kernel_rfl) ⟨hv, hi, hs.below (hB.drew), ⟨hR.base.below ((Below.refl _ _).drew), hR.list.below ((Below.refl _ _).drew)⟩, hB.drew, hK⟩ (fun V hHeld => ?_)
          refine wpAnyH_take (i := 0) (oi := { dst := some 32, op := Op.load 25 (Operand.tmp 4), type := 25, pos := "finger.go:78", after := #[], guard := none }) (v := .agg ((setR x k (walkJ x k)).cells E1 f1 E2 f2)) rfl (by kernel_rfl) (by kernel_rfl) (by kernel_rfl) (fun _ _ _ h => h) (yields_view (t := 4) (setR x k (walkJ x k)) E1 E2 f1 f2 (w.heap.size + 1 + 1) (by kernel_rfl) rfl (fun w h => h.1)) hHeld ?_
          simp only [Act.put, List.setIfInBounds_toArray, List.set_cons_zero, List.set_cons_succ]
          refine wpAnyH_take (i := 1) (oi := { dst := some 33, op := Op.load 3 (Operand.tmp 3), type := 3, pos := "finger.go:78", after := #[], guard := none }) (v := ?_) rfl (by kernel_rfl) (by kernel_rfl) (by kernel_rfl) (fun _ _ _ h => h) (Or.inl ⟨by kernel_rfl, ?_⟩) hHeld ?_
          rotate_left
          · intro w hSw; have k0 := hSw.1.cells.1; have k1 := hSw.2.1.cell; go_simp; try with_reducible rfl
          simp only [Act.put, List.setIfInBounds_toArray, List.set_cons_zero, List.set_cons_succ]
          refine wpAnyH_take (i := 2) (oi := { dst := some 34, op := Op.fieldAddr 25 (Operand.tmp 4) 0, type := 0, pos := "finger.go:78", after := #[], guard := none }) (v := ?_) rfl (by kernel_rfl) (by kernel_rfl) (by kernel_rfl) (fun _ _ _ h => h) (Or.inl ⟨by kernel_rfl, ?_⟩) hHeld ?_
          rotate_left
          · intro w hSw; have k0 := hSw.1.cells.1; have k1 := hSw.2.1.cell; go_simp; try with_reducible rfl
          simp only [Act.put, List.setIfInBounds_toArray, List.set_cons_zero, List.set_cons_succ]
          refine wpAnyH_take (i := 3) (oi := { dst := some 35, op := Op.load 3 (Operand.tmp 34), type := 3, pos := "finger.go:78", after := #[{ on := 2, ground := Ground.data }], guard := none }) (v := ?_) rfl (by kernel_rfl) (by kernel_rfl) (by kernel_rfl) (fun _ _ _ h => h) (Or.inl ⟨by kernel_rfl, ?_⟩) hHeld ?_
          rotate_left
          · intro w hSw; have k0 := hSw.1.cells.1; have k1 := hSw.2.1.cell; go_simp; try with_reducible rfl
          simp only [Act.put, List.setIfInBounds_toArray, List.set_cons_zero, List.set_cons_succ]
          refine wpAnyH_take (i := 4) (oi := { dst := some 36, op := Op.load 3 (Operand.tmp 3), type := 3, pos := "finger.go:78", after := #[], guard := none }) (v := ?_) rfl (by kernel_rfl) (by kernel_rfl) (by kernel_rfl) (fun _ _ _ h => h) (Or.inl ⟨by kernel_rfl, ?_⟩) hHeld ?_
          rotate_left
          · intro w hSw; have k0 := hSw.1.cells.1; have k1 := hSw.2.1.cell; go_simp; try with_reducible rfl
          simp only [Act.put, List.setIfInBounds_toArray, List.set_cons_zero, List.set_cons_succ]
          refine wpAnyH_ready (rs := [5]) (by kernel_rfl) (by simp) ?_
          refine AllReadyH.cons (o := { dst := some 37, op := Op.call { callee := Callee.value (Operand.func 50), args := #[Operand.tmp 35, Operand.tmp 36], argTypes := #[3, 3] }, type := 3, pos := "finger.go:78", after := #[{ on := 3, ground := Ground.data }, { on := 4, ground := Ground.data }], guard := none }) rfl (fun K hK2 => ?_) AllReadyH.nil
          go_simp
          go_wp2_with (go_at_call 50; refine (arc_Start _ _ _ hHeld.2.2.1).mono ?_; rintro e V ⟨rfl, rfl⟩)
          refine hK2.out _ _ hHeld (fun hHeld => ?_)
          clear hK2 K
          refine wpAnyH_ready (rs := [6]) (by kernel_rfl) (by simp) ?_
          refine AllReadyH.cons (o := { dst := none, op := Op.store 25 (Operand.tmp 4) (Operand.tmp 32), type := 0, pos := "finger.go:78", after := #[{ on := 0, ground := Ground.data }, { on := 5, ground := Ground.chain }, { on := 0, ground := Ground.phase }, { on := 1, ground := Ground.textOnly Departure.inlinedCapture }, { on := 2, ground := Ground.phase }, { on := 3, ground := Ground.phase }, { on := 4, ground := Ground.textOnly Departure.inlinedCapture }, { on := 5, ground := Ground.textOnly Departure.lateStoresUnsure }], guard := none }) rfl (fun K hK2 => ?_) AllReadyH.nil
          rw [if_pos (by kernel_rfl)]
          refine wp_store_row 25 (.tmp 4) (.tmp 32) rfl (w.heap.size + 1 + 1) ((setR x k (walkJ x k)).cells E1 f1 E2 f2) rfl rfl 25 ((setR x k (walkJ x k)).cells E1 f1 E2 f2) hHeld.1 (view_size _ _ _ _ _) rfl (View.oneCell _ _ _ _ _) ?_
          dsimp only [Act.put]
          refine hK2.out _ _ ⟨hHeld.1.setRow (setR x k (walkJ x k)) E1 E2 f1 f2, (heap_setRow _ _ _ _ (by omega)).trans hHeld.2.1, ⟨by rw [size_setRow]; exact hHeld.2.2.1.1, fun q hq => (World.cell?_of_block (a := ⟨0, q, none⟩) (heap_setRow _ _ _ _ (by show 0 ≠ _; omega))).trans (hHeld.2.2.1.2 q hq)⟩, hHeld.2.2.2.1.rowA _ HG.out.1, below_setRow hHeld.2.2.2.2.1 (by omega) _, (heap_setRow _ _ _ _ (by omega)).trans hHeld.2.2.2.2.2⟩ (fun hHeld => ?_)
          clear hK2 K
          refine wpAnyH_take (i := 7) (oi := { dst := some 5, op := Op.assign (Operand.tmp 33), type := 3, pos := "finger.go:78", after := #[{ on := 1, ground := Ground.data }, { on := 6, ground := Ground.chain }, { on := 0, ground := Ground.phase }, { on := 1, ground := Ground.phase }, { on := 2, ground := Ground.phase }, { on := 3, ground := Ground.phase }, { on := 4, ground := Ground.textOnly Departure.inlinedCapture }, { on := 5, ground := Ground.textOnly Departure.lateStoresUnsure }, { on := 6, ground := Ground.phase }], guard := none }) (v := ?_) rfl (by kernel_rfl) (by kernel_rfl) (by kernel_rfl) (fun _ _ _ h => h) (Or.inl ⟨by kernel_rfl, ?_⟩) hHeld ?_
          rotate_left
          · intro w hSw; have k0 := hSw.1.cells.1; have k1 := hSw.2.1.cell; go_simp; try with_reducible rfl
          simp only [Act.put, List.setIfInBounds_toArray, List.set_cons_zero, List.set_cons_succ]
          refine wpAnyH_take (i := 8) (oi := { dst := some 6, op := Op.assign (Operand.tmp 37), type := 3, pos := "finger.go:78", after := #[{ on := 5, ground := Ground.data }, { on := 7, ground := Ground.chain }, { on := 0, ground := Ground.phase }, { on := 1, ground := Ground.phase }, { on := 2, ground := Ground.phase }, { on := 3, ground := Ground.phase }, { on := 4, ground := Ground.phase }, { on := 5, ground := Ground.phase }, { on := 6, ground := Ground.phase }, { on := 7, ground := Ground.phase }], guard := none }) (v := ?_) rfl (by kernel_rfl) (by kernel_rfl) (by kernel_rfl) (fun _ _ _ h => h) (Or.inl ⟨by kernel_rfl, ?_⟩) hHeld ?_
          rotate_left
          · intro w hSw; have k0 := hSw.1.cells.1; have k1 := hSw.2.1.cell; go_simp; try with_reducible rfl
          simp only [Act.put, List.setIfInBounds_toArray, List.set_cons_zero, List.set_cons_succ]
          refine wpAnyH_take (i := 9) (oi := { dst := some 7, op := Op.assign (Operand.const (Value.bool true)), type := 4, pos := "finger.go:78", after := #[{ on := 8, ground := Ground.chain }, { on := 0, ground := Ground.phase }, { on := 1, ground := Ground.phase }, { on := 2, ground := Ground.phase }, { on := 3, ground := Ground.phase }, { on := 4, ground := Ground.phase }, { on := 5, ground := Ground.phase }, { on := 6, ground := Ground.phase }, { on := 7, ground := Ground.phase }, { on := 8, ground := Ground.phase }], guard := none }) (v := ?_) rfl (by kernel_rfl) (by kernel_rfl) (by kernel_rfl) (fun _ _ _ h => h) (Or.inl ⟨by kernel_rfl, ?_⟩) hHeld ?_
          rotate_left
          · intro w hSw; have k0 := hSw.1.cells.1; have k1 := hSw.2.1.cell; go_simp; try with_reducible rfl
          simp only [Act.put, List.setIfInBounds_toArray, List.set_cons_zero, List.set_cons_succ]
          refine wpAnyH_done (by kernel_rfl) ?_ _
          exact ⟨rfl, rfl, rfl, rfl, rfl, hHeld⟩
        · rintro a V ⟨hdf, p4, p5, p6, p7, hHeld⟩
          have hz : VBox V (w.heap.size + 1 + 1) (setR x k (walkJ x k)) E1 f1 E2 f2 ∧ RepV V x E1 f1 E2 f2 ∧ Below w.heap.size w V ∧ V.heap[D]? = some (.deferred (some [])) := ⟨hHeld.1, hHeld.2.2.2.1, hHeld.2.2.2.2.1, hHeld.2.2.2.2.2⟩
          go_step
          refine wp_ret ?_
          show LeavesInM Fence.wide 0 Tryd.prog Tryd.f21 a.tmps _ a.defers .returning V
          rw [hdf]
          refine leave_mark (fn := Tryd.f21) hz.2.2.2 (results_cell_tmp3 (fn := Tryd.f21) (p := 4) (t := 5) (u := 6) (v := 7) rfl _ _ (w.heap.size + 1 + 1) 25 ((setR x k (walkJ x k)).cells E1 f1 E2 f2) (0, 0) _ p4 ((World.putObj_heap_other (by omega)).trans hz.1) Tryd.underlying25 rfl (view_size _ _ _ _ _)) ?_
          rw [p5, p6, p7]
          rw [HW.out.1, HW.out.2.1, HW.out.2.2.1, HW.out.2.2.2]
          refine ⟨E1, f1, E2, f2, rfl, ⟨?_, ?_⟩, hz.2.2.1.trans (below_mark (by omega)), HG.out.2.1, HG.out.2.2⟩
          · exact hz.2.1.base.heap3 (by simp) (fun hn b off e => World.putObj_heap_other (by intro e2; have e3 := e2; exact HD.out.1 hn b off e e3))
          · exact hz.2.1.list.heap3 (by simp) (fun hn b off e => World.putObj_heap_other (by intro e2; have e3 := e2; exact HD.out.2 hn b off e e3))
      · have HW := Lib.hid (show walkV x (k : Int) = (setR x k (walkJ x k)) ∧ walkN x (k : Int) = 0 ∧ walkK x (k : Int) = 0 ∧ walkM x (k : Int) = false by
          have := walk_no hr (i := (k : Int)) (by rw [HS.out.2]; exact hj)
          rwa [HS.out.1, HS.out.2] at this)
        go_upto_region 11 with (refine wp_label ?_)
        refine wp_region_lit ?_
        (refine wpList_load_view (t := 4) (setR x k (walkJ x k)) E1 E2 f1 f2 ((w.heap.size + 1 + 1)) ?hg ?hw ?hx ?_; (case hg => exact hv); (case hw => rfl); (case hx => rfl))
        (refine wpList_store_row rfl 25 (.tmp 4) (.tmp 38) rfl (w.heap.size + 1 + 1) ((setR x k (walkJ x k)).cells E1 f1 E2 f2) rfl rfl 25 ((setR x k (walkJ x k)).cells E1 f1 E2 f2) hv (view_size _ _ _ _ _) rfl (View.oneCell _ _ _ _ _) ?_)
        go_wp2
        have hz : VBox (W.setRow (w.heap.size + 1 + 1) ((setR x k (walkJ x k)).cells E1 f1 E2 f2)) (w.heap.size + 1 + 1) (setR x k (walkJ x k)) E1 f1 E2 f2 ∧ RepV (W.setRow (w.heap.size + 1 + 1) ((setR x k (walkJ x k)).cells E1 f1 E2 f2)) x E1 f1 E2 f2 ∧ Below w.heap.size w (W.setRow (w.heap.size + 1 + 1) ((setR x k (walkJ x k)).cells E1 f1 E2 f2)) ∧ (W.setRow (w.heap.size + 1 + 1) ((setR x k (walkJ x k)).cells E1 f1 E2 f2)).heap[D]? = some (.deferred (some [])) := ⟨hv.setRow (setR x k (walkJ x k)) E1 E2 f1 f2, hR.rowA _ HG.out.1, below_setRow hB (by omega) _, (heap_setRow _ _ _ _ hDn).trans hK⟩
        refine leave_mark (fn := Tryd.f21) hz.2.2.2 (results_cell_tmp3 (fn := Tryd.f21) (p := 4) (t := 5) (u := 6) (v := 7) rfl _ _ (w.heap.size + 1 + 1) 25 ((setR x k (walkJ x k)).cells E1 f1 E2 f2) (0, 0) _ rfl ((World.putObj_heap_other (by omega)).trans hz.1) Tryd.underlying25 rfl (view_size _ _ _ _ _)) ?_
        rw [HW.out.1, HW.out.2.1, HW.out.2.2.1, HW.out.2.2.2]
        refine ⟨E1, f1, E2, f2, rfl, ⟨?_, ?_⟩, hz.2.2.1.trans (below_mark (by omega)), HG.out.2.1, HG.out.2.2⟩
        · exact hz.2.1.base.heap3 (by simp) (fun hn b off e => World.putObj_heap_other (by intro e2; have e3 := e2; exact HD.out.1 hn b off e e3))
        · exact hz.2.1.list.heap3 (by simp) (fun hn b off e => World.putObj_heap_other (by intro e2; have e3 := e2; exact HD.out.2 hn b off e e3))
  case false =>
    go_upto_region 5 with (first | (refine wpList_load_view (t := 2) x A1 A2 c1 c2 w.heap.size ?hg ?hw ?hx ?_; (case hg => exact hT3.box); (case hw => rfl); (case hx => rfl)) | (go_at_call 49; refine (finger_known x A1 A2 c1 c2 _ _ (h.below hT3.b)).mono ?_; rintro e W4 ⟨he, hb4⟩; rw [e1] at he; subst he; have hT4 := hT3.below hb4; have hR4 := hR3.below hb4; have hS4 := hS3.below hb4; have j3 := hT4.int.cell; have j4 := hT4.int.frozen))
    refine name_world fun W5 hW5 => ?_
    have hT5 : Three w W5 x x A1 c1 A2 c2 0 E1 f1 E2 f2 := by
      rw [← hW5]
      exact ⟨hT4.box.other (p := ⟨(w.heap.size + 1), 0, none⟩) (by show w.heap.size ≠ (w.heap.size + 1); omega) _, hT4.int.set _, hT4.res.other (p := ⟨(w.heap.size + 1), 0, none⟩) (by show (w.heap.size + 1 + 1) ≠ (w.heap.size + 1); omega) _, hT4.b.setCell (p := ⟨(w.heap.size + 1), 0, none⟩) (by show w.heap.size ≤ (w.heap.size + 1); omega) _⟩
    have hR5 : RepV W5 x E1 f1 E2 f2 := by rw [← hW5]; exact hR4.setA (p := ⟨(w.heap.size + 1), 0, none⟩) _ HA3.out
    have hS5 : Steps W5 := hs.below hT5.b
    clear i3 i4 j3 j4 hT2 hR2 hS2 hT3 hR3 hS3 hT4 hR4 hS4 hb3 hb4 hW5
    have hs0 : startI x i = 0 := by simp [startI, e1]
    have hwe : walkE x i = walkJ x 0 := by rw [walkE, hs0]
    have hj16 : walkJ x 0 ≤ 16 := walkJ_le (by omega)
    have hjs := walkJ_ge x 0
    have HS := Lib.hid (And.intro hs0 hwe)
    clear hs0 hwe
    have q3 := hT5.int.cell
    go_wp2_with (first | (refine wpList_load_view (t := 2) x A1 A2 c1 c2 w.heap.size ?hg ?hw ?hx ?_; (case hg => exact hT5.box); (case hw => rfl); (case hx => rfl)) | (go_at_call 57; refine (finger_once x A1 A2 c1 c2 _ _).mono ?_; rintro e w' ⟨rfl, rfl⟩))
    obtain ⟨W6, hW6⟩ : ∃ W6, (W5.alloc (.cells (x.cells A1 c1 A2 c2) 25)).alloc (.cells #[.int .i64 0] 3) = W6 := ⟨_, rfl⟩
    have z3 := hT5.box.lt
    have z4 := hT5.res.lt
    have z5 : W6.heap.size = W5.heap.size + 1 + 1 := by rw [← hW6]; simp
    have hb6 : Below W5.heap.size W5 W6 := by rw [← hW6]; exact ((Below.refl _ W5).alloc (Nat.le_refl _) _).alloc (by simp) _
    have bv0 : VBox W6 W5.heap.size x A1 c1 A2 c2 := by rw [← hW6]; exact (VBox.new W5 x A1 c1 A2 c2).alloc _
    have bi0 : Boxed W6 (W5.heap.size + 1) 3 (.int .i64 0) := by rw [← hW6]; have := Boxed.new (W5.alloc (.cells (x.cells A1 c1 A2 c2) 25)) 3 (.int .i64 0); simpa using this
    have hB6 : Below w.heap.size w W6 := hT5.b.trans (hb6.mono hT5.b.size)
    have hT6 := hT5.below hb6
    have hR6 := hR5.below hb6
    rw [hW6]
    clear hW6 q3
    refine wp_rf (gf := 84) (lb := #[.pointer (some ⟨W5.heap.size, 0, none⟩), .pointer (some ⟨W5.heap.size + 1, 0, none⟩)]) rfl (enters_of Tryd.func84 (by kernel_rfl) rfl)
      (encs := encF x) (T := fun k => k = W5.heap.size + 1) (R := fun k => k < w.heap.size ∨ k = W5.heap.size ∨ k = W5.heap.size + 1) (xs := List.range' 0 (walkJ x 0 - 0))
      (fun o1 o2 => once_iter x A1 A2 c1 c2 0 W5.heap.size (W5.heap.size + 1) w _ h (h.below (hB6.trans ((((Below.refl _ W6).alloc (by omega) o1)).alloc (by simp; omega) o2))) hs (hs.below (hB6.trans ((((Below.refl _ W6).alloc (by omega) o1)).alloc (by simp; omega) o2))) ((bv0.alloc _).alloc _) ((bi0.alloc _).alloc _) (by omega) (by omega) (by omega))
      (fun k e => by omega) (fun k e => by omega) (fun _ => rfl)
      (fun pre W => VBox W (w.heap.size + 1 + 1) (setR x 0 (0 + pre.length)) E1 f1 E2 f2 ∧ Boxed W (w.heap.size + 1) 3 (.int .i64 ((0 + pre.length : Nat) : Int)) ∧ (∀ b, b < W5.heap.size → b ≠ (w.heap.size + 1) → b ≠ (w.heap.size + 1 + 1) → W.heap[b]? = W5.heap[b]?) ∧ Below w.heap.size w W ∧ W6.heap.size ≤ W.heap.size)
      (fun _ _ _ => False)
      (fun _ _ h => h.2.2.2.2)
      (fun s A A' h ha => ⟨h.1.abide ha (by omega), box_abide h.2.1 ha (by omega), fun b hb h3 h4 => (ha.old b (by omega) (by omega)).trans (h.2.2.1 b hb h3 h4), h.2.2.2.1.trans (ha.below (by omega) (fun k hk => by omega)), Nat.le_trans h.2.2.2.2 ha.grows.size⟩)
      (fun _ _ _ _ h _ => h)
      ⟨by rw [show 0 + ([] : List Nat).length = 0 from rfl, setR_none]; exact hT6.res, hT6.int, fun b hb _ _ => hb6.block b hb, hB6, Nat.le_refl _⟩
      (fun p => { tmps := #[.agg (x.cells A1 c1 A2 c2), .int .i64 i, .pointer (some ⟨w.heap.size, 0, none⟩), .pointer (some ⟨w.heap.size + 1, 0, none⟩), .pointer (some ⟨w.heap.size + 1 + 1, 0, none⟩), .int .i64 0, .int .i64 0, .bool false, .int .i64 (p : Int), .int .i64 (firstV x), .agg (x.cells A1 c1 A2 c2), x.v E1 f1 E2 f2, .agg (x.cells A1 c1 A2 c2), .bool true, .bool false, .agg (x.cells A1 c1 A2 c2), .int .i64 i, .bool false, .bool true, .agg (x.cells A1 c1 A2 c2), .int .i64 0, .func (.func 84) #[] #[.pointer (some ⟨W5.heap.size, 0, none⟩), .pointer (some ⟨W5.heap.size + 1, 0, none⟩)], .int .i64 (p : Int), .int .i64 (firstV x), undef, undef, undef, undef, undef, undef, undef, undef, undef, undef, undef, undef, undef, undef, undef], defers := [] }) ?assign ?body ?done (fun _ _ _ _ _ _ _ _ h _ => h.elim)
    case assign =>
      intro ly p W K hK
      gi_wp2
      exact hK
    case body =>
      rintro ly pre p rest W hxs ⟨hv, hi, hk, hB, hz⟩
      obtain ⟨hp, hpl⟩ := pairs_at hxs
      have hp16 : p < 16 := by omega
      have hsp : 0 ≤ p := by omega
      have p3 := hv.finger (k := p) hp16
      have p4 := hv.frozen
      have i3 := hi.cell
      have i4 := hi.frozen
      have n34 : (w.heap.size + 1 + 1) ≠ (w.heap.size + 1) := by omega
      have n43 : (w.heap.size + 1) ≠ (w.heap.size + 1 + 1) := by omega
      rw [← hp] at hv i3 hi
      have HV := Lib.hid (And.intro hv hi)
      have HK := Lib.hid hk
      have HL := Lib.hid (show 0 + (pre ++ [p]).length = p + 1 by rw [List.length_append]; simp; omega)
      clear hxs hb6 bv0 bi0 hB6 hT6 hT5 hR6 hR5 hS5 hv hi hk hp hpl
      have hfn : ∀ k, Fence.wide.fn k := fun _ => trivial
      have hdp : Fence.wide.depth = none := rfl
      gi_wp2
      refine ⟨(BodyKeeps.setCell W (p := ⟨(w.heap.size + 1 + 1), 4 + p, none⟩) (by show ¬ ((w.heap.size + 1 + 1) < _ ∨ (w.heap.size + 1 + 1) = _ ∨ (w.heap.size + 1 + 1) = _); omega) _).trans (BodyKeeps.setCell _ (p := ⟨(w.heap.size + 1), 0, none⟩) (by show ¬ ((w.heap.size + 1) < _ ∨ (w.heap.size + 1) = _ ∨ (w.heap.size + 1) = _); omega) _), ?_, ?_, ?_, ?_, ?_⟩
      · rw [HL.out, ← setR_next x hsp]
        exact (HV.out.1.setF hp16 _).other (p := ⟨(w.heap.size + 1), 0, none⟩) n34 _
      · rw [HL.out]
        exact ((boxed_other HV.out.2 (p := ⟨(w.heap.size + 1 + 1), 4 + p, none⟩) n43 _).set _)
      · intro b hb h3 h4
        exact (Below.heap_setCell _ ⟨(w.heap.size + 1), 0, none⟩ _ b h3).trans ((Below.heap_setCell W ⟨(w.heap.size + 1 + 1), 4 + p, none⟩ _ b h4).trans (HK.out b hb h3 h4))
      · exact (hB.setCell (p := ⟨(w.heap.size + 1 + 1), 4 + p, none⟩) (by show w.heap.size ≤ (w.heap.size + 1 + 1); omega) _).setCell (p := ⟨(w.heap.size + 1), 0, none⟩) (by show w.heap.size ≤ (w.heap.size + 1); omega) _
      · exact Nat.le_trans hz (Nat.le_trans (Grows.setCell W _ _).size (Grows.setCell _ _ _).size)
    case done =>
      rintro D W hD ⟨hv, hi, hk, hB, hz⟩ hK
      rw [List.length_range', show 0 + (walkJ x 0 - 0) = walkJ x 0 by omega] at hv hi
      have zD : (w.heap.size + 1 + 1) < D := by omega
      have hDn : D ≠ (w.heap.size + 1 + 1) := by omega
      have hR : RepV W x E1 f1 E2 f2 := ⟨hR5.base.heap3 (by omega) (fun hn b off e => hk b (hR5.base.lt hn e) (HA3.out.1 hn b off e) (HG.out.1.1 hn b off e)), hR5.list.heap3 (by omega) (fun hn b off e => hk b (hR5.list.lt hn e) (HA3.out.2 hn b off e) (HG.out.1.2 hn b off e))⟩
      have HD := Lib.hid (show ApartV x E1 E2 D from ⟨fun hn b off e => by have := hR5.base.lt hn e; omega, fun hn b off e => by have := hR5.list.lt hn e; omega⟩)
      have i3 := hi.cell
      clear hb6 bv0 bi0 hB6 hT6 hT5 hR6 hS5 hk
      by_cases hj : walkJ x 0 < 16
      · have HW := Lib.hid (show walkV x i = (setR x 0 (walkJ x 0)) ∧ walkN x i = walkJ x 0 ∧ walkK x i = startF x.id (walkJ x 0) ∧ walkM x i = true by
          have := walk_yes hr (i := i) (by rw [HS.out.2]; exact hj)
          rwa [HS.out.1, HS.out.2] at this)
        go_upto_region 10 with (fail)
        refine region_only (J := fun a W' => a.defers = [{ target := .collected D, args := #[] }] ∧ a.tmps.getD 4 undef = .pointer (some ⟨w.heap.size + 1 + 1, 0, none⟩) ∧ a.tmps.getD 5 undef = .int .i64 (walkJ x 0 : Int) ∧ a.tmps.getD 6 undef = .int .i64 (startF x.id (walkJ x 0)) ∧ a.tmps.getD 7 undef = .bool true ∧ (VBox W' (w.heap.size + 1 + 1) (setR x 0 (walkJ x 0)) E1 f1 E2 f2 ∧ Boxed W' (w.heap.size + 1) 3 (.int .i64 (walkJ x 0 : Int)) ∧ Steps W' ∧ RepV W' x E1 f1 E2 f2 ∧ Below w.heap.size w W' ∧ W'.heap[D]? = some (.deferred (some [])))) ?_ ?_
        · refine region_held_named (S := (fun W' => VBox W' (w.heap.size + 1 + 1) (setR x 0 (walkJ x 0)) E1 f1 E2 f2 ∧ Boxed W' (w.heap.size + 1) 3 (.int .i64 (walkJ x 0 : Int)) ∧ Steps W' ∧ RepV W' x E1 f1 E2 f2 ∧ Below w.heap.size w W' ∧ W'.heap[D]? = some (.deferred (some [])))) (by kernel_rfl) ⟨hv, hi, hs.below (hB.drew), ⟨hR.base.below ((Below.refl _ _).drew), hR.list.below ((Below.refl _ _).drew)⟩, hB.drew, hK⟩ (fun V hHeld => ?_)
          refine wpAnyH_take (i := 0) (oi := { dst := some 32, op := Op.load 25 (Operand.tmp 4), type := 25, pos := "finger.go:78", after := #[], guard := none }) (v := .agg ((setR x 0 (walkJ x 0)).cells E1 f1 E2 f2)) rfl (by kernel_rfl) (by kernel_rfl) (by kernel_rfl) (fun _ _ _ h => h) (yields_view (t := 4) (setR x 0 (walkJ x 0)) E1 E2 f1 f2 (w.heap.size + 1 + 1) (by kernel_rfl) rfl (fun w h => h.1)) hHeld ?_
          simp only [Act.put, List.setIfInBounds_toArray, List.set_cons_zero, List.set_cons_succ]
          refine wpAnyH_take (i := 1) (oi := { dst := some 33, op := Op.load 3 (Operand.tmp 3), type := 3, pos := "finger.go:78", after := #[], guard := none }) (v := ?_) rfl (by kernel_rfl) (by kernel_rfl) (by kernel_rfl) (fun _ _ _ h => h) (Or.inl ⟨by kernel_rfl, ?_⟩) hHeld ?_
          rotate_left
          · intro w hSw; have k0 := hSw.1.cells.1; have k1 := hSw.2.1.cell; go_simp; try with_reducible rfl
          simp only [Act.put, List.setIfInBounds_toArray, List.set_cons_zero, List.set_cons_succ]
          refine wpAnyH_take (i := 2) (oi := { dst := some 34, op := Op.fieldAddr 25 (Operand.tmp 4) 0, type := 0, pos := "finger.go:78", after := #[], guard := none }) (v := ?_) rfl (by kernel_rfl) (by kernel_rfl) (by kernel_rfl) (fun _ _ _ h => h) (Or.inl ⟨by kernel_rfl, ?_⟩) hHeld ?_
          rotate_left
          · intro w hSw; have k0 := hSw.1.cells.1; have k1 := hSw.2.1.cell; go_simp; try with_reducible rfl
          simp only [Act.put, List.setIfInBounds_toArray, List.set_cons_zero, List.set_cons_succ]
          refine wpAnyH_take (i := 3) (oi := { dst := some 35, op := Op.load 3 (Operand.tmp 34), type := 3, pos := "finger.go:78", after := #[{ on := 2, ground := Ground.data }], guard := none }) (v := ?_) rfl (by kernel_rfl) (by kernel_rfl) (by kernel_rfl) (fun _ _ _ h => h) (Or.inl ⟨by kernel_rfl, ?_⟩) hHeld ?_
          rotate_left
          · intro w hSw; have k0 := hSw.1.cells.1; have k1 := hSw.2.1.cell; go_simp; try with_reducible rfl
          simp only [Act.put, List.setIfInBounds_toArray, List.set_cons_zero, List.set_cons_succ]
          refine wpAnyH_take (i := 4) (oi := { dst := some 36, op := Op.load 3 (Operand.tmp 3), type := 3, pos := "finger.go:78", after := #[], guard := none }) (v := ?_) rfl (by kernel_rfl) (by kernel_rfl) (by kernel_rfl) (fun _ _ _ h => h) (Or.inl ⟨by kernel_rfl, ?_⟩) hHeld ?_
          rotate_left
          · intro w hSw; have k0 := hSw.1.cells.1; have k1 := hSw.2.1.cell; go_simp; try with_reducible rfl
          simp only [Act.put, List.setIfInBounds_toArray, List.set_cons_zero, List.set_cons_succ]
          refine wpAnyH_ready (rs := [5]) (by kernel_rfl) (by simp) ?_
          refine AllReadyH.cons (o := { dst := some 37, op := Op.call { callee := Callee.value (Operand.func 50), args := #[Operand.tmp 35, Operand.tmp 36], argTypes := #[3, 3] }, type := 3, pos := "finger.go:78", after := #[{ on := 3, ground := Ground.data }, { on := 4, ground := Ground.data }], guard := none }) rfl (fun K hK2 => ?_) AllReadyH.nil
          go_simp
          go_wp2_with (go_at_call 50; refine (arc_Start _ _ _ hHeld.2.2.1).mono ?_; rintro e V ⟨rfl, rfl⟩)
          refine hK2.out _ _ hHeld (fun hHeld => ?_)
          clear hK2 K
          refine wpAnyH_ready (rs := [6]) (by kernel_rfl) (by simp) ?_
          refine AllReadyH.cons (o := { dst := none, op := Op.store 25 (Operand.tmp 4) (Operand.tmp 32), type := 0, pos := "finger.go:78", after := #[{ on := 0, ground := Ground.data }, { on := 5, ground := Ground.chain }, { on := 0, ground := Ground.phase }, { on := 1, ground := Ground.textOnly Departure.inlinedCapture }, { on := 2, ground := Ground.phase }, { on := 3, ground := Ground.phase }, { on := 4, ground := Ground.textOnly Departure.inlinedCapture }, { on := 5, ground := Ground.textOnly Departure.lateStoresUnsure }], guard := none }) rfl (fun K hK2 => ?_) AllReadyH.nil
          rw [if_pos (by kernel_rfl)]
          refine wp_store_row 25 (.tmp 4) (.tmp 32) rfl (w.heap.size + 1 + 1) ((setR x 0 (walkJ x 0)).cells E1 f1 E2 f2) rfl rfl 25 ((setR x 0 (walkJ x 0)).cells E1 f1 E2 f2) hHeld.1 (view_size _ _ _ _ _) rfl (View.oneCell _ _ _ _ _) ?_
          dsimp only [Act.put]
          refine hK2.out _ _ ⟨hHeld.1.setRow (setR x 0 (walkJ x 0)) E1 E2 f1 f2, (heap_setRow _ _ _ _ (by omega)).trans hHeld.2.1, ⟨by rw [size_setRow]; exact hHeld.2.2.1.1, fun q hq => (World.cell?_of_block (a := ⟨0, q, none⟩) (heap_setRow _ _ _ _ (by show 0 ≠ _; omega))).trans (hHeld.2.2.1.2 q hq)⟩, hHeld.2.2.2.1.rowA _ HG.out.1, below_setRow hHeld.2.2.2.2.1 (by omega) _, (heap_setRow _ _ _ _ (by omega)).trans hHeld.2.2.2.2.2⟩ (fun hHeld => ?_)
          clear hK2 K
          refine wpAnyH_take (i := 7) (oi := { dst := some 5, op := Op.assign (Operand.tmp 33), type := 3, pos := "finger.go:78", after := #[{ on := 1, ground := Ground.data }, { on := 6, ground := Ground.chain }, { on := 0, ground := Ground.phase }, { on := 1, ground := Ground.phase }, { on := 2, ground := Ground.phase }, { on := 3, ground := Ground.phase }, { on := 4, ground := Ground.textOnly Departure.inlinedCapture }, { on := 5, ground := Ground.textOnly Departure.lateStoresUnsure }, { on := 6, ground := Ground.phase }], guard := none }) (v := ?_) rfl (by kernel_rfl) (by kernel_rfl) (by kernel_rfl) (fun _ _ _ h => h) (Or.inl ⟨by kernel_rfl, ?_⟩) hHeld ?_
          rotate_left
          · intro w hSw; have k0 := hSw.1.cells.1; have k1 := hSw.2.1.cell; go_simp; try with_reducible rfl
          simp only [Act.put, List.setIfInBounds_toArray, List.set_cons_zero, List.set_cons_succ]
          refine wpAnyH_take (i := 8) (oi := { dst := some 6, op := Op.assign (Operand.tmp 37), type := 3, pos := "finger.go:78", after := #[{ on := 5, ground := Ground.data }, { on := 7, ground := Ground.chain }, { on := 0, ground := Ground.phase }, { on := 1, ground := Ground.phase }, { on := 2, ground := Ground.phase }, { on := 3, ground := Ground.phase }, { on := 4, ground := Ground.phase }, { on := 5, ground := Ground.phase }, { on := 6, ground := Ground.phase }, { on := 7, ground := Ground.phase }], guard := none }) (v := ?_) rfl (by kernel_rfl) (by kernel_rfl) (by kernel_rfl) (fun _ _ _ h => h) (Or.inl ⟨by kernel_rfl, ?_⟩) hHeld ?_
          rotate_left
          · intro w hSw; have k0 := hSw.1.cells.1; have k1 := hSw.2.1.cell; go_simp; try with_reducible rfl
          simp only [Act.put, List.setIfInBounds_toArray, List.set_cons_zero, List.set_cons_succ]
          refine wpAnyH_take (i := 9) (oi := { dst := some 7, op := Op.assign (Operand.const (Value.bool true)), type := 4, pos := "finger.go:78", after := #[{ on := 8, ground := Ground.chain }, { on := 0, ground := Ground.phase }, { on := 1, ground := Ground.phase }, { on := 2, ground := Ground.phase }, { on := 3, ground := Ground.phase }, { on := 4, ground := Ground.phase }, { on := 5, ground := Ground.phase }, { on := 6, ground := Ground.phase }, { on := 7, ground := Ground.phase }, { on := 8, ground := Ground.phase }], guard := none }) (v := ?_) rfl (by kernel_rfl) (by kernel_rfl) (by kernel_rfl) (fun _ _ _ h => h) (Or.inl ⟨by kernel_rfl, ?_⟩) hHeld ?_
          rotate_left
          · intro w hSw; have k0 := hSw.1.cells.1; have k1 := hSw.2.1.cell; go_simp; try with_reducible rfl
          simp only [Act.put, List.setIfInBounds_toArray, List.set_cons_zero, List.set_cons_succ]
          refine wpAnyH_done (by kernel_rfl) ?_ _
          exact ⟨rfl, rfl, rfl, rfl, rfl, hHeld⟩
        · rintro a V ⟨hdf, p4, p5, p6, p7, hHeld⟩
          have hz : VBox V (w.heap.size + 1 + 1) (setR x 0 (walkJ x 0)) E1 f1 E2 f2 ∧ RepV V x E1 f1 E2 f2 ∧ Below w.heap.size w V ∧ V.heap[D]? = some (.deferred (some [])) := ⟨hHeld.1, hHeld.2.2.2.1, hHeld.2.2.2.2.1, hHeld.2.2.2.2.2⟩
          go_step
          refine wp_ret ?_
          show LeavesInM Fence.wide 0 Tryd.prog Tryd.f21 a.tmps _ a.defers .returning V
          rw [hdf]
          refine leave_mark (fn := Tryd.f21) hz.2.2.2 (results_cell_tmp3 (fn := Tryd.f21) (p := 4) (t := 5) (u := 6) (v := 7) rfl _ _ (w.heap.size + 1 + 1) 25 ((setR x 0 (walkJ x 0)).cells E1 f1 E2 f2) (0, 0) _ p4 ((World.putObj_heap_other (by omega)).trans hz.1) Tryd.underlying25 rfl (view_size _ _ _ _ _)) ?_
          rw [p5, p6, p7]
          rw [HW.out.1, HW.out.2.1, HW.out.2.2.1, HW.out.2.2.2]
          refine ⟨E1, f1, E2, f2, rfl, ⟨?_, ?_⟩, hz.2.2.1.trans (below_mark (by omega)), HG.out.2.1, HG.out.2.2⟩
          · exact hz.2.1.base.heap3 (by simp) (fun hn b off e => World.putObj_heap_other (by intro e2; have e3 := e2; exact HD.out.1 hn b off e e3))
          · exact hz.2.1.list.heap3 (by simp) (fun hn b off e => World.putObj_heap_other (by intro e2; have e3 := e2; exact HD.out.2 hn b off e e3))
      · have HW := Lib.hid (show walkV x i = (setR x 0 (walkJ x 0)) ∧ walkN x i = 0 ∧ walkK x i = 0 ∧ walkM x i = false by
          have := walk_no hr (i := i) (by rw [HS.out.2]; exact hj)
          rwa [HS.out.1, HS.out.2] at this)
        go_upto_region 11 with (refine wp_label ?_)
        refine wp_region_lit ?_
        (refine wpList_load_view (t := 4) (setR x 0 (walkJ x 0)) E1 E2 f1 f2 ((w.heap.size + 1 + 1)) ?hg ?hw ?hx ?_; (case hg => exact hv); (case hw => rfl); (case hx => rfl))
        (refine wpList_store_row rfl 25 (.tmp 4) (.tmp 38) rfl (w.heap.size + 1 + 1) ((setR x 0 (walkJ x 0)).cells E1 f1 E2 f2) rfl rfl 25 ((setR x 0 (walkJ x 0)).cells E1 f1 E2 f2) hv (view_size _ _ _ _ _) rfl (View.oneCell _ _ _ _ _) ?_)
        go_wp2
        have hz : VBox (W.setRow (w.heap.size + 1 + 1) ((setR x 0 (walkJ x 0)).cells E1 f1 E2 f2)) (w.heap.size + 1 + 1) (setR x 0 (walkJ x 0)) E1 f1 E2 f2 ∧ RepV (W.setRow (w.heap.size + 1 + 1) ((setR x 0 (walkJ x 0)).cells E1 f1 E2 f2)) x E1 f1 E2 f2 ∧ Below w.heap.size w (W.setRow (w.heap.size + 1 + 1) ((setR x 0 (walkJ x 0)).cells E1 f1 E2 f2)) ∧ (W.setRow (w.heap.size + 1 + 1) ((setR x 0 (walkJ x 0)).cells E1 f1 E2 f2)).heap[D]? = some (.deferred (some [])) := ⟨hv.setRow (setR x 0 (walkJ x 0)) E1 E2 f1 f2, hR.rowA _ HG.out.1, below_setRow hB (by omega) _, (heap_setRow _ _ _ _ hDn).trans hK⟩
        refine leave_mark (fn := Tryd.f21) hz.2.2.2 (results_cell_tmp3 (fn := Tryd.f21) (p := 4) (t := 5) (u := 6) (v := 7) rfl _ _ (w.heap.size + 1 + 1) 25 ((setR x 0 (walkJ x 0)).cells E1 f1 E2 f2) (0, 0) _ rfl ((World.putObj_heap_other (by omega)).trans hz.1) Tryd.underlying25 rfl (view_size _ _ _ _ _)) ?_
        rw [HW.out.1, HW.out.2.1, HW.out.2.2.1, HW.out.2.2.2]
        refine ⟨E1, f1, E2, f2, rfl, ⟨?_, ?_⟩, hz.2.2.1.trans (below_mark (by omega)), HG.out.2.1, HG.out.2.2⟩
        · exact hz.2.1.base.heap3 (by simp) (fun hn b off e => World.putObj_heap_other (by intro e2; have e3 := e2; exact HD.out.1 hn b off e e3))
        · exact hz.2.1.list.heap3 (by simp) (fun hn b off e => World.putObj_heap_other (by intro e2; have e3 := e2; exact HD.out.2 hn b off e e3))
end Go.Proofs.YtbjgfcempfpfcaaDoor
