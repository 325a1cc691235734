/- Contracts: slices.Collect of items, item.Newest. -/
import Derived.Test.YtbjgfcempfpfcaaDG
import Derived.Test.YtbjgfcempfpfcaaU
import Derived.ScopeJumps
namespace Go.Proofs.Ytbjgfcempfpfcaa
open Go.RowKit Go.Shelf

theorem slices_Collect {gf : Nat} {lb : Array Value} {R : Nat → Prop} {xs : List It} {w : World} (hsm : xs.length ≤ 1099511627776) (eg : ∀ args w, (callFunc gf args).run Try.prog w = .ok (.enter gf args) w)
    (hR : ∀ k, R k → k < w.heap.size) (hit : ∀ W, Below w.heap.size w W → IterAt Try.prog gf lb encIt (fun _ => False) R xs W) :
    Calls Try.prog 74 #[.func (.func gf) #[] lb] w (RetI w xs) := by
  go_enter Try.func74, Try.ntmps74
  go_wp2_with (go_at_call 106; refine (slices_AppendSeq hsm eg hR hit).mono ?_; rintro e W ⟨A, c, rfl, hs, hm, hb, hf⟩)
  go_ret
  exact ⟨A, c, rfl, hs, hm, hb, hf⟩
theorem wp_scope_first {P : Program} {a : Act} {w : World} {Q : Exit → Act → World → Prop} {C X : Code} (l : Nat) (J : Act → World → Prop) (μ : Act → World → Nat) (hf : findLabel (Code.seq C (Code.seq (Code.label l) X)) l = some (Code.seq Code.skip X))
    (first : C.wp P (Exit.then J (Exit.jump l J Q)) a w)
    (pass : ∀ a w, J a w → X.wp P (Exit.jump l (fun a' w' => J a' w' ∧ μ a' w' < μ a w) Q) a w) : (Code.scope (Code.seq C (Code.seq (Code.label l) X))).wp P Q a w := by
  refine wp_scope_jumps (rest := Code.seq Code.skip X) l J μ hf ?_ (fun a w h => wp_seq (wp_skip (pass a w h)))
  refine wp_seq (wp_mono first ?_)
  intro e a' w' q
  cases e with
  | normal => exact wp_seq (wp_label (wp_mono (pass a' w' q) (fun e a w q => by cases e <;> first | exact q | exact ⟨q.1, q.2.1⟩)))
  | _ => exact q

def stepN (p : It × Bool) (x : It) : It × Bool := if !p.2 || newerI x p.1 then (x, true) else p
def newestP (l : List It) : It × Bool := (l.filter pairI).foldl stepN (It.zero, false)
theorem foldN_next {xs : List It} {k : Nat} (h : k < xs.length) : (xs.take (k + 1)).foldl stepN (It.zero, false) = stepN ((xs.take k).foldl stepN (It.zero, false)) (nthI xs k) := by
  rw [List.take_succ_eq_append_getElem h, List.foldl_append, nthI_eq h]; rfl
def lenOf (v : Value) : Nat := match v with
  | .slice _ n _ => n
  | _ => 0
theorem IBox.setRow {W : World} {B : Nat} {y : It} (h : IBox W B y) (x : It) : IBox (W.setRow B x.cells) B x := setRow_heap W B _ _ _ _ h
theorem It.oneCell (x : It) : x.cells.all (·.oneCell') = true := by kernel_rfl
theorem rangeAt_below {W W' : World} {b o : Nat} {l : List Value} (h : W.rangeAt b o l) (hb : b < W.heap.size) (hB : Below W.heap.size W W') : W'.rangeAt b o l :=
  fun j v hv => (World.cell?_of_block (a := ⟨b, o + j, none⟩) (hB.block b hb)).trans (h j v hv)
theorem yields_imid {ops : Array Oper} {S : World → Prop} {a : Act} {dst : Option Tmp} {ty : TypeId} {pos : String} {af : Array Edge} {t : Nat} {gd : Option (Nat × Bool)} (x : It) (b o : Nat)
    (hw : Region.wanted { dst := dst, op := .load 40 (.tmp t), type := ty, pos := pos, after := af, guard := gd } (yielded ops a.tmps) = true) (hx : a.eval (.tmp t) = .pointer (some ⟨b, o, none⟩)) (hS : ∀ w, S w → w.rangeAt b o x.cells.toList) :
    YieldsIf Try.prog ops S { dst := dst, op := .load 40 (.tmp t), type := ty, pos := pos, after := af, guard := gd } (.agg x.cells) a :=
  .inl ⟨hw, fun w h => by
    unfold execOp
    simp only [hx, run_loadAt_mid w b o 40 x.cells.toList _ (hS w h) Try.underlying40 rfl (by rw [item_size]; rfl), Sem.run_bind, Sem.run_pure, Result.andThen_ok]⟩
theorem wpList_load_imid {ops : Array Oper} {rest : List Oper} {a : Act} {w : World} {Q : Exit → Act → World → Prop} {dst : Option Tmp} {ty : TypeId} {pos : String} {af : Array Edge} {t : Nat} {gd : Option (Nat × Bool)} (x : It) (b o : Nat)
    (hg : w.rangeAt b o x.cells.toList) (hw : Region.wanted { dst := dst, op := .load 40 (.tmp t), type := ty, pos := pos, after := af, guard := gd } (yielded ops a.tmps) = true) (hx : a.eval (.tmp t) = .pointer (some ⟨b, o, none⟩)) (h : wpList Try.prog ops Q rest (a.put dst (.agg x.cells)) w) :
    wpList Try.prog ops Q ({ dst := dst, op := .load 40 (.tmp t), type := ty, pos := pos, after := af, guard := gd } :: rest) a w :=
  wpList_step fun _ hK => by
    rw [if_pos hw]
    unfold Oper.wp execOp
    simp only [hx, run_loadAt_mid w b o 40 x.cells.toList _ hg Try.underlying40 rfl (by rw [item_size]; rfl), Sem.run_bind, Sem.run_pure, Result.andThen_ok]
    exact hK _ _ h
theorem SlI.head {W : World} {A : Option Addr} {e k : Nat} {xs : List It} (h : SlI W A e (xs.drop k)) (hk : k < xs.length) : ∃ b off, A = some ⟨b, off, none⟩ ∧ b < W.heap.size ∧ W.rangeAt b off (nthI xs k).cells.toList := by
  obtain ⟨b, off, e1, hlt, hc⟩ := h.at_ (by simp; omega)
  refine ⟨b, off, e1, hlt, ?_⟩
  have := hc 0 (by simp; omega)
  simpa [nthI] using this
theorem SlI.tail {W : World} {b off e k : Nat} {xs : List It} (h : SlI W (some ⟨b, off, none⟩) e (xs.drop k)) (hk : k < xs.length) : SlI W (some ⟨b, off + 4, none⟩) (e - 1) (xs.drop (k + 1)) := by
  have hcap := h.cap
  simp only [List.length_drop] at hcap
  refine ⟨by simp; omega, fun e1 => (by cases e1), fun hn => ?_⟩
  simp only [List.length_drop] at hn
  obtain ⟨b', off', e1, hlt, hc⟩ := h.at_ (by simp; omega)
  injection e1 with e1; injection e1 with e1 e2 _; subst e1; subst e2
  refine ⟨b, off + 4, rfl, hlt, fun j hj => ?_⟩
  simp only [List.length_drop] at hj
  have h1 := hc (j + 1) (by simp; omega)
  have h2 : nthI (xs.drop k) (j + 1) = nthI (xs.drop (k + 1)) j := by simp [nthI]; congr 2; omega
  rw [h2, show off + (j + 1) * 4 = off + 4 + j * 4 by omega] at h1
  exact h1
theorem SlI.last {W : World} {A : Option Addr} {k : Nat} {xs : List It} (h : xs.length ≤ k) : SlI W A 0 (xs.drop k) :=
  ⟨by simp; omega, fun _ => rfl, fun hn => by simp at hn; omega⟩
theorem SlI.off {W W' : World} {A : Option Addr} {c : Nat} {xs : List It} (h : SlI W A c xs) (hs : W.heap.size ≤ W'.heap.size) (hk : ∀ b off, A = some ⟨b, off, none⟩ → W'.heap[b]? = W.heap[b]?) : SlI W' A c xs := h.heap hs (fun _ => hk)
/-- What holds where one looks on. -/
def NewJ (w : World) (A0 : Option Addr) (n0 c0 : Nat) (xs : List It) (a : Act) (W : World) : Prop :=
  ∃ k : Nat, k ≤ xs.length ∧ ∃ (E : Option Addr) (e : Nat) (t1 t5 t6 t7 t8 t9 t10 t11 t12 t13 t14 t15 t16 t17 t18 t19 t20 t21 t22 t23 t24 t25 t26 : Value),
    a = { tmps := #[.slice A0 n0 c0, t1, .pointer (some ⟨w.heap.size, 0, none⟩), .bool ((xs.take k).foldl stepN (It.zero, false)).2, .slice E (xs.length - k) e, t5, t6, t7, t8, t9, t10, t11, t12, t13, t14, t15, t16, t17, t18, t19, t20, t21, t22, t23, t24, t25, t26], defers := [] } ∧
    Hid (IBox W w.heap.size ((xs.take k).foldl stepN (It.zero, false)).1 ∧ SlI W E e (xs.drop k) ∧ Below w.heap.size w W ∧ ∀ b off, E = some ⟨b, off, none⟩ → w.heap.size < b)
theorem NewJ.mk {w : World} {A0 : Option Addr} {n0 c0 : Nat} {xs : List It} {W : World} (k m : Nat) (q : It × Bool) (f : Bool) {E : Option Addr} {e : Nat} {t1 t5 t6 t7 t8 t9 t10 t11 t12 t13 t14 t15 t16 t17 t18 t19 t20 t21 t22 t23 t24 t25 t26 : Value}
    (hk : k ≤ xs.length) (hm : m = xs.length - k) (hq : ((xs.take k).foldl stepN (It.zero, false)) = q) (hf : f = q.2) (h1 : IBox W w.heap.size q.1) (h2 : SlI W E e (xs.drop k)) (h3 : Below w.heap.size w W) (h4 : ∀ b off, E = some ⟨b, off, none⟩ → w.heap.size < b) :
    NewJ w A0 n0 c0 xs { tmps := #[.slice A0 n0 c0, t1, .pointer (some ⟨w.heap.size, 0, none⟩), .bool f, .slice E m e, t5, t6, t7, t8, t9, t10, t11, t12, t13, t14, t15, t16, t17, t18, t19, t20, t21, t22, t23, t24, t25, t26], defers := [] } W := by
  subst hm hf hq
  exact ⟨k, hk, E, e, t1, t5, t6, t7, t8, t9, t10, t11, t12, t13, t14, t15, t16, t17, t18, t19, t20, t21, t22, t23, t24, t25, t26, rfl, Lib.hid ⟨h1, h2, h3, h4⟩⟩
theorem those_pair_hit {w W0 W2 : World} (A : Option Addr) (c : Nat) (l : List It) (hs : SlI w A c l) (hB : Below w.heap.size w W0) (hsm : l.length ≤ 1099511627776)
    (hW2 : (W0.alloc (.cells #[.slice A l.length c] 44)).alloc (.cells #[.func (.func 76) #[] #[]] 48) = W2) :
    (∀ k, (k < w.heap.size ∨ k = W0.heap.size ∨ k = W0.heap.size + 1) → k < W2.heap.size) ∧ Below w.heap.size w W2 ∧ Below W0.heap.size W0 W2 ∧
    ∀ W, Below W2.heap.size W2 W → IterAt Try.prog 107 #[.pointer (some ⟨W0.heap.size, 0, none⟩), .pointer (some ⟨W0.heap.size + 1, 0, none⟩)] encIt (fun _ => False) (fun k => k < w.heap.size ∨ k = W0.heap.size ∨ k = W0.heap.size + 1) (l.filter pairI) W := by
  have z2 : W2.heap.size = W0.heap.size + 2 := by rw [← hW2]; simp
  have b2 : Below W0.heap.size W0 W2 := by rw [← hW2]; exact two_more _ _
  have bl : Boxed W2 W0.heap.size 44 (.slice A l.length c) := by rw [← hW2]; exact (Boxed.new W0 44 (.slice A l.length c)).alloc _
  have bs : Boxed W2 (W0.heap.size + 1) 48 (.func (.func 76) #[] #[]) := by
    rw [← hW2]; have := Boxed.new (W0.alloc (.cells #[.slice A l.length c] 44)) 48 (.func (.func 76) #[] #[]); simpa using this
  have z0 := hB.size
  have hB2 : Below w.heap.size w W2 := hB.trans (b2.mono z0)
  refine ⟨fun k hk => by omega, hB2, b2, fun W hW => ?_⟩
  exact those_pair_iter A c l W0.heap.size (W0.heap.size + 1) w.heap.size W ((hs.below hB2).below hW) (fun hn b off e => hs.lt hn e) (box_below bl hW bl.lt) (box_below bs hW bs.lt) (by have := hW.size; omega) (by omega)
set_option maxRecDepth 100000 in
set_option maxHeartbeats 2000000 in
theorem item_Newest (A : Option Addr) (c : Nat) (l : List It) (w : World) (hs : SlI w A c l) (hsm : l.length ≤ 1099511627776) :
    Calls Try.prog 36 #[.slice A l.length c] w fun e w' => e = .returned (.tuple #[(newestP l).1.v, .bool (newestP l).2]) ∧ Below w.heap.size w w' := by
  go_enter Try.func36, Try.ntmps36
  go_upto_region 1 with (fail)
  refine name_world fun W0 hW0 => ?_
  have hz0 : IBox W0 w.heap.size It.zero := by rw [← hW0]; exact IBox.new w It.zero
  have hB0 : Below w.heap.size w W0 := by rw [← hW0]; exact one_more _
  clear hW0
  have hxl := List.length_filter_le pairI l
  refine wp_scope_first 0 (NewJ w A l.length c (l.filter pairI)) (fun a _ => lenOf (a.tmps.getD 4 undef)) rfl ?first ?pass
  case first =>
    go_wp2_with (first | (go_at_call 75; refine (item_those A l.length c _ _ ⟨_, _, _, rfl⟩).mono ?_; rintro e W2 ⟨rfl, hW2⟩; obtain ⟨h1, h2, h2b, h3⟩ := those_pair_hit A c l hs hB0 hsm hW2) | (go_at_call 74; refine (slices_Collect (xs := l.filter pairI) (by omega) (enters_of Try.func107 (by kernel_rfl) rfl) h1 h3).mono ?_; rintro e3 W3 ⟨E, e, rfl, hsE, hm, hb3, hf3⟩))
    have z0 := hz0.lt
    have z2 := h2b.size
    refine ⟨0, Nat.zero_le _, E, e, _, _, _, _, _, _, _, _, _, _, _, _, _, _, _, _, _, _, _, _, _, _, _, rfl, Lib.hid ⟨?_, hsE, h2.trans (hb3.mono h2.size), fun b off ee => ?_⟩⟩
    · exact (hz0.below h2b).below hb3
    · have := hf3 b off ee; omega
  case pass =>
    rintro a wr ⟨k, hk, E, e, t1, t5, t6, t7, t8, t9, t10, t11, t12, t13, t14, t15, t16, t17, t18, t19, t20, t21, t22, t23, t24, t25, t26, rfl, hH⟩
    obtain ⟨hz, hsE, hB, hfr⟩ := hH.out
    have hmu : lenOf (#[Value.slice A l.length c, t1, .pointer (some ⟨w.heap.size, 0, none⟩), .bool ((((l.filter pairI).take k).foldl stepN (It.zero, false))).2, .slice E ((l.filter pairI).length - k) e, t5, t6, t7, t8, t9, t10, t11, t12, t13, t14, t15, t16, t17, t18, t19, t20, t21, t22, t23, t24, t25, t26].getD 4 undef) = (l.filter pairI).length - k := rfl
    dsimp only
    rw [hmu]
    clear hmu hH
    rcases Nat.lt_or_ge k (l.filter pairI).length with hlt0 | hge
    · obtain ⟨b, off, rfl, hlt, hr⟩ := hsE.head hlt0
      have hfr' := hfr b off rfl
      have hnx := Lib.hid (foldN_next hlt0)
      have htl := Lib.hid (hsE.tail hlt0)
      have hcap := hsE.cap
      simp only [List.length_drop] at hcap
      generalize hp : ((l.filter pairI).take k).foldl stepN (It.zero, false) = q at *
      obtain ⟨px, pf⟩ := q
      dsimp only at hz ⊢
      obtain ⟨m, hm⟩ : ∃ m, (l.filter pairI).length - k = m + 1 := ⟨(l.filter pairI).length - k - 1, by omega⟩
      have hmk : m = (l.filter pairI).length - (k + 1) := by omega
      rw [hm]
      have HK := Lib.hid (And.intro hlt0 (And.intro hcap (And.intro hm hmk)))
      clear hcap hm hmk hlt0 hk hxl hsE hfr
      cases pf with
      | true =>
        go_upto_region 4 with (fail)
        refine wp_region_held_drew (S := (fun w' => Below wr.heap.size wr w')) (by kernel_rfl) (Below.refl _ _).drew (fun hHeld => ?_)
        refine wpAnyH_take (i := 0) (oi := { dst := some 13, op := Op.move (Operand.tmp 3), type := 4, pos := "item.go:51", after := #[], guard := none }) (v := ?_) rfl (by kernel_rfl) (by kernel_rfl) (by kernel_rfl) (fun _ _ _ h => h) (Or.inl ⟨by kernel_rfl, ?_⟩) hHeld ?_
        rotate_left
        · intro w hSw; go_simp; try with_reducible rfl
        simp only [Act.put, List.setIfInBounds_toArray, List.set_cons_zero, List.set_cons_succ]
        refine wpAnyH_take (i := 1) (oi := { dst := some 14, op := Op.unOp UnOp.not 4 (Operand.tmp 13), type := 4, pos := "item.go:51", after := #[{ on := 0, ground := Ground.data }], guard := none }) (v := ?_) rfl (by kernel_rfl) (by kernel_rfl) (by kernel_rfl) (fun _ _ _ h => h) (Or.inl ⟨by kernel_rfl, ?_⟩) hHeld ?_
        rotate_left
        · intro w hSw; go_simp; try with_reducible rfl
        simp only [Act.put, List.setIfInBounds_toArray, List.set_cons_zero, List.set_cons_succ]
        refine wpAnyH_take (i := 2) (oi := { dst := some 15, op := Op.move (Operand.tmp 14), type := 4, pos := "item.go:51", after := #[{ on := 1, ground := Ground.data }], guard := none }) (v := ?_) rfl (by kernel_rfl) (by kernel_rfl) (by kernel_rfl) (fun _ _ _ h => h) (Or.inl ⟨by kernel_rfl, ?_⟩) hHeld ?_
        rotate_left
        · intro w hSw; go_simp; try with_reducible rfl
        simp only [Act.put, List.setIfInBounds_toArray, List.set_cons_zero, List.set_cons_succ]
        refine wpAnyH_take (i := 3) (oi := { dst := some 16, op := Op.move (Operand.tmp 4), type := 44, pos := "item.go:51", after := #[{ on := 2, ground := Ground.guard }], guard := some (2, false) }) (v := ?_) rfl (by kernel_rfl) (by kernel_rfl) (by kernel_rfl) (fun _ _ _ h => h) (Or.inl ⟨by kernel_rfl, ?_⟩) hHeld ?_
        rotate_left
        · intro w hSw; go_simp; try with_reducible rfl
        simp only [Act.put, List.setIfInBounds_toArray, List.set_cons_zero, List.set_cons_succ]
        refine wpAnyH_take (i := 4) (oi := { dst := some 17, op := Op.indexAddr 44 (Operand.tmp 16) (Operand.const (Value.int IntKind.i64 0)), type := 0, pos := "item.go:51", after := #[{ on := 3, ground := Ground.data }, { on := 2, ground := Ground.guard }], guard := some (2, false) }) (v := ?_) rfl (by kernel_rfl) (by kernel_rfl) (by kernel_rfl) (fun _ _ _ h => h) (Or.inl ⟨by kernel_rfl, ?_⟩) hHeld ?_
        rotate_left
        · intro w hSw; go_simp; try with_reducible rfl
        simp only [Act.put, List.setIfInBounds_toArray, List.set_cons_zero, List.set_cons_succ]
        refine wpAnyH_take (i := 5) (oi := { dst := some 18, op := Op.load 40 (Operand.tmp 17), type := 40, pos := "item.go:51", after := #[{ on := 4, ground := Ground.data }, { on := 2, ground := Ground.guard }], guard := some (2, false) }) (v := .agg (It.cells (nthI (l.filter pairI) k))) rfl (by kernel_rfl) (by kernel_rfl) (by kernel_rfl) (fun _ _ _ h => h) (yields_imid (t := 17) (nthI (l.filter pairI) k) b off (by kernel_rfl) rfl (fun w h => rangeAt_below hr hlt h)) hHeld ?_
        simp only [Act.put, List.setIfInBounds_toArray, List.set_cons_zero, List.set_cons_succ]
        refine wpAnyH_take (i := 6) (oi := { dst := some 19, op := Op.load 40 (Operand.tmp 2), type := 40, pos := "item.go:51", after := #[{ on := 2, ground := Ground.guard }], guard := some (2, false) }) (v := .agg (It.cells px)) rfl (by kernel_rfl) (by kernel_rfl) (by kernel_rfl) (fun _ _ _ h => h) (yields_item (t := 2) px w.heap.size (by kernel_rfl) rfl (fun w h => hz.below h)) hHeld ?_
        simp only [Act.put, List.setIfInBounds_toArray, List.set_cons_zero, List.set_cons_succ]
        refine wpAnyH_ready (rs := [7]) (by kernel_rfl) (by simp) ?_
        refine AllReadyH.cons (o := { dst := some 20, op := Op.call { callee := Callee.value (Operand.func 33), args := #[Operand.tmp 18, Operand.tmp 19], argTypes := #[40, 40] }, type := 4, pos := "item.go:51", after := #[{ on := 5, ground := Ground.data }, { on := 6, ground := Ground.data }, { on := 2, ground := Ground.chain }, { on := 2, ground := Ground.guard }], guard := some (2, false) }) rfl (fun K hK => ?_) AllReadyH.nil
        go_simp
        go_wp2_with (go_at_call 33; refine (item_Newer (nthI (l.filter pairI) k) px _).mono ?_; rintro e2 V ⟨rfl, hb⟩)
        refine hK.out _ _ (hHeld.trans (hb.mono hHeld.size)) (fun hHeld => ?_)
        clear hK K
        refine wpAnyH_take (i := 8) (oi := { dst := some 21, op := Op.pick (Operand.tmp 15) (Operand.const (Value.bool true)) (Operand.tmp 20), type := 4, pos := "item.go:51", after := #[{ on := 2, ground := Ground.data }, { on := 7, ground := Ground.data }], guard := none }) (v := ?_) rfl (by kernel_rfl) (by kernel_rfl) (by kernel_rfl) (fun _ _ _ h => h) (Or.inl ⟨by kernel_rfl, ?_⟩) hHeld ?_
        rotate_left
        · intro w hSw; go_simp; try with_reducible rfl
        simp only [Act.put, List.setIfInBounds_toArray, List.set_cons_zero, List.set_cons_succ]
        refine wpAnyH_done (by kernel_rfl) ?_ _
        cases en : newerI (nthI (l.filter pairI) k) px with
        | true =>
          go_wp2_with (first | (refine wpList_load_imid (t := 23) (nthI (l.filter pairI) k) b off ?hg ?hw ?hx ?_; (case hg => exact rangeAt_below hr hlt hHeld); (case hw => rfl); (case hx => rfl)) | (refine wpList_store_row rfl 40 (.tmp 2) (.tmp 24) rfl w.heap.size (nthI (l.filter pairI) k).cells rfl rfl 40 px.cells (hz.below hHeld) item_size rfl (It.oneCell _) ?_) | (refine wp_goto ?_))
          all_goals (
            obtain ⟨g1, g2, g3, g4⟩ := HK.out
            refine ⟨rfl, NewJ.mk (k + 1) m ((nthI (l.filter pairI) k), true) true g1 g4 (by rw [hnx.out]; simp [stepN, en]) rfl ((hz.below hHeld).setRow (nthI (l.filter pairI) k)) ?_ (below_setRow (hB.trans (hHeld.mono hB.size)) (Nat.le_refl _) _) ?_, Nat.lt_succ_self m⟩
            · first | exact ((htl.out).heap (by rw [size_setRow]; exact hHeld.size) (fun _ b' off' ee => by injection ee with ee; injection ee with e1 _ _; exact (heap_setRow _ _ _ _ (by omega)).trans (hHeld.block b' (by omega)))) | exact (((SlI.last (W := wr) (A := some ⟨b, off, none⟩) (show (l.filter pairI).length ≤ k + 1 by omega))).heap (by rw [size_setRow]; exact hHeld.size) (fun _ b' off' ee => by injection ee with ee; injection ee with e1 _ _; exact (heap_setRow _ _ _ _ (by omega)).trans (hHeld.block b' (by omega))))
            · intro b' off' ee; injection ee with ee; injection ee with e1 _ _; omega)
        | false =>
          go_wp2_with (refine wp_goto ?_)
          all_goals (
            obtain ⟨g1, g2, g3, g4⟩ := HK.out
            refine ⟨rfl, NewJ.mk (k + 1) m (px, true) true g1 g4 (by rw [hnx.out]; simp [stepN, en]) rfl (hz.below hHeld) ?_ (hB.trans (hHeld.mono hB.size)) ?_, Nat.lt_succ_self m⟩
            · first | exact ((htl.out).heap hHeld.size (fun _ b' off' ee => by injection ee with ee; injection ee with e1 _ _; exact hHeld.block b' (by omega))) | exact (((SlI.last (W := wr) (A := some ⟨b, off, none⟩) (show (l.filter pairI).length ≤ k + 1 by omega))).heap hHeld.size (fun _ b' off' ee => by injection ee with ee; injection ee with e1 _ _; exact hHeld.block b' (by omega)))
            · intro b' off' ee; injection ee with ee; injection ee with e1 _ _; omega)
      | false =>
        go_upto_region 4 with (fail)
        refine wp_region_held_drew (S := (fun w' => Below wr.heap.size wr w')) (by kernel_rfl) (Below.refl _ _).drew (fun hHeld => ?_)
        refine wpAnyH_take (i := 0) (oi := { dst := some 13, op := Op.move (Operand.tmp 3), type := 4, pos := "item.go:51", after := #[], guard := none }) (v := ?_) rfl (by kernel_rfl) (by kernel_rfl) (by kernel_rfl) (fun _ _ _ h => h) (Or.inl ⟨by kernel_rfl, ?_⟩) hHeld ?_
        rotate_left
        · intro w hSw; go_simp; try with_reducible rfl
        simp only [Act.put, List.setIfInBounds_toArray, List.set_cons_zero, List.set_cons_succ]
        refine wpAnyH_take (i := 1) (oi := { dst := some 14, op := Op.unOp UnOp.not 4 (Operand.tmp 13), type := 4, pos := "item.go:51", after := #[{ on := 0, ground := Ground.data }], guard := none }) (v := ?_) rfl (by kernel_rfl) (by kernel_rfl) (by kernel_rfl) (fun _ _ _ h => h) (Or.inl ⟨by kernel_rfl, ?_⟩) hHeld ?_
        rotate_left
        · intro w hSw; go_simp; try with_reducible rfl
        simp only [Act.put, List.setIfInBounds_toArray, List.set_cons_zero, List.set_cons_succ]
        refine wpAnyH_take (i := 2) (oi := { dst := some 15, op := Op.move (Operand.tmp 14), type := 4, pos := "item.go:51", after := #[{ on := 1, ground := Ground.data }], guard := none }) (v := ?_) rfl (by kernel_rfl) (by kernel_rfl) (by kernel_rfl) (fun _ _ _ h => h) (Or.inl ⟨by kernel_rfl, ?_⟩) hHeld ?_
        rotate_left
        · intro w hSw; go_simp; try with_reducible rfl
        simp only [Act.put, List.setIfInBounds_toArray, List.set_cons_zero, List.set_cons_succ]
        refine wpAnyH_take (i := 3) (oi := { dst := some 16, op := Op.move (Operand.tmp 4), type := 44, pos := "item.go:51", after := #[{ on := 2, ground := Ground.guard }], guard := some (2, false) }) (v := undef) rfl (by kernel_rfl) (by kernel_rfl) (by kernel_rfl) (fun _ _ _ h => h) (Or.inr ⟨by kernel_rfl, rfl⟩) hHeld ?_
        simp only [Act.put, List.setIfInBounds_toArray, List.set_cons_zero, List.set_cons_succ]
        refine wpAnyH_take (i := 4) (oi := { dst := some 17, op := Op.indexAddr 44 (Operand.tmp 16) (Operand.const (Value.int IntKind.i64 0)), type := 0, pos := "item.go:51", after := #[{ on := 3, ground := Ground.data }, { on := 2, ground := Ground.guard }], guard := some (2, false) }) (v := undef) rfl (by kernel_rfl) (by kernel_rfl) (by kernel_rfl) (fun _ _ _ h => h) (Or.inr ⟨by kernel_rfl, rfl⟩) hHeld ?_
        simp only [Act.put, List.setIfInBounds_toArray, List.set_cons_zero, List.set_cons_succ]
        refine wpAnyH_take (i := 5) (oi := { dst := some 18, op := Op.load 40 (Operand.tmp 17), type := 40, pos := "item.go:51", after := #[{ on := 4, ground := Ground.data }, { on := 2, ground := Ground.guard }], guard := some (2, false) }) (v := undef) rfl (by kernel_rfl) (by kernel_rfl) (by kernel_rfl) (fun _ _ _ h => h) (Or.inr ⟨by kernel_rfl, rfl⟩) hHeld ?_
        simp only [Act.put, List.setIfInBounds_toArray, List.set_cons_zero, List.set_cons_succ]
        refine wpAnyH_take (i := 6) (oi := { dst := some 19, op := Op.load 40 (Operand.tmp 2), type := 40, pos := "item.go:51", after := #[{ on := 2, ground := Ground.guard }], guard := some (2, false) }) (v := undef) rfl (by kernel_rfl) (by kernel_rfl) (by kernel_rfl) (fun _ _ _ h => h) (Or.inr ⟨by kernel_rfl, rfl⟩) hHeld ?_
        simp only [Act.put, List.setIfInBounds_toArray, List.set_cons_zero, List.set_cons_succ]
        refine wpAnyH_take (i := 7) (oi := { dst := some 20, op := Op.call { callee := Callee.value (Operand.func 33), args := #[Operand.tmp 18, Operand.tmp 19], argTypes := #[40, 40] }, type := 4, pos := "item.go:51", after := #[{ on := 5, ground := Ground.data }, { on := 6, ground := Ground.data }, { on := 2, ground := Ground.chain }, { on := 2, ground := Ground.guard }], guard := some (2, false) }) (v := undef) rfl (by kernel_rfl) (by kernel_rfl) (by kernel_rfl) (fun _ _ _ h => h) (Or.inr ⟨by kernel_rfl, rfl⟩) hHeld ?_
        simp only [Act.put, List.setIfInBounds_toArray, List.set_cons_zero, List.set_cons_succ]
        refine wpAnyH_take (i := 8) (oi := { dst := some 21, op := Op.pick (Operand.tmp 15) (Operand.const (Value.bool true)) (Operand.tmp 20), type := 4, pos := "item.go:51", after := #[{ on := 2, ground := Ground.data }, { on := 7, ground := Ground.data }], guard := none }) (v := ?_) rfl (by kernel_rfl) (by kernel_rfl) (by kernel_rfl) (fun _ _ _ h => h) (Or.inl ⟨by kernel_rfl, ?_⟩) hHeld ?_
        rotate_left
        · intro w hSw; go_simp; try with_reducible rfl
        simp only [Act.put, List.setIfInBounds_toArray, List.set_cons_zero, List.set_cons_succ]
        refine wpAnyH_done (by kernel_rfl) ?_ _
        go_wp2_with (first | (refine wpList_load_imid (t := 23) (nthI (l.filter pairI) k) b off ?hg ?hw ?hx ?_; (case hg => exact rangeAt_below hr hlt hHeld); (case hw => rfl); (case hx => rfl)) | (refine wpList_store_row rfl 40 (.tmp 2) (.tmp 24) rfl w.heap.size (nthI (l.filter pairI) k).cells rfl rfl 40 px.cells (hz.below hHeld) item_size rfl (It.oneCell _) ?_) | (refine wp_goto ?_))
        all_goals (
          obtain ⟨g1, g2, g3, g4⟩ := HK.out
          refine ⟨rfl, NewJ.mk (k + 1) m ((nthI (l.filter pairI) k), true) true g1 g4 (by rw [hnx.out]; simp [stepN]) rfl ((hz.below hHeld).setRow (nthI (l.filter pairI) k)) ?_ (below_setRow (hB.trans (hHeld.mono hB.size)) (Nat.le_refl _) _) ?_, Nat.lt_succ_self m⟩
          · first | exact ((htl.out).heap (by rw [size_setRow]; exact hHeld.size) (fun _ b' off' ee => by injection ee with ee; injection ee with e1 _ _; exact (heap_setRow _ _ _ _ (by omega)).trans (hHeld.block b' (by omega)))) | exact (((SlI.last (W := wr) (A := some ⟨b, off, none⟩) (show (l.filter pairI).length ≤ k + 1 by omega))).heap (by rw [size_setRow]; exact hHeld.size) (fun _ b' off' ee => by injection ee with ee; injection ee with e1 _ _; exact (heap_setRow _ _ _ _ (by omega)).trans (hHeld.block b' (by omega))))
          · intro b' off' ee; injection ee with ee; injection ee with e1 _ _; omega)
    · obtain rfl : k = (l.filter pairI).length := by omega
      rw [List.take_length, Nat.sub_self]
      rw [List.take_length] at hz
      go_wp2_with (first | (refine wpList_load_item (t := 2) (newestP l).1 w.heap.size ?hg ?hw ?hx ?_; (case hg => exact hz); (case hw => rfl); (case hx => rfl)) | (refine wpList_store_row rfl 40 (.tmp 2) (.tmp 11) rfl w.heap.size (newestP l).1.cells rfl rfl 40 (newestP l).1.cells hz item_size rfl (It.oneCell _) ?_))
      dsimp only [Exit.jump]
      refine bodyPost_ret (results_cell_tmp rfl _ _ w.heap.size 40 (newestP l).1.cells (0, 0) _ rfl (hz.setRow _) Try.underlying40 rfl item_size) rfl ?_
      exact ⟨rfl, below_setRow hB (Nat.le_refl _) _⟩
end Go.Proofs.Ytbjgfcempfpfcaa
