/- Contract: item.Keys. -/
import Derived.Test.YtbjgfcempfpfcaaDI
import Derived.Test.YtbjgfcempfpfcaaSS
import Derived.Sort.OwnSorted
import Derived.Lib.OwnBridge
import Derived.Maps.AppendAt
namespace Go.Proofs.Ytbjgfcempfpfcaa
open Go.RowKit Go.Shelf Go.Sort

def keyL (x : It) : List UInt8 := x.key.data.toList
theorem enc_key (x : It) : encStr (keyL x) = .string x.key := by
  unfold keyL; obtain ⟨⟨k⟩, _, _, _⟩ := x; rfl
def keysL (l : List It) : List (List UInt8) := Lib.compact ((l.map keyL).mergeSort fun x y => decide (x ≤ y))
theorem Try.info_string : (Try.prog.info? 9).map (fun i => (i.zero, i.size, i.bytes)) = some (some (.string ⟨#[]⟩), 1, 16) := by kernel_rfl
theorem string_info : ∃ i, Try.prog.info? 9 = some i ∧ i.zero = some (.string ⟨#[]⟩) ∧ i.size = 1 ∧ i.bytes = 16 := by
  have h := Try.info_string
  cases hi : Try.prog.info? 9 with
  | none => rw [hi] at h; cases h
  | some i =>
    rw [hi] at h
    simp only [Option.map_some, Option.some.injEq, Prod.mk.injEq] at h
    exact ⟨i, rfl, h.1, h.2.1, h.2.2⟩
def ivS (l : List It) : List Value := (l.map keyL).map encStr
theorem ivS_append (l m : List It) : ivS (l ++ m) = ivS l ++ ivS m := by simp [ivS]
theorem ivS_next {l : List It} {k : Nat} (h : k < l.length) : ivS (l.take (k + 1)) = ivS (l.take k) ++ [.string (nthI l k).key] := by
  rw [List.take_succ_eq_append_getElem h, ivS_append, nthI_eq h]
  simp [ivS, enc_key]
theorem news_one (W : World) (o : Obj) (k : ByteArray) (t : TypeId) : ∀ j u, [Value.string k][j]? = some u → ((W.alloc o).alloc (.cells #[.string k] t)).cell? ((⟨W.heap.size + 1, 0, none⟩ : Addr).add j) = some u := by
  intro j u hu
  have hj : j < 1 := (List.getElem?_eq_some_iff.1 hu).1
  obtain rfl : j = 0 := by omega
  simp only [List.getElem?_cons_zero, Option.some.injEq] at hu
  subst hu
  rw [addr_add]
  have := Boxed.new (W.alloc o) t (.string k)
  simp only [World.size_alloc] at this
  exact this.cell
theorem wpList_load_lmid {ops : Array Oper} {rest : List Oper} {a : Act} {w : World} {Q : Exit → Act → World → Prop} {dst : Option Tmp} {ty : TypeId} {pos : String} {af : Array Edge} {t : Nat} {gd : Option (Nat × Bool)} (x : It) (b o : Nat)
    (hg : w.rangeAt b o x.cells.toList) (hw : Region.wanted { dst := dst, op := .load 40 (.tmp t), type := ty, pos := pos, after := af, guard := gd } (yielded ops a.tmps) = true) (hx : a.eval (.tmp t) = .pointer (some ⟨b, o, none⟩)) (h : wpList Try.prog ops Q rest (a.put dst (.agg #[.string x.key, .int .i64 x.value, .int .i64 x.version, .bool x.gone])) w) :
    wpList Try.prog ops Q ({ dst := dst, op := .load 40 (.tmp t), type := ty, pos := pos, after := af, guard := gd } :: rest) a w := wpList_load_imid x b o hg hw hx h
theorem own_slice1 {w : World} {base : Nat} {e : TypeId} {v : Value} {n : Nat} {xs : List Value} (h : w.ownsRow base e 1 v n xs) : ∃ A c, v = .slice A n c := by
  obtain ⟨-, ⟨rfl, h0⟩ | ⟨g, cap, cur, rfl, -⟩⟩ := h
  · exact ⟨none, 0, by rw [h0]⟩
  · exact ⟨_, _, rfl⟩
def RetK (w0 : World) (ks : List (List UInt8)) (e : Ending) (w' : World) : Prop := ∃ A c, e = .returned (.slice A ks.length c) ∧ w'.ownsRow w0.heap.size 9 1 (.slice A ks.length c) ks.length (ks.map encStr) ∧ Below w0.heap.size w0 w'
theorem keys_left {w w1 : World} {g cap n nn q : Nat} {os : Array Obj} {ss : List (List UInt8)} (hown : w1.ownsRow w.heap.size 9 1 (.slice (some ⟨g, 0, none⟩) n cap) n (ss.map encStr)) (hbel : Below w.heap.size w w1) (hlen : ss.length = n) :
    RetK w (Lib.compact (ss.mergeSort fun x y => decide (x ≤ y))) (.returned (.slice (some ⟨g, 0, none⟩) (Lib.compact (ss.mergeSort fun x y => decide (x ≤ y))).length cap))
      (putRow encStr (Sort.ahead (grow (putRow encStr (Sort.ahead w1 nn) g 0 (ss.mergeSort fun x y => decide (x ≤ y)).toArray) os) q) g 0 (Lib.compact (ss.mergeSort fun x y => decide (x ≤ y)) ++ List.replicate (n - (Lib.compact (ss.mergeSort fun x y => decide (x ≤ y))).length) []).toArray) := by
  have hl2 : (ss.mergeSort fun x y => decide (x ≤ y)).length = ss.length := List.length_mergeSort ss
  have hle := Lib.compact_length_le (ss.mergeSort fun x y => decide (x ≤ y))
  subst hlen
  rcases hown.2 with ⟨h0, _⟩ | ⟨g', cap', cur, hv, hbase, hb, h1, h2, h3, h4⟩
  · cases h0
  cases hv
  have hs := ownsRow_sorted (n := nn) (os := os) (ts := ss.mergeSort fun x y => decide (x ≤ y)) hl2 hbase hb h1 h2 h3
  have hc := Lib.ownsRow_putRow (q := q) (k := (Lib.compact (ss.mergeSort fun x y => decide (x ≤ y))).length) (ys := Lib.compact (ss.mergeSort fun x y => decide (x ≤ y)) ++ List.replicate (ss.length - (Lib.compact (ss.mergeSort fun x y => decide (x ≤ y))).length) []) hs (by simp; omega) (by omega)
  rw [List.take_left] at hc
  exact ⟨_, cap, rfl, hc, Lib.below_putRow (hbel.grown (grownBy_sorted _) hbel.size (fun j hj => by cases hj; exact hbase)) hbase⟩
theorem keysL_nil : keysL [] = [] := by
  unfold keysL
  simp [Lib.compact, Lib.compactUpTo]

set_option maxRecDepth 100000 in
set_option maxHeartbeats 2000000 in
theorem item_Keys (A : Option Addr) (c : Nat) (l : List It) (w : World) (hs : SlI w A c l) (hsm : l.length ≤ 1099511627776) :
    Calls Try.prog 72 #[.slice A l.length c] w (RetK w (keysL l)) := by
  obtain ⟨i0, hi, hz0, hz1, hz2⟩ := string_info
  go_enter Try.func72, Try.ntmps72
  go_wp2
  go_loopw [2, 4, 7] (fun t2 t4 t7 wr => ∃ k : Nat, k ≤ l.length ∧ t7 = .int .i64 k ∧ (∃ Ab cb, t2 = .slice Ab k cb ∧ Hid (wr.ownsRow w.heap.size 9 1 (.slice Ab k cb) k (ivS (l.take k)))) ∧ Hid (Below w.heap.size w wr)) (fun _ _ t7 _ => l.length - (intOf t7).toNat)
  case atStart => exact ⟨0, Nat.zero_le _, rfl, ⟨none, 0, rfl, Lib.hid (by simpa [ivS] using World.ownsRow_nil w w.heap.size 9 1)⟩, Lib.hid (Below.refl _ _)⟩
  case round =>
    obtain ⟨k, hk, rfl, ⟨Ab, cb, rfl, hown⟩, hB⟩ := hrel
    by_cases hlt2 : k < l.length
    · obtain ⟨b, off, rfl, hblt, hcell⟩ := hs.at_ (by omega)
      have hrng : wr.rangeAt b (off + k * 4) (nthI l k).cells.toList := rangeAt_below (hcell k hlt2) hblt hB.out
      have hnx := Lib.hid (ivS_next hlt2)
      clear hcell
      go_wp2_with (first | (refine wpList_load_lmid (t := 9) (nthI l k) b (off + k * 4) ?hg ?hw ?hx ?_; (case hg => exact hrng); (case hw => rfl); (case hx => rfl)) | (at_builtin; refine wpList_append_own_at _ rfl (.tmp 11) (.tmp 14) _ rfl w.heap.size 9 i0 _ 1 16 Try.underlying71 hi hz0 hz1 hz2 rfl (by omega) (.slice Ab k cb) k (ivS (l.take k)) rfl ((hown.out.alloc _).alloc _) ⟨wr.heap.size + 1, 0, none⟩ 1 1 [.string (nthI l k).key] rfl rfl ?hn ?h0 ?h1 ?h2 ?h3 ?_; (case hn => exact news_one wr _ _ _); (case h0 => intro u hu; simp only [List.mem_singleton] at hu; rw [hu]; rfl); (case h1 => simp only [maxLen]; omega); (case h2 => omega); (case h3 => have := hB.out.size; simp; omega); intro v1 w1 hown1 hg1 hnil1 hat1; obtain ⟨A1, k1, rfl⟩ := own_slice1 hown1))
      exact ⟨⟨k + 1, by omega, by go_num, ⟨A1, k1, rfl, Lib.hid (by rw [hnx.out]; exact hown1)⟩, Lib.hid (((hB.out.alloc hB.out.size _).alloc (by have := hB.out.size; simp; omega) _).grown hg1 (by have := hB.out.size; simp; omega) (fun j hj => (hown.out.lt j hj).1))⟩, by simp [intOf]; omega⟩
    · obtain rfl : k = l.length := by omega
      have hown := hown.out
      rw [List.take_length] at hown
      rcases hown.2 with ⟨h0, hn0⟩ | ⟨g, cap, cur, hv, hbase, hb, h1, h2, h3, h4⟩
      · injection h0 with e1 e2 e3
        obtain rfl := List.eq_nil_of_length_eq_zero hn0
        subst e1 e3
        clear hown
        simp only [List.length_nil]
        go_wp2_with (first | (go_at_call 103; refine (Try.slices_Sort_string_none none 0 _).mono ?_; rintro e w1 ⟨rfl, rfl⟩) | (go_at_call 104; refine (Try.slices_Compact_string_empty none 0 _).mono ?_; rintro e w1 ⟨rfl, rfl⟩))
        go_ret
        rw [keysL_nil]
        exact ⟨none, 0, rfl, World.ownsRow_nil _ _ _ _, hB.out⟩
      · injection hv with e1 e2 e3
        subst e1 e3
        obtain ⟨ss, hss⟩ : ∃ ss, ss = l.map keyL := ⟨_, rfl⟩
        have hlen : ss.length = l.length := by rw [hss, List.length_map]
        have hk2 : keysL l = Lib.compact (ss.mergeSort fun x y => decide (x ≤ y)) := by rw [hss]; rfl
        have hown2 : wr.ownsRow w.heap.size 9 1 (.slice (some ⟨g, 0, none⟩) l.length cb) l.length (ss.map encStr) := by rw [hss]; exact hown
        have hH : Holds encStr wr g 0 ss.toArray := holds_of_block hb (by rw [hlen]; rw [hss]; rw [Nat.mul_one] at h4; exact h4)
        have hgl : g < wr.heap.size := (Array.getElem?_eq_some_iff.1 hb).1
        have hsort := Try.slices_Sort_string g 0 cb ss wr hH hgl (by omega)
        rw [hlen] at hsort
        have X := Lib.hid (And.intro hown2 (And.intro hB.out (And.intro hlen (And.intro hH hgl))))
        have HK2 := Lib.hid hk2
        clear hown hss hown2 hH hlen hk2 hb h3 h4 hB
        go_wp2_with (first
          | (go_at_call 103; refine hsort.mono ?_; rintro e w2 ⟨rfl, nn, os, rfl⟩
             have hl2 : (ss.mergeSort fun x y => decide (x ≤ y)).length = l.length := by rw [List.length_mergeSort]; exact X.out.2.2.1
             have hH2 : Holds encStr (grow (putRow encStr (Sort.ahead wr nn) g 0 (ss.mergeSort fun x y => decide (x ≤ y)).toArray) os) g 0 (ss.mergeSort fun x y => decide (x ≤ y)).toArray :=
               holds_grow encStr _ os g 0 _ (by simpa [putRow, mapBlock, Sort.ahead] using X.out.2.2.2.2) (holds_putRow encStr _ g 0 _ _ (holds_ahead encStr wr nn g 0 _ X.out.2.2.2.1) (by simp))
             have hcomp := Try.slices_Compact_string g 0 cb (ss.mergeSort fun x y => decide (x ≤ y)) _ hH2 (by omega) (by omega)
             rw [hl2] at hcomp
             clear hH2 hsort)
          | (go_at_call 104; refine hcomp.mono ?_; rintro e w3 ⟨rfl, q, rfl⟩))
        go_ret
        rw [HK2.out]
        exact keys_left X.out.1 X.out.2.1 X.out.2.2.1
end Go.Proofs.Ytbjgfcempfpfcaa
