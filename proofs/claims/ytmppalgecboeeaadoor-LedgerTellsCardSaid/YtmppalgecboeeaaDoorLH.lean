/- Ledger: a mass is written over -/
import Derived.Test.YtmppalgecboeeaaDoorLG
namespace Go.Proofs.YtmppalgecboeeaaDoor
open Go.ChangeShapes Go.WideShapes Go.ChangeAt Go.RowKit
set_option linter.unusedSimpArgs false
set_option linter.unusedVariables false
/-- What is written over: blocks of S, none of them of type E; all keep their types and sizes. -/
def SpR (S : Nat → Prop) (E : TypeId) (w w' : World) : Prop := Below 0 w w' ∧ (∀ g, g < w.heap.size → ¬ S g → w'.heap[g]? = w.heap[g]?) ∧ (∀ g cur, Blk w g E cur → Blk w' g E cur) ∧ (∀ g T cur, Blk w g T cur → ∃ cur', Blk w' g T cur' ∧ cur'.size = cur.size)
section
variable {S : Nat → Prop} {E : TypeId} {w w' w'' : World}
theorem SpR.refl (S : Nat → Prop) (E : TypeId) (w : World) : SpR S E w w := ⟨Below.refl _ _, fun _ _ _ => rfl, fun _ _ h => h, fun _ _ cur h => ⟨cur, h, rfl⟩⟩
theorem SpR.trans (h : SpR S E w w') (k : SpR S E w' w'') : SpR S E w w'' := ⟨h.1.trans k.1, fun g hg hs => (k.2.1 g (Nat.lt_of_lt_of_le hg h.1.size) hs).trans (h.2.1 g hg hs), fun g cur hb => k.2.2.1 g cur (h.2.2.1 g cur hb), fun g T cur hb => by
  obtain ⟨c1, h1, e1⟩ := h.2.2.2 g T cur hb
  obtain ⟨c2, h2, e2⟩ := k.2.2.2 g T c1 h1
  exact ⟨c2, h2, e2.trans e1⟩⟩
theorem SpR.alloc (h : SpR S E w w') (o : Obj) : SpR S E w (w'.alloc o) := h.trans ⟨(Below.refl 0 w').alloc (Nat.zero_le _) o, fun g hg _ => Below.heap_alloc w' o g hg, fun g cur hb => hb.alloc o, fun g T cur hb => ⟨cur, hb.alloc o, rfl⟩⟩
theorem SpR.drew (h : SpR S E w w') : SpR S E w w'.drew := ⟨h.1.drew, h.2.1, h.2.2.1, h.2.2.2⟩
theorem SpR.set_ (h : SpR S E w w') {g : Nat} {T : TypeId} {cur : Array Value} (hb : Blk w' g T cur) (hg : S g) (hT : T ≠ E) (j : Nat) (u : Value) : SpR S E w (w'.setCell ⟨g, j, none⟩ u) :=
  h.trans ⟨(Below.refl 0 w').setCell (Nat.zero_le _) u, fun g' _ hs => Below.heap_setCell w' ⟨g, j, none⟩ u g' (fun e => hs (by rw [e]; exact hg)), fun g' c' hb' => hb'.far (p := ⟨g, j, none⟩) (hb'.ne_ hb (Ne.symm hT)) u, fun g' T' c' hb' => by
    by_cases e : g' = g
    · subst e
      exact ⟨_, hb'.set_ j u, by simp⟩
    · exact ⟨c', hb'.far (p := ⟨g, j, none⟩) e u, rfl⟩⟩
theorem SpR.below (h : SpR S E w w') {B : Nat} (hB : B ≤ w.heap.size) (hS : ∀ g, S g → B ≤ g) : Below B w w' := ⟨h.1.os, h.1.tape, h.1.output, h.1.size, fun b hb => h.2.1 b (by omega) (fun hs => by have := hS b hs; omega)⟩
theorem WrR.spR {S' : Nat → Prop} {X : Option Addr} {m : Nat} (h : WrR w S E X m) (hs : SpR S' E w w') : WrR w' S E X m := fun h0 => by
  obtain ⟨g, T, cur, e, hg, hb, hm, hT⟩ := h h0
  obtain ⟨c', hb', e'⟩ := hs.2.2.2 g T cur hb
  exact ⟨g, T, c', e, hg, hb', by rw [e']; exact hm, hT⟩
theorem Wr.spR {S' : Nat → Prop} {m n : Nat} {A : Option Addr} {l : List (List Fd)} (h : Wr w S E m A n l) (hs : SpR S' E w w') : Wr w' S E m A n l :=
  ⟨h.1, fun h0 => by
    obtain ⟨g, cur, e, hg, hb, hc⟩ := h.2 h0
    refine ⟨g, cur, e, hg, hs.2.2.1 g cur hb, fun i r hr j f hf => ?_⟩
    obtain ⟨v, hv, hw⟩ := hc i r hr j f hf
    refine ⟨v, hv, ?_⟩
    cases f with
    | val x => trivial
    | row k xs =>
      obtain ⟨X, m, d, e1, h1, h2⟩ := hw
      exact ⟨X, m, d, e1, h1, h2.spR hs⟩⟩
end
set_option maxRecDepth 100000 in
set_option maxHeartbeats 8000000 in
theorem mspoil_any (S : Nat → Prop) (u0 u2 u3 u5 u6 u8 u9 u11 : Value) (X0 : Option Addr) (n0 c0 : Nat) (X1 : Option Addr) (n1 c1 : Nat) (X2 : Option Addr) (n2 c2 : Nat) (X3 : Option Addr) (n3 c3 : Nat) (w : World) (hS : ∀ g, S g → g < w.heap.size) (hm0 : n0 ≤ 100000) (h0 : WrR w S 53 X0 n0) (hm1 : n1 ≤ 100000) (h1 : WrR w S 53 X1 n1) (hm2 : n2 ≤ 100000) (h2 : WrR w S 53 X2 n2) (hm3 : n3 ≤ 100000) (h3 : WrR w S 53 X3 n3) :
    Calls Tryd.prog 23 #[.agg #[u0, .slice X0 n0 c0, u2, u3, .slice X1 n1 c1, u5, u6, .slice X2 n2 c2, u8, u9, .slice X3 n3 c3, u11]] w fun en w' => en = .returned (.tuple #[]) ∧ SpR S 53 w w' := by
  obtain ⟨V, hV⟩ : ∃ V, V = (w.alloc (.cells #[u0, .slice X0 n0 c0, u2, u3, .slice X1 n1 c1, u5, u6, .slice X2 n2 c2, u8, u9, .slice X3 n3 c3, u11] 27)).alloc (.cells #[.slice X0 n0 c0, .slice X1 n1 c1, .slice X2 n2 c2, .slice X3 n3 c3] 23) := ⟨_, rfl⟩
  have hB : SpR S 53 w V := by rw [hV]; exact ((SpR.refl S 53 w).alloc _).alloc _
  have kl : Blk V (w.heap.size + 1) 23 #[.slice X0 n0 c0, .slice X1 n1 c1, .slice X2 n2 c2, .slice X3 n3 c3] := by
    have := Blk.new (w.alloc (.cells #[u0, .slice X0 n0 c0, u2, u3, .slice X1 n1 c1, u5, u6, .slice X2 n2 c2, u8, u9, .slice X3 n3 c3, u11] 27)) 23 #[.slice X0 n0 c0, .slice X1 n1 c1, .slice X2 n2 c2, .slice X3 n3 c3]
    rw [World.size_alloc] at this
    rw [hV]; exact this
  go_enter Tryd.func23, Tryd.ntmps23
  go_wp2
  rw [← hV]
  clear hV
  go_loopw [3] (fun i wr => ∃ k : Nat, k ≤ 4 ∧ i = .int .i64 (k : Int) ∧ SpR S 53 w wr ∧ Blk wr (w.heap.size + 1) 23 #[.slice X0 n0 c0, .slice X1 n1 c1, .slice X2 n2 c2, .slice X3 n3 c3]) (fun i _ => 4 - (intOf i).toNat)
  case atStart => exact ⟨0, by omega, rfl, hB, kl⟩
  case round =>
    clear hB kl
    obtain ⟨k, hk, rfl, hB, kl⟩ := hrel
    have hk5 : k = 0 ∨ k = 1 ∨ k = 2 ∨ k = 3 ∨ k = 4 := by omega
    rcases hk5 with rfl | rfl | rfl | rfl | rfl
    · go_wp2
      go_loopw [4] (fun i wr => ∃ j : Nat, j ≤ n0 ∧ i = .int .i64 (j : Int) ∧ SpR S 53 w wr ∧ Blk wr (w.heap.size + 1) 23 #[.slice X0 n0 c0, .slice X1 n1 c1, .slice X2 n2 c2, .slice X3 n3 c3]) (fun i _ => n0 - (intOf i).toNat)
      case atStart => exact ⟨0, Nat.zero_le _, rfl, hB, kl⟩
      case round =>
        clear hB kl
        obtain ⟨j, hj, rfl, hB, kl⟩ := hrel
        have x0 := kl.cell 0
        simp only [List.getElem?_toArray, List.getElem?_cons_zero, List.getElem?_cons_succ] at x0
        by_cases hlt : j < n0
        · obtain ⟨g, T, cur, e, hg, hb, hm, hT⟩ := (h0.spR hB) (by omega)
          subst e
          have y0 := hb.cell j
          have yf := hb.frozen j
          have yl := hb.lt
          obtain ⟨v, hv⟩ : ∃ v, cur[j]? = some v := ⟨_, Array.getElem?_eq_getElem (by omega)⟩
          rw [hv] at y0
          have hB2 := hB.set_ hb hg hT j (.int .u32 7)
          have kl2 := kl.far (p := ⟨g, j, none⟩) (by have := hS g hg; simp; omega) (.int .u32 7)
          have i1 : (0 : Int) ≤ j := by omega
          have i2 : (j : Int) < n0 := by omega
          have hgw := hS g hg
          clear hv hm hT hb hB kl hS h0 h1 h2 h3
          go_wp2
          go_roundw
          case rel => exact ⟨j + 1, by omega, by go_num, hB2, kl2⟩
          case measure => simp [intOf]; omega
        · obtain rfl : j = n0 := by omega
          go_wp2
          go_roundw
          case rel => exact ⟨1, by omega, by go_num, hB, kl⟩
          case measure => simp [intOf]
    · go_wp2
      go_loopw [4] (fun i wr => ∃ j : Nat, j ≤ n1 ∧ i = .int .i64 (j : Int) ∧ SpR S 53 w wr ∧ Blk wr (w.heap.size + 1) 23 #[.slice X0 n0 c0, .slice X1 n1 c1, .slice X2 n2 c2, .slice X3 n3 c3]) (fun i _ => n1 - (intOf i).toNat)
      case atStart => exact ⟨0, Nat.zero_le _, rfl, hB, kl⟩
      case round =>
        clear hB kl
        obtain ⟨j, hj, rfl, hB, kl⟩ := hrel
        have x0 := kl.cell 1
        simp only [List.getElem?_toArray, List.getElem?_cons_zero, List.getElem?_cons_succ] at x0
        by_cases hlt : j < n1
        · obtain ⟨g, T, cur, e, hg, hb, hm, hT⟩ := (h1.spR hB) (by omega)
          subst e
          have y0 := hb.cell j
          have yf := hb.frozen j
          have yl := hb.lt
          obtain ⟨v, hv⟩ : ∃ v, cur[j]? = some v := ⟨_, Array.getElem?_eq_getElem (by omega)⟩
          rw [hv] at y0
          have hB2 := hB.set_ hb hg hT j (.int .u32 7)
          have kl2 := kl.far (p := ⟨g, j, none⟩) (by have := hS g hg; simp; omega) (.int .u32 7)
          have i1 : (0 : Int) ≤ j := by omega
          have i2 : (j : Int) < n1 := by omega
          have hgw := hS g hg
          clear hv hm hT hb hB kl hS h0 h1 h2 h3
          go_wp2
          go_roundw
          case rel => exact ⟨j + 1, by omega, by go_num, hB2, kl2⟩
          case measure => simp [intOf]; omega
        · obtain rfl : j = n1 := by omega
          go_wp2
          go_roundw
          case rel => exact ⟨2, by omega, by go_num, hB, kl⟩
          case measure => simp [intOf]
    · go_wp2
      go_loopw [4] (fun i wr => ∃ j : Nat, j ≤ n2 ∧ i = .int .i64 (j : Int) ∧ SpR S 53 w wr ∧ Blk wr (w.heap.size + 1) 23 #[.slice X0 n0 c0, .slice X1 n1 c1, .slice X2 n2 c2, .slice X3 n3 c3]) (fun i _ => n2 - (intOf i).toNat)
      case atStart => exact ⟨0, Nat.zero_le _, rfl, hB, kl⟩
      case round =>
        clear hB kl
        obtain ⟨j, hj, rfl, hB, kl⟩ := hrel
        have x0 := kl.cell 2
        simp only [List.getElem?_toArray, List.getElem?_cons_zero, List.getElem?_cons_succ] at x0
        by_cases hlt : j < n2
        · obtain ⟨g, T, cur, e, hg, hb, hm, hT⟩ := (h2.spR hB) (by omega)
          subst e
          have y0 := hb.cell j
          have yf := hb.frozen j
          have yl := hb.lt
          obtain ⟨v, hv⟩ : ∃ v, cur[j]? = some v := ⟨_, Array.getElem?_eq_getElem (by omega)⟩
          rw [hv] at y0
          have hB2 := hB.set_ hb hg hT j (.int .u32 7)
          have kl2 := kl.far (p := ⟨g, j, none⟩) (by have := hS g hg; simp; omega) (.int .u32 7)
          have i1 : (0 : Int) ≤ j := by omega
          have i2 : (j : Int) < n2 := by omega
          have hgw := hS g hg
          clear hv hm hT hb hB kl hS h0 h1 h2 h3
          go_wp2
          go_roundw
          case rel => exact ⟨j + 1, by omega, by go_num, hB2, kl2⟩
          case measure => simp [intOf]; omega
        · obtain rfl : j = n2 := by omega
          go_wp2
          go_roundw
          case rel => exact ⟨3, by omega, by go_num, hB, kl⟩
          case measure => simp [intOf]
    · go_wp2
      go_loopw [4] (fun i wr => ∃ j : Nat, j ≤ n3 ∧ i = .int .i64 (j : Int) ∧ SpR S 53 w wr ∧ Blk wr (w.heap.size + 1) 23 #[.slice X0 n0 c0, .slice X1 n1 c1, .slice X2 n2 c2, .slice X3 n3 c3]) (fun i _ => n3 - (intOf i).toNat)
      case atStart => exact ⟨0, Nat.zero_le _, rfl, hB, kl⟩
      case round =>
        clear hB kl
        obtain ⟨j, hj, rfl, hB, kl⟩ := hrel
        have x0 := kl.cell 3
        simp only [List.getElem?_toArray, List.getElem?_cons_zero, List.getElem?_cons_succ] at x0
        by_cases hlt : j < n3
        · obtain ⟨g, T, cur, e, hg, hb, hm, hT⟩ := (h3.spR hB) (by omega)
          subst e
          have y0 := hb.cell j
          have yf := hb.frozen j
          have yl := hb.lt
          obtain ⟨v, hv⟩ : ∃ v, cur[j]? = some v := ⟨_, Array.getElem?_eq_getElem (by omega)⟩
          rw [hv] at y0
          have hB2 := hB.set_ hb hg hT j (.int .u32 7)
          have kl2 := kl.far (p := ⟨g, j, none⟩) (by have := hS g hg; simp; omega) (.int .u32 7)
          have i1 : (0 : Int) ≤ j := by omega
          have i2 : (j : Int) < n3 := by omega
          have hgw := hS g hg
          clear hv hm hT hb hB kl hS h0 h1 h2 h3
          go_wp2
          go_roundw
          case rel => exact ⟨j + 1, by omega, by go_num, hB2, kl2⟩
          case measure => simp [intOf]; omega
        · obtain rfl : j = n3 := by omega
          go_wp2
          go_roundw
          case rel => exact ⟨4, by omega, by go_num, hB, kl⟩
          case measure => simp [intOf]
    · go_wp2
      go_end0
      exact ⟨rfl, hB⟩
end Go.Proofs.YtmppalgecboeeaaDoor
