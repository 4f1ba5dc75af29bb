/- Timer: timers brought in order: the program's -/
import Derived.Test.YthageikchniahaaTG
import Derived.Test.YthageikchniahaaTH
import Derived.Test.YthageikchniahaaKit9
import Derived.Laws.StructEq
import Derived.Lib.Hide
namespace Go.Proofs.Ythageikchniahaa
open Go.ChangeShapes Go.WideShapes Go.ChangeAt Go.RowKit
set_option linter.unusedSimpArgs false
set_option linter.unusedVariables false

theorem guardT (op : BinOp) (x y : Operand) (xs ys : Array Value) (w : World) : (eqGuard op 35 x y (.agg xs) (.agg ys)).run Try.prog w = .ok () w := run_eqGuard_agg w op 35 x y xs ys (by kernel_rfl)
theorem eqIn_T (a b c d : Int) (w : World) : (Op.equalIn 10000 35 (.agg #[.int .i64 a, .int .i64 b]) (.agg #[.int .i64 c, .int .i64 d])).run Try.prog w = .ok (decide ((a, b) = (c, d))) w := by
  have u3 := Try.underlying3
  have a3 := Try.isAgg3
  have z3 := Try.sizeOf3
  have hS : Try.prog.underlying 35 = some (.struct (Try.prog.fieldsOf 35)) := by kernel_rfl
  have hp : Try.prog.stoodInHeld 35 = false := by kernel_rfl
  rw [show (10000 : Nat) = 9999 + 1 from rfl, run_equalIn_agg w 9999 35 _ _ hS hp]
  simp only [Program.fieldsOf, Try.underlying35]
  go_simp
  by_cases h1 : a = c <;> by_cases h2 : b = d <;> simp [h1, h2]
theorem neqT (a b c d : Int) (w : World) : (binOp .neq 35 (.agg #[.int .i64 a, .int .i64 b]) (.agg #[.int .i64 c, .int .i64 d])).run Try.prog w = .ok (.bool (!decide ((a, b) = (c, d)))) w := by
  rw [run_neq_struct, eqIn_T]
  rfl
theorem eqlT (a b c d : Int) (w : World) : (binOp .eql 35 (.agg #[.int .i64 a, .int .i64 b]) (.agg #[.int .i64 c, .int .i64 d])).run Try.prog w = .ok (.bool (decide ((a, b) = (c, d)))) w := by
  rw [run_eql_struct, eqIn_T]
  rfl
/-- A row of the call's own of timers, apart from the heap's two blocks and from one more. -/
def Row (w wr : World) (R g B : Nat) (v : Value) (out : List Tm) : Prop := wr.ownsRow w.heap.size 35 2 v out.length (T2 out) ∧ v.ownBlock ≠ some R ∧ v.ownBlock ≠ some g ∧ v.ownBlock ≠ some B
/-- A heap under way, and the box that leads to it. -/
def Und (w wr : World) (R g B : Nat) (r : List Tm) : Prop := Heap wr R g r ∧ Blk wr B 55 #[.pointer (some ⟨R, 0, none⟩)] ∧ w.heap.size ≤ R ∧ w.heap.size ≤ g ∧ w.heap.size ≤ B ∧ B ≠ R ∧ B ≠ g ∧ Below w.heap.size w wr ∧ g < wr.heap.size
theorem Und.R_lt {w wr : World} {R g B : Nat} {r : List Tm} (h : Und w wr R g B r) : R < wr.heap.size := by obtain ⟨_, _, _, _, hR, _⟩ := h.1.1.cell; exact hR
theorem Heap.below {w w' : World} {R g : Nat} {l : List Tm} (h : Heap w R g l) (hb : Below w.heap.size w w') : Heap w' R g l := ⟨h.1.below hb, h.2⟩
/-- One is taken. -/
theorem Und.next {w wr w1 : World} {R g B : Nat} {r r' : List Tm} {t : Tm} (h : Und w wr R g B r) (hp : Pops r r' t) (hP : Pl w1 R g r') (hF : Frm R g wr w1) : Und w w1 R g B r' := by
  obtain ⟨_, h2, h3, h4, h5, h6, h7, h8, h9⟩ := h
  exact ⟨⟨hP, hp.2.2⟩, hF.blk h2 h6 h7, h3, h4, h5, h6, h7, h8.trans (hF.below h8.size h3 h4), Nat.lt_of_lt_of_le h9 hF.1.size⟩
theorem Row.frm {w wr w1 : World} {R g B : Nat} {v : Value} {out : List Tm} (h : Row w wr R g B v out) (hF : Frm R g wr w1) : Row w w1 R g B v out :=
  ⟨hF.own h.1 (fun k hk => ⟨fun e => h.2.1 (by rw [hk, e]), fun e => h.2.2.1 (by rw [hk, e])⟩), h.2⟩
theorem Und.below {w wr w1 : World} {R g B : Nat} {r : List Tm} (h : Und w wr R g B r) (hb : Below wr.heap.size wr w1) : Und w w1 R g B r := by
  obtain ⟨h1, h2, h3, h4, h5, h6, h7, h8, h9⟩ := h
  exact ⟨h1.below hb, h2.below hb h2.lt, h3, h4, h5, h6, h7, h8.trans (hb.mono h8.size), Nat.lt_of_lt_of_le h9 hb.size⟩
theorem Row.below {w wr w1 : World} {R g B : Nat} {v : Value} {out : List Tm} (h : Row w wr R g B v out) (hb : Below wr.heap.size wr w1) : Row w w1 R g B v out := ⟨own_below h.1 hb, h.2⟩
/-- The box is laid anew. -/
theorem Und.box {w wr : World} {R g B : Nat} {r : List Tm} (h : Und w wr R g B r) : Und w (wr.alloc (.cells #[.pointer (some ⟨R, 0, none⟩)] 55)) R g wr.heap.size r := by
  have hb := (Below.refl wr.heap.size wr).alloc (Nat.le_refl _) (.cells #[.pointer (some ⟨R, 0, none⟩)] 55)
  have hR := h.R_lt
  obtain ⟨h1, h2, h3, h4, h5, h6, h7, h8, h9⟩ := h.below hb
  have hg := h.2.2.2.2.2.2.2.2
  exact ⟨h1, Blk.new wr _ _, h3, h4, h.2.2.2.2.2.2.2.1.size, by omega, by omega, h8, h9⟩
theorem Row.box {w wr : World} {R g B : Nat} {v : Value} {out : List Tm} (h : Row w wr R g B v out) (o : Obj) : Row w (wr.alloc o) R g wr.heap.size v out :=
  ⟨own_below h.1 ((Below.refl wr.heap.size wr).alloc (Nat.le_refl _) o), h.2.1, h.2.2.1, fun e => by have := own_lt h.1 e; omega⟩
theorem own_grown {w w' : World} {row : Option Nat} {base size n : Nat} {e : TypeId} {v : Value} {xs : List Value} (h : w.ownsRow base e size v n xs) (hg : w.grownBy w' row) (hv : ∀ k, v.ownBlock = some k → row ≠ some k) : w'.ownsRow base e size v n xs := by
  refine ⟨h.1, ?_⟩
  rcases h.2 with hn | ⟨k, c, cur, rfl, hb, hh, q⟩
  · exact .inl hn
  · exact .inr ⟨k, c, cur, rfl, hb, Blk.grown hh hg (fun e => hv k rfl e.symm), q⟩
theorem Und.grown {w W w4 : World} {R g B : Nat} {r out : List Tm} {v : Value} {o : Obj} (h : Und w W R g B r) (hr : Row w W R g B v out) (hg : (W.alloc o).grownBy w4 v.ownBlock) : Und w w4 R g B r := by
  obtain ⟨⟨⟨v0, k1, k2, k3⟩, hh⟩, h2, h3, h4, h5, h6, h7, h8, h9⟩ := h.below ((Below.refl W.heap.size W).alloc (Nat.le_refl _) o)
  exact ⟨⟨⟨v0, k1.grown hg (fun e => hr.2.1 e.symm), own_grown k2 hg (fun k hk e => hr.2.2.1 (by rw [← k3 k hk]; exact e)), k3⟩, hh⟩, h2.grown hg (fun e => hr.2.2.2 e.symm), h3, h4, h5, h6, h7, h8.grown hg h8.size (fun k hk => own_base hr.1 hk), Nat.lt_of_lt_of_le h9 hg.size⟩
theorem Row.pushed {w W w4 : World} {R g B : Nat} {r out : List Tm} {v v4 : Value} {o : Obj} {t : Tm} (h : Und w W R g B r) (hr : Row w W R g B v out) (ho : w4.ownsRow w.heap.size 35 2 v4 (out.length + 1) (T2 out ++ [.int .i64 t.1, .int .i64 t.2])) (hor : v4.ownBlock = v.ownBlock ∨ v4.ownBlock = some (W.alloc o).heap.size) : Row w w4 R g B v4 (out ++ [t]) := by
  have hR := h.R_lt
  have hB := h.2.1.lt
  have hg := h.2.2.2.2.2.2.2.2
  have hz : (W.alloc o).heap.size = W.heap.size + 1 := by simp
  refine ⟨by rw [List.length_append, T2_app]; exact ho, ?_, ?_, ?_⟩
  · rcases hor with e | e
    · rw [e]; exact hr.2.1
    · rw [e]; intro e2; injection e2 with e2; omega
  · rcases hor with e | e
    · rw [e]; exact hr.2.2.1
    · rw [e]; intro e2; injection e2 with e2; omega
  · rcases hor with e | e
    · rw [e]; exact hr.2.2.2
    · rw [e]; intro e2; injection e2 with e2; omega
theorem Row.grown {w W w4 : World} {R g B : Nat} {out : List Tm} {v v2 : Value} {o : Obj} (h2 : Row w W R g B v2 out) (hg : (W.alloc o).grownBy w4 v.ownBlock) (hne : ∀ k, v2.ownBlock = some k → v.ownBlock ≠ some k) : Row w w4 R g B v2 out :=
  ⟨own_grown (own_below h2.1 ((Below.refl W.heap.size W).alloc (Nat.le_refl _) o)) hg hne, h2.2⟩
theorem two_one (t : Tm) : ∀ u ∈ [Value.int .i64 t.1, Value.int .i64 t.2], u.oneCell' = true := by
  intro u hu
  simp at hu
  rcases hu with rfl | rfl <;> rfl
/-- A slice that is a row of the call's own. -/
theorem Row.slice {w wr : World} {R g B : Nat} {v : Value} {out : List Tm} (h : Row w wr R g B v out) : ∃ A c, v = .slice A out.length c ∧ Tms wr wr.heap.size A out.length out := by
  obtain ⟨A, c, e, _, hr⟩ := own_slice h.1
  exact ⟨A, c, e, rfl, hr⟩
def OrdPost (w : World) (l : List Tm) (en : Ending) (w' : World) : Prop := ∃ A c, en = .returned (.tuple #[.slice A (ordO l).length c, .int .i64 (ordE l)]) ∧ w'.ownsRow w.heap.size 35 2 (.slice A (ordO l).length c) (ordO l).length (T2 (ordO l)) ∧ Below w.heap.size w w'
theorem ordPost_bad {w w' : World} {l : List Tm} {E : Int} (h : ordE l = E) (h0 : E ≠ 0) (hb : Below w.heap.size w w') : OrdPost w l (.returned (.tuple #[.slice none 0 0, .int .i64 E])) w' := by
  have e : ordO l = [] := by unfold ordO; rw [h, if_neg h0]
  refine ⟨none, 0, by rw [h, e]; rfl, ?_, hb⟩
  rw [e]
  exact World.ownsRow_nil _ _ _ _
/-- How many a heap holds. -/
def lenAt (w : World) (R : Nat) : Nat := match w.cell? ⟨R, 0, none⟩ with
  | some (.slice _ k _) => k
  | _ => 0
theorem lenAt_eq {w : World} {R g : Nat} {l : List Tm} (h : Pl w R g l) : lenAt w R = l.length := by
  obtain ⟨A, c, hc, _⟩ := h.cell
  unfold lenAt
  rw [hc]
theorem getLast_tz {out : List Tm} {p : Nat} (h : out.length = p + 1) : out.getLast? = some (tz out p) := by
  rw [List.getLast?_eq_getElem?, h]
  exact tz_lt (by omega)
theorem lay1_same {out : List Tm} {p : Nat} {t : Tm} (h : out.length = p + 1) (ht : decide (tz out p = t) = true) : lay1 out t = out := by
  unfold lay1
  rw [getLast_tz h, if_pos (by rw [of_decide_eq_true ht])]
theorem lay1_more {out : List Tm} {p : Nat} {t : Tm} (h : out.length = p + 1) (ht : decide (tz out p = t) = false) : lay1 out t = out ++ [t] := by
  unfold lay1
  rw [getLast_tz h, if_neg (fun e => by injection e with e; exact of_decide_eq_false ht e)]
theorem lay1_first {out : List Tm} {t : Tm} (h : out.length = 0) : lay1 out t = [] ++ [t] := by
  rw [List.eq_nil_of_length_eq_zero h]
  rfl
def OI (w wr : World) (l out r : List Tm) (R g B : Nat) (v : Value) (m : Nat) : Prop := out.length = m ∧ Row w wr R g B v out ∧ Und w wr R g B r ∧ OrdP l out r
theorem OI.boxed {w w4 : World} {l out r : List Tm} {R g B m : Nat} {v : Value} (h1 : out.length = m) (h2 : Und w w4 R g B r) (h3 : Row w w4 R g B v out) (h4 : OrdP l out r) : OI w (w4.alloc (.cells #[.pointer (some ⟨R, 0, none⟩)] 55)) l out r R g w4.heap.size v m := ⟨h1, h3.box _, h2.box, h4⟩
theorem lt_step {wr w5 w4 w : World} {R g B : Nat} {r : List Tm} (h : lenAt w5 R < lenAt wr R ∧ lenAt w5 R = r.length) (h2 : Und w w4 R g B r) : lenAt (w4.alloc (.cells #[.pointer (some ⟨R, 0, none⟩)] 55)) R < lenAt wr R := by
  rw [lenAt_eq h2.box.1.1, ← h.2]
  exact h.1
set_option maxRecDepth 100000 in
set_option maxHeartbeats 16000000 in
theorem order_any (A : Option Addr) (n c : Nat) (l : List Tm) (hm : n ≤ maxLen) (w : World) (h : Tms w w.heap.size A n l) : Calls Try.prog 9 #[.slice A n c] w (OrdPost w l) := by
  have gl := Lib.hid h.1
  by_cases hb : 1024 < n
  · have d5 : decide ((1024 : Int) < n) = true := decide_eq_true (by omega)
    have d6 : decide (1024 < n) = true := decide_eq_true hb
    have g4 : Hid (ordE l = 4) := Lib.hid (by unfold ordE; rw [if_pos (by rw [gl.out]; exact hb)])
    clear h hb hm
    go_enter Try.func9, Try.ntmps9
    go_wp2
    go_ret2
    exact ordPost_bad g4.out (by decide) (Below.refl _ _)
  have hn : n ≤ 1024 := by omega
  have d5 : decide ((1024 : Int) < n) = false := decide_eq_false (by omega)
  have d6 : decide (1024 < n) = false := decide_eq_false hb
  obtain ⟨Q, hQ⟩ : ∃ Q, (l.any fun t => !mayT t) = Q := ⟨_, rfl⟩
  have hbad := hasbad A n c l (by omega) w h Q hQ
  cases Q with
  | true =>
    have g4 : Hid (ordE l = 8) := Lib.hid (by unfold ordE; rw [if_neg (by rw [gl.out]; exact hb), if_pos hQ])
    clear h hb hm hQ
    go_enter Try.func9, Try.ntmps9
    go_wp2_with (go_at_call 25; refine hbad.mono ?_; rintro en w1 ⟨rfl, hb1⟩)
    go_ret2
    exact ordPost_bad g4.out (by decide) hb1
  | false =>
    have g4 : Hid (ordE l = 0) := Lib.hid (by unfold ordE; rw [if_neg (by rw [gl.out]; exact hb), if_neg (by rw [hQ]; simp)])
    obtain ⟨i0, hi0, hz0, hz1, hz2⟩ := info_parts infoT
    have hpi := fun w1 (h1 : Below w.heap.size w w1) => piled_any A n c l (by omega) w1 (h.go h1 h1.size)
    clear h hb hm hQ
    go_enter Try.func9, Try.ntmps9
    go_wp2_with (go_at_call 25; refine hbad.mono ?_; rintro en w1 ⟨rfl, hb1⟩)
    refine (hpi _ hb1).mono ?_
    rintro en w2 ⟨R, g, r0, rfl, hR0, hg0, hgl0, hpm, hH0, hb2⟩
    have hs1 := hb1.size
    have hU0 : Und w (w2.alloc (.cells #[.pointer (some ⟨R, 0, none⟩)] 55)) R g w2.heap.size r0 := by
      have hb3 := (Below.refl w2.heap.size w2).alloc (Nat.le_refl _) (.cells #[.pointer (some ⟨R, 0, none⟩)] 55)
      have hRl : R < w2.heap.size := by obtain ⟨_, _, _, _, hR, _⟩ := hH0.1.cell; exact hR
      have hs2 := hb2.size
      exact ⟨hH0.below hb3, Blk.new w2 _ _, by omega, by omega, by omega, by omega, by omega, (hb1.trans (hb2.mono hs1)).trans (hb3.mono (by omega)), by simp; omega⟩
    have gU0 : Hid (OI w (w2.alloc (.cells #[.pointer (some ⟨R, 0, none⟩)] 55)) l [] r0 R g w2.heap.size (.slice none 0 0) 0) := Lib.hid ⟨rfl, ⟨World.ownsRow_nil _ _ _ _, by simp [Value.ownBlock], by simp [Value.ownBlock], by simp [Value.ownBlock]⟩, hU0, ordP_start hpm⟩
    have hln0 := Lib.hid hn
    clear hU0 hpi hbad hb1 hb2 hR0 hg0 hgl0 hpm hH0 hs1 d5 d6
    go_wp2
    go_loopw [2, 4] (fun v t wr => ∃ (out r : List Tm) (Ao : Option Addr) (m co B : Nat), v = .slice Ao m co ∧ t = .pointer (some ⟨B, 0, none⟩) ∧ Hid (OI w wr l out r R g B (.slice Ao m co) m)) (fun _ _ wr => lenAt wr R)
    case atStart => exact ⟨[], r0, none, 0, 0, w2.heap.size, rfl, rfl, gU0⟩
    case round =>
      clear gU0
      obtain ⟨out, r, Ao, m, co, B, rfl, rfl, gI⟩ := hrel
      obtain ⟨hm, hrow, hU, hO⟩ := gI.out
      obtain ⟨A1, c1, hcR, _, hRl, _⟩ := hU.1.1.cell
      have hln := len_any R wr A1 r.length c1 hcR
      have cB : wr.cell? ⟨B, 0, none⟩ = some (.pointer (some ⟨R, 0, none⟩)) := by rw [hU.2.1.cell]; rfl
      have hle := ordP_len hO
      rw [gl.out] at hle
      have gmes : Hid (lenAt wr R = r.length) := Lib.hid (lenAt_eq hU.1.1)
      rcases Nat.eq_zero_or_pos r.length with h0 | h0
      · have hr0 := List.eq_nil_of_length_eq_zero h0
        have gE : Hid (out = ordL l) := Lib.hid (ordP_end (by rw [hr0] at hO; exact hO))
        have gB : Hid (Below w.heap.size w wr) := Lib.hid hU.2.2.2.2.2.2.2.1
        have gR : Hid (wr.ownsRow w.heap.size 35 2 (.slice Ao m co) out.length (T2 out)) := Lib.hid hrow.1
        have gm := Lib.hid hm
        rw [h0] at hln
        clear gI hrow hU hO h0 hr0 hle hm gmes hcR hRl
        go_wp2_with (go_at_call 29; refine hln.mono ?_; rintro en w3 ⟨rfl, hw3⟩; obtain rfl := hw3.symm)
        go_ret2
        have e5 : ordO l = out := by unfold ordO; rw [if_pos g4.out, gE.out]
        refine ⟨Ao, co, ?_, ?_, gB.out⟩
        · rw [e5, g4.out, gm.out]; rfl
        · rw [e5, gm.out]
          have := gR.out
          rw [gm.out] at this
          exact this
      · obtain ⟨q, hq⟩ : ∃ q, r.length = q + 1 := ⟨r.length - 1, by omega⟩
        have hnx := next_any R g q r (by omega) hq wr hU.1.1 hU.1.2
        rw [hq] at hln
        have e0 : decide (0 < ((q + 1 : Nat) : Int)) = true := decide_eq_true (by omega)
        have gN : Hid (∀ t r' w5, Pops r r' t → Pl w5 R g r' → Frm R g wr w5 → Und w w5 R g B r' ∧ Row w w5 R g B (.slice Ao m co) out ∧ OrdP l (lay1 out t) r' ∧ lenAt w5 R < lenAt wr R) := Lib.hid (fun t r' w5 hp hP hF => ⟨hU.next hp hP hF, hrow.frm hF, ordP_step hO hp, by rw [lenAt_eq hP, lenAt_eq hU.1.1, pops_len hp]; omega⟩)
        have gm := Lib.hid hm
        have hm5 : m ≤ 1024 := by omega
        clear gI hrow hU hO h0 hle hm gmes hcR hRl hq
        go_wp2_with (first | (go_at_call 29; refine hln.mono ?_; rintro en w3 ⟨rfl, hw3⟩; obtain rfl := hw3.symm) | (go_at_call 30; refine hnx.mono ?_; rintro en w5 ⟨⟨x, y⟩, r', rfl, hpo, hP5, hF5⟩; have gk := Lib.hid (gN.out _ _ _ hpo hP5 hF5)))
        obtain ⟨hU5, hrow5, hO5, hlt5⟩ := gk.out
        obtain ⟨W, hW⟩ : ∃ W, W = w5.alloc (.cells #[.int .i64 x, .int .i64 y] 35) := ⟨_, rfl⟩
        rw [← hW]
        have hB5 : Below w5.heap.size w5 W := by rw [hW]; exact (Below.refl _ _).alloc (Nat.le_refl _) _
        have kt : Blk W w5.heap.size 35 #[.int .i64 x, .int .i64 y] := by rw [hW]; exact Blk.new w5 _ _
        have hUW := hU5.below hB5
        have hrW := hrow5.below hB5
        have hBW := Below.refl W.heap.size W
        have gO := Lib.hid hO5
        have gS : Hid (lenAt w5 R < lenAt wr R ∧ lenAt w5 R = r'.length) := Lib.hid ⟨hlt5, lenAt_eq hU5.1.1⟩
        have gW : Hid (Und w W R g B r' ∧ Row w W R g B (.slice Ao m co) out) := Lib.hid ⟨hUW, hrW⟩
        have t0 : ∀ p : Bw W.heap.size W, p.w.cell? ⟨w5.heap.size, 0, none⟩ = some (.int .i64 x) := fun p => by rw [(kt.below p.h kt.lt).cell]; rfl
        have t1 : ∀ p : Bw W.heap.size W, p.w.cell? ⟨w5.heap.size, 1, none⟩ = some (.int .i64 y) := fun p => by rw [(kt.below p.h kt.lt).cell]; rfl
        have gkt := Lib.hid kt
        clear hU5 hO5 hlt5 hB5 kt hUW hW gk gN hP5 hF5 hpo hrow5 cB hln hnx
        have hgd := guardT
        rcases Nat.eq_zero_or_pos m with h0 | h0
        · subst h0
          have gL : Hid (lay1 out (x, y) = [] ++ [(x, y)] ∧ out = []) := Lib.hid ⟨lay1_first gm.out, List.eq_nil_of_length_eq_zero gm.out⟩
          clear hrW
          refine wp_region_wq W.heap.size W hBW (by kernel_rfl) (by kernel_rfl) ?_
          repeat (first | (refine WQ.yes (by rfl) (fun K hK => ?_); go_simp; first | (refine hK _ ?_; clear hK K) | (apply Exists.intro; refine ⟨fun _ => ?_, hK _ ?_⟩; (fail); clear hK K)) | (refine WQ.no (by rfl) ?_; (try simp only [Act.put, List.setIfInBounds_toArray, List.set_cons_zero, List.set_cons_succ])))
          refine WQ.nil ?_
          intro pq
          obtain ⟨wq, hq⟩ := pq
          simp only
          have hUq := gW.out.1.below hq
          have hrq := gW.out.2.below hq
          have hsq := hUq.2.2.2.2.2.2.2.1.size
          have cB : wq.cell? ⟨B, 0, none⟩ = some (.pointer (some ⟨R, 0, none⟩)) := by rw [hUq.2.1.cell]; rfl
          have u0 : wq.cell? ⟨w5.heap.size, 0, none⟩ = some (.int .i64 x) := t0 ⟨wq, hq⟩
          have u1 : wq.cell? ⟨w5.heap.size, 1, none⟩ = some (.int .i64 y) := t1 ⟨wq, hq⟩
          clear t0 t1 gkt
          have hro := hrq.1
          rw [gm.out] at hro
          have rowp : Hid (∀ v4 w4, w4.ownsRow w.heap.size 35 2 v4 (0 + 1) (T2 out ++ [.int .i64 x, .int .i64 y]) → (wq.alloc (.cells #[.int .i64 x, .int .i64 y] 35)).grownBy w4 (Value.slice Ao 0 co).ownBlock → (v4.ownBlock = (Value.slice Ao 0 co).ownBlock ∨ v4.ownBlock = some (wq.alloc (.cells #[.int .i64 x, .int .i64 y] 35)).heap.size) → (lay1 out (x, y)).length = 0 + 1 ∧ Und w w4 R g B r' ∧ Row w w4 R g B v4 (lay1 out (x, y))) := Lib.hid (fun v4 w4 h1 h2 h3 => by
            have e : lay1 out (x, y) = out ++ [(x, y)] := by rw [gL.out.1, gL.out.2]
            refine ⟨by rw [e, List.length_append, gm.out]; rfl, hUq.grown hrq h2, ?_⟩
            rw [e]
            exact hrq.pushed (t := (x, y)) hUq (by rw [gm.out]; exact h1) h3)
          clear hq hUq hrq hn gW gL
          go_wp2_with (at_builtin; refine wpList_append_any _ rfl (.tmp 32) (.tmp 34) 22 rfl w.heap.size 35 i0 _ 2 16 Try.underlying22 hi0 hz0 hz1 hz2 rfl (by omega) (.slice Ao 0 co) 0 (T2 out) rfl (own_below hro ((Below.refl wq.heap.size wq).alloc (Nat.le_refl _) _)) (wq.heap.size + 1) _ 1 1 [.int .i64 x, .int .i64 y] rfl (reads_one wq [.int .i64 x, .int .i64 y] 35 2 rfl) (two_one (x, y)) (by unfold maxLen; omega) (by omega) (by simp; omega) ?_; intro v4 w4 ho4 hg4 hor4; have hv4 := rowp.out v4 w4 ho4 hg4 hor4; obtain ⟨A4, c4, rfl, hc4, _⟩ := own_slice ho4; have cB4 : w4.cell? ⟨B, 0, none⟩ = some (.pointer (some ⟨R, 0, none⟩)) := (by rw [hv4.2.1.2.1.cell]; rfl))
          have hw4 := Lib.hid hv4
          clear hv4
          go_roundw
          case rel => exact ⟨lay1 out (x, y), r', A4, 0 + 1, c4, w4.heap.size, rfl, rfl, Lib.hid (OI.boxed hw4.out.1 hw4.out.2.1 hw4.out.2.2 gO.out)⟩
          case measure => exact lt_step gS.out (hw4.out.2.1)
        · obtain ⟨p, rfl⟩ : ∃ p, m = p + 1 := ⟨m - 1, by omega⟩
          have hto : Tms W W.heap.size Ao (p + 1) out := by
            have := hrW.1
            rw [gm.out] at this
            exact Tms.of_own this gm.out
          obtain ⟨ad, rfl, _, hat⟩ := hto.at_ (i := p) (by omega)
          obtain ⟨a', b', hab⟩ : ∃ a' b', tz out p = (a', b') := ⟨_, _, rfl⟩
          rw [hab] at hat
          have f0 : ∀ q : Bw W.heap.size W, q.w.cell? (ad.add (p * 2)) = some (.int .i64 a') := fun q => (hat q.w q.h).1
          have f1 : ∀ q : Bw W.heap.size W, q.w.cell? ⟨(ad.add (p * 2)).block, (ad.add (p * 2)).off + 1, none⟩ = some (.int .i64 b') := fun q => (hat q.w q.h).2
          have i1 : (0 : Int) ≤ p := by omega
          have i2 : (p : Int) < ((p + 1 : Nat) : Int) := by omega
          have i3 : (((p + 1 : Nat) : Int) == 0) = false := by simp; omega
          have i5 : IntKind.i64.wrap (p : Int) = p := by simp [IntKind.wrap, IntKind.bits, IntKind.signed]; omega
          have i6 : (p : Int) < (p : Int) + 1 := by omega
          have i4 : ((p : Int) + 1 == 0) = false := by simp; omega
          obtain ⟨Q, hQ⟩ : ∃ Q, decide (tz out p = (x, y)) = Q := ⟨_, rfl⟩
          have hnq : ∀ w, (binOp .neq 35 (.agg #[.int .i64 a', .int .i64 b']) (.agg #[.int .i64 x, .int .i64 y])).run Try.prog w = .ok (.bool (!Q)) w := fun w => by rw [neqT, ← hab, hQ]
          have gL := Lib.hid hQ
          clear hrW hto hat hab hQ
          cases Q with
          | true =>
            refine wp_region_wq W.heap.size W hBW (by kernel_rfl) (by kernel_rfl) ?_
            repeat (first | (refine WQ.yes (by rfl) (fun K hK => ?_); go_simp; first | (refine hK _ ?_; clear hK K) | (apply Exists.intro; refine ⟨fun _ => ?_, hK _ ?_⟩; (fail); clear hK K)) | (refine WQ.no (by rfl) ?_; (try simp only [Act.put, List.setIfInBounds_toArray, List.set_cons_zero, List.set_cons_succ])))
            refine WQ.nil ?_
            intro pq
            obtain ⟨wq, hq⟩ := pq
            simp only
            have hUq := gW.out.1.below hq
            have hrq := gW.out.2.below hq
            have hsq := hUq.2.2.2.2.2.2.2.1.size
            have cB : wq.cell? ⟨B, 0, none⟩ = some (.pointer (some ⟨R, 0, none⟩)) := by rw [hUq.2.1.cell]; rfl
            have u0 : wq.cell? ⟨w5.heap.size, 0, none⟩ = some (.int .i64 x) := t0 ⟨wq, hq⟩
            have u1 : wq.cell? ⟨w5.heap.size, 1, none⟩ = some (.int .i64 y) := t1 ⟨wq, hq⟩
            clear t0 t1 gkt
            have gX : Hid (OI w (wq.alloc (.cells #[.pointer (some ⟨R, 0, none⟩)] 55)) l (lay1 out (x, y)) r' R g wq.heap.size (.slice (some ad) (p + 1) co) (p + 1) ∧ lenAt (wq.alloc (.cells #[.pointer (some ⟨R, 0, none⟩)] 55)) R < lenAt wr R) := Lib.hid ⟨OI.boxed (by rw [lay1_same gm.out gL.out]; exact gm.out) hUq (by rw [lay1_same gm.out gL.out]; exact hrq) gO.out, lt_step gS.out hUq⟩
            clear hq hUq hrq hn gW gL
            go_wp2
            go_roundw
            case rel => exact ⟨lay1 out (x, y), r', some ad, p + 1, co, wq.heap.size, rfl, rfl, Lib.hid gX.out.1⟩
            case measure => exact gX.out.2
          | false =>
            refine wp_region_wq W.heap.size W hBW (by kernel_rfl) (by kernel_rfl) ?_
            repeat (first | (refine WQ.yes (by rfl) (fun K hK => ?_); go_simp; first | (refine hK _ ?_; clear hK K) | (apply Exists.intro; refine ⟨fun _ => ?_, hK _ ?_⟩; (fail); clear hK K)) | (refine WQ.no (by rfl) ?_; (try simp only [Act.put, List.setIfInBounds_toArray, List.set_cons_zero, List.set_cons_succ])))
            refine WQ.nil ?_
            intro pq
            obtain ⟨wq, hq⟩ := pq
            simp only
            have hUq := gW.out.1.below hq
            have hrq := gW.out.2.below hq
            have hsq := hUq.2.2.2.2.2.2.2.1.size
            have cB : wq.cell? ⟨B, 0, none⟩ = some (.pointer (some ⟨R, 0, none⟩)) := by rw [hUq.2.1.cell]; rfl
            have u0 : wq.cell? ⟨w5.heap.size, 0, none⟩ = some (.int .i64 x) := t0 ⟨wq, hq⟩
            have u1 : wq.cell? ⟨w5.heap.size, 1, none⟩ = some (.int .i64 y) := t1 ⟨wq, hq⟩
            clear t0 t1 gkt
            have hro := hrq.1
            rw [gm.out] at hro
            have rowp : Hid (∀ v4 w4, w4.ownsRow w.heap.size 35 2 v4 (p + 1 + 1) (T2 out ++ [.int .i64 x, .int .i64 y]) → (wq.alloc (.cells #[.int .i64 x, .int .i64 y] 35)).grownBy w4 (Value.slice (some ad) (p + 1) co).ownBlock → (v4.ownBlock = (Value.slice (some ad) (p + 1) co).ownBlock ∨ v4.ownBlock = some (wq.alloc (.cells #[.int .i64 x, .int .i64 y] 35)).heap.size) → (lay1 out (x, y)).length = p + 1 + 1 ∧ Und w w4 R g B r' ∧ Row w w4 R g B v4 (lay1 out (x, y))) := Lib.hid (fun v4 w4 h1 h2 h3 => by
              have e : lay1 out (x, y) = out ++ [(x, y)] := lay1_more gm.out gL.out
              refine ⟨by rw [e, List.length_append, gm.out]; rfl, hUq.grown hrq h2, ?_⟩
              rw [e]
              exact hrq.pushed (t := (x, y)) hUq (by rw [gm.out]; exact h1) h3)
            clear hq hUq hrq hn gW gL
            go_wp2_with (at_builtin; refine wpList_append_any _ rfl (.tmp 32) (.tmp 34) 22 rfl w.heap.size 35 i0 _ 2 16 Try.underlying22 hi0 hz0 hz1 hz2 rfl (by omega) (.slice (some ad) (p + 1) co) (p + 1) (T2 out) rfl (own_below hro ((Below.refl wq.heap.size wq).alloc (Nat.le_refl _) _)) (wq.heap.size + 1) _ 1 1 [.int .i64 x, .int .i64 y] rfl (reads_one wq [.int .i64 x, .int .i64 y] 35 2 rfl) (two_one (x, y)) (by unfold maxLen; omega) (by omega) (by simp; omega) ?_; intro v4 w4 ho4 hg4 hor4; have hv4 := rowp.out v4 w4 ho4 hg4 hor4; obtain ⟨A4, c4, rfl, hc4, _⟩ := own_slice ho4; have cB4 : w4.cell? ⟨B, 0, none⟩ = some (.pointer (some ⟨R, 0, none⟩)) := (by rw [hv4.2.1.2.1.cell]; rfl))
            have hw4 := Lib.hid hv4
            clear hv4
            go_roundw
            case rel => exact ⟨lay1 out (x, y), r', A4, p + 1 + 1, c4, w4.heap.size, rfl, rfl, Lib.hid (OI.boxed hw4.out.1 hw4.out.2.1 hw4.out.2.2 gO.out)⟩
            case measure => exact lt_step gS.out (hw4.out.2.1)
end Go.Proofs.Ythageikchniahaa
