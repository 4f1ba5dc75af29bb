/- Timer: timers without a Number: DeleteFunc -/
import Derived.Test.YthageikchniahaaTR
import Derived.Laws.CopyRow
import Derived.Laws.CopyOwn
namespace Go.Proofs.Ythageikchniahaa
open Go.ChangeShapes Go.WideShapes Go.ChangeAt Go.RowKit
set_option linter.unusedSimpArgs false
set_option linter.unusedVariables false

/-- Timers of other Numbers. -/
def offN (N : Int) (l : List Tm) : List Tm := l.filter (fun t => !(t.2 == N))
theorem T2_take (l : List Tm) (k : Nat) : (T2 l).take (k * 2) = T2 (l.take k) := by
  have h := T2_app (l.take k) (l.drop k)
  rw [List.take_append_drop] at h
  rw [h]
  rcases Nat.le_total k l.length with hk | hk
  · rw [List.take_append_of_le_length (by rw [T2_len, List.length_take]; omega), List.take_of_length_le (by rw [T2_len, List.length_take]; omega)]
  · rw [List.drop_of_length_le hk, List.take_of_length_le hk]
    show List.take (k * 2) (T2 l ++ []) = _
    rw [List.append_nil, List.take_of_length_le (by rw [T2_len]; omega)]
/-- A shorter row. -/
theorem own_cut {w : World} {base n c g : Nat} {l : List Tm} (h : w.ownsRow base 35 2 (.slice (some ⟨g, 0, none⟩) n c) n (T2 l)) {k : Nat} (hk : k ≤ n) : w.ownsRow base 35 2 (.slice (some ⟨g, 0, none⟩) k c) k (T2 (l.take k)) := by
  obtain ⟨h1, h2⟩ := h
  refine ⟨by rw [← T2_take, List.length_take, h1]; omega, ?_⟩
  rcases h2 with ⟨e, _⟩ | ⟨g', cap, cur, e, hb, hh, h3, h4, h5, ht⟩
  · cases e
  · cases e
    refine .inr ⟨g, c, cur, rfl, hb, hh, by omega, h4, h5, ?_⟩
    rw [← T2_take, ← ht, List.take_take, Nat.min_eq_left (by omega)]
/-- The elements from place k on are cleared. -/
theorem run_clearT (w : World) (g k n c cap : Nat) (cur : Array Value) (hb : Blk w g 35 cur) (hn : 0 < n) (hsz : k * 2 + n * 2 ≤ cur.size) : ∃ cur', cur'.size = cur.size ∧ cur'.toList.take (k * 2) = cur.toList.take (k * 2) ∧ ∀ ty, (Builtin.clear_ #[22] ty #[.slice (some ⟨g, k * 2, none⟩) n c]).run Try.prog w = .ok (.tuple #[]) (w.setRow g cur') := by
  have hz : (Builtin.zeroCells (Value.agg #[.int .i64 0, .int .i64 0]).cells n).toList.length = n * 2 := by simp [Builtin.zeroCells, Value.cells]
  have h1 : ∀ v ∈ (Builtin.zeroCells (Value.agg #[.int .i64 0, .int .i64 0]).cells n).toList, v.oneCell' = true := by
    intro v hv
    simp [Builtin.zeroCells, Value.cells] at hv
    obtain ⟨a, _, rfl⟩ := hv
    have : a % 2 = 0 ∨ a % 2 = 1 := by omega
    rcases this with h | h <;> rw [h] <;> rfl
  have hst := run_storeCells_at (P := Try.prog) g (k * 2) 35 _ 0 cur w hb (by rw [hz]; omega) h1
  simp only [Nat.add_zero] at hst
  obtain ⟨Z, hZ⟩ : ∃ Z, Z = (Builtin.zeroCells (Value.agg #[.int .i64 0, .int .i64 0]).cells n).toList := ⟨_, rfl⟩
  rw [← hZ] at hz hst
  refine ⟨(cur.toList.take (k * 2) ++ Z ++ cur.toList.drop (k * 2 + Z.length)).toArray, ?_, ?_, fun ty => ?_⟩
  · simp only [List.size_toArray, List.length_append, List.length_take, List.length_drop, Array.length_toList, hz]
    omega
  · rw [List.append_assoc, List.take_append_of_le_length (by simp; omega), List.take_take, Nat.min_self]
  · obtain ⟨m, rfl⟩ : ∃ m, n = m + 1 := ⟨n - 1, by omega⟩
    have hv : ∀ w, (zeroValue 35).run Try.prog w = .ok (.agg #[.int .i64 0, .int .i64 0]) w := Try.zeroValue35
    simp only [Builtin.clear_]
    simp [run_underlying Try.underlying22, hv, ← hZ, hst]
theorem blk_setRow {w : World} {g : Nat} {t : TypeId} {cur cur' : Array Value} (hb : Blk w g t cur) : Blk (w.setRow g cur') g t cur' := setRow_heap w g cur cur' t (0, 0) hb
theorem own_clear {w : World} {base k c g : Nat} {l : List Tm} {cur cur' : Array Value} (h : w.ownsRow base 35 2 (.slice (some ⟨g, 0, none⟩) k c) k (T2 l)) (hb : Blk w g 35 cur) (hs : cur'.size = cur.size) (ht : cur'.toList.take (k * 2) = cur.toList.take (k * 2)) : (w.setRow g cur').ownsRow base 35 2 (.slice (some ⟨g, 0, none⟩) k c) k (T2 l) := by
  obtain ⟨h1, h2⟩ := h
  refine ⟨h1, ?_⟩
  rcases h2 with ⟨e, _⟩ | ⟨g', cap, cur2, e, hbb, hh, h3, h4, h5, h6⟩
  · cases e
  · cases e
    have e2 : cur2 = cur := by
      have a : w.heap[g]? = some (.cells cur2 35 (0, 0)) := hh
      have b : w.heap[g]? = some (.cells cur 35 (0, 0)) := hb
      rw [a] at b
      injection b with b
      injection b
    subst e2
    exact .inr ⟨g, c, cur', rfl, hbb, blk_setRow hb, h3, h4, by rw [hs]; exact h5, by rw [ht]; exact h6⟩
/-- Deleting, under way: i are kept of the first j; those from j on stand as they did. -/
def DelS (N : Int) (l out : List Tm) (i j : Nat) : Prop := i < j ∧ j ≤ l.length ∧ out.length = l.length ∧ out.take i = offN N (l.take j) ∧ ∀ k, j ≤ k → tz out k = tz l k
theorem offN_take {N : Int} {l : List Tm} {k : Nat} (h : k < l.length) : offN N (l.take (k + 1)) = if (tz l k).2 == N then offN N (l.take k) else offN N (l.take k) ++ [tz l k] := by
  unfold offN
  rw [filter_take h]
  by_cases hp : ((tz l k).2 == N) = true
  · rw [hp]; rfl
  · have hp : ((tz l k).2 == N) = false := by simpa using hp
    rw [hp]; rfl
theorem delS_start {N : Int} {l : List Tm} {k : Nat} (hk : k < l.length) (h : ((tz l k).2 == N) = true) (h2 : ∀ j, j < k → ((tz l j).2 == N) = false) : DelS N l l k (k + 1) := by
  refine ⟨by omega, by omega, rfl, ?_, fun _ _ => rfl⟩
  have e : ∀ q, q ≤ k → l.take q = offN N (l.take q) := by
    intro q
    induction q with
    | zero => intro _; rfl
    | succ q ih =>
      intro hq
      rw [offN_take (by omega), h2 q (by omega), take_one (by omega), ← ih (by omega)]
      rfl
  rw [offN_take hk, h, if_pos rfl]
  exact e k (Nat.le_refl _)
theorem delS_skip {N : Int} {l out : List Tm} {i j : Nat} (h : DelS N l out i j) (hj : j < l.length) (hp : ((tz l j).2 == N) = true) : DelS N l out i (j + 1) := by
  obtain ⟨h1, h2, h3, h4, h5⟩ := h
  exact ⟨by omega, by omega, h3, by rw [offN_take hj, hp, if_pos rfl]; exact h4, fun k hk => h5 k (by omega)⟩
theorem delS_keep {N : Int} {l out : List Tm} {i j : Nat} (h : DelS N l out i j) (hj : j < l.length) (hp : ((tz l j).2 == N) = false) : DelS N l (out.set i (tz l j)) (i + 1) (j + 1) := by
  obtain ⟨h1, h2, h3, h4, h5⟩ := h
  have hi : i < out.length := by omega
  refine ⟨by omega, by omega, by rw [List.length_set]; exact h3, ?_, fun k hk => ?_⟩
  · rw [offN_take hj, hp, List.take_add_one, List.getElem?_set, if_pos rfl, if_pos hi, List.take_set_of_le (Nat.le_refl _), h4]
    rfl
  · unfold tz
    rw [List.getD_eq_getElem?_getD, List.getElem?_set, if_neg (by omega), ← List.getD_eq_getElem?_getD]
    exact h5 k (by omega)
theorem delS_end {N : Int} {l out : List Tm} {i : Nat} (h : DelS N l out i l.length) : out.take i = offN N l ∧ (offN N l).length = i := by
  obtain ⟨h1, h2, h3, h4, h5⟩ := h
  rw [List.take_length] at h4
  exact ⟨h4, by rw [← h4, List.length_take]; omega⟩
theorem off_none {N : Int} {l : List Tm} (h : ∀ j, j < l.length → ((tz l j).2 == N) = false) : offN N l = l := by
  unfold offN
  rw [List.filter_eq_self]
  intro t ht
  obtain ⟨j, hj, rfl⟩ := List.getElem_of_mem ht
  have := h j hj
  rw [tz_some (List.getElem?_eq_getElem hj)] at this
  rw [this]
  rfl
set_option maxRecDepth 100000 in
set_option maxHeartbeats 16000000 in
theorem delf_any (base n c Bx : Nat) (A : Option Addr) (l : List Tm) (N : Int) (hm : n ≤ 5000) (hBx : Bx < base) (w : World) (hbase : base ≤ w.heap.size) (h : Ow w base (.slice A n c) n l) (hbx : w.cell? ⟨Bx, 0, none⟩ = some (.int .i64 N)) : Calls Try.prog 37 #[.slice A n c, .func (.func 38) #[] #[.pointer (some ⟨Bx, 0, none⟩)]] w fun en w' => ∃ A' c' m, en = .returned (.slice A' m c') ∧ Ow w' base (.slice A' m c') m (offN N l) ∧ Below base w w' := by
  have gl := Lib.hid h.1
  have hclo : ∀ w', Below base w w' → base ≤ w'.heap.size → ∀ a b Q, (b == N) = Q → Calls Try.prog 38 #[.agg #[.int .i64 a, .int .i64 b], .pointer (some ⟨Bx, 0, none⟩)] w' fun en w'' => en = .returned (.bool Q) ∧ Below w'.heap.size w' w'' := fun w' hb hs a b Q hQ => isnum a b N Bx w' (by omega) ((hb.cell (p := ⟨Bx, 0, none⟩) hBx).trans hbx) Q hQ
  have hi := idx_off A n c l hm w (Tms.of_own h.2 h.1) Bx N (fun w' a b hb Q hQ => hclo w' (hb.mono hbase) (Nat.le_trans hbase hb.size) a b Q hQ)
  go_enter Try.func37, Try.ntmps37
  go_wp2_with fail
  refine hi.mono ?_
  rintro en w1 ⟨hb1, ⟨k, hk, rfl, hm1, hm2⟩ | ⟨rfl, hm1⟩⟩
  rotate_left
  · have gE : Hid (offN N l = l) := Lib.hid (off_none (fun j hj => hm1 j (by rw [← gl.out]; exact hj)))
    have gO := Lib.hid (h.below hb1)
    clear hi hm1 h hclo
    go_wp2
    go_ret
    exact ⟨A, c, n, rfl, by rw [gE.out]; exact gO.out, hb1.mono hbase⟩
  · obtain ⟨g, cur0, e, hbg, _⟩ : ∃ g cur, A = some ⟨g, 0, none⟩ ∧ base ≤ g ∧ Blk w g 35 cur := by
      rcases h.2.2 with ⟨_, e⟩ | ⟨g, c2, cur, e, hb, hh, _⟩
      · omega
      · injection e with e
        exact ⟨g, cur, e, hb, hh⟩
    subst e
    have hnc : n ≤ c := by
      rcases h.2.2 with ⟨_, e⟩ | ⟨g, c2, cur, e, hb, hh, h3, _⟩
      · omega
      · injection e with _ _ e
        subst e
        exact h3
    have hd1 : ((k : Int) == -1) = false := beq_eq_false_iff_ne.2 (by omega)
    have g0 : Hid (Ow w1 base (.slice (some ⟨g, 0, none⟩) n c) n l ∧ Below base w w1 ∧ base ≤ w1.heap.size ∧ DelS N l l k (k + 1)) := Lib.hid ⟨h.below hb1, hb1.mono hbase, Nat.le_trans hbase hb1.size, delS_start (by rw [gl.out]; exact hk) hm1 hm2⟩
    have hkn : k + 1 ≤ n := hk
    clear hi hm1 hm2 h
    go_wp2
    go_loopw [5, 6] (fun a b wr => ∃ (i j : Nat) (out : List Tm), i < j ∧ j ≤ n ∧ a = .int .i64 (i : Int) ∧ b = .int .i64 (j : Int) ∧ Hid (Ow wr base (.slice (some ⟨g, 0, none⟩) n c) n out ∧ Below base w wr ∧ base ≤ wr.heap.size ∧ DelS N l out i j)) (fun _ b _ => n - (intOf b).toNat)
    case atStart => exact ⟨k, k + 1, l, Nat.lt_succ_self _, hkn, rfl, by go_num, g0⟩
    case round =>
      clear g0 hkn
      obtain ⟨i, j, out, hij, hj, rfl, rfl, gI⟩ := hrel
      obtain ⟨hO, hB, hBs, hD⟩ := gI.out
      obtain ⟨cur, hblk, hcs⟩ : ∃ cur, Blk wr g 35 cur ∧ cur.size = c * 2 := by
        rcases hO.2.2 with ⟨e, _⟩ | ⟨g', c2, cur, e, hb, hh, h3, h4, h5, h6⟩
        · cases e
        · injection e with e1 e2 e3
          injection e1 with e1
          injection e1 with e1
          subst e1
          subst e3
          exact ⟨cur, hh, h5⟩
      have i1 : (0 : Int) ≤ i := by omega
      have i2 : (i : Int) < n := by omega
      have i3 : (0 : Int) ≤ j := by omega
      have hp : ∀ q : Nat, (⟨g, 0, none⟩ : Addr).add (q * 2) = ⟨g, q * 2, none⟩ := fun q => by rw [Addr.add_lit]; simp
      by_cases hlt : j < n
      · have i4 : (j : Int) < n := by omega
        have hto := Tms.of_own hO.2 hO.1
        obtain ⟨x, y, hxy⟩ : ∃ x y, tz l j = (x, y) := ⟨_, _, rfl⟩
        have hox : tz out j = (x, y) := by rw [hD.2.2.2.2 j (Nat.le_refl _), hxy]
        obtain ⟨_, e, _, hc⟩ := hto.at_ hlt
        injection e with e
        subst e
        rw [hox, hp] at hc
        obtain ⟨c0, c1⟩ := hc wr (Below.refl _ _)
        simp only at c0 c1
        obtain ⟨Q, hQ⟩ : ∃ Q, (y == N) = Q := ⟨_, rfl⟩
        have hBa : Below wr.heap.size wr (wr.alloc (.cells #[.int .i64 x, .int .i64 y] 35)) := (Below.refl _ _).alloc (Nat.le_refl _) _
        have kt : Blk (wr.alloc (.cells #[.int .i64 x, .int .i64 y] 35)) wr.heap.size 35 #[.int .i64 x, .int .i64 y] := Blk.new wr _ _
        have hcl := hclo _ (hB.trans (hBa.mono hBs)) (Nat.le_trans hBs hBa.size) x y Q hQ
        have gQ : Hid (((tz l j).2 == N) = Q) := Lib.hid (by rw [hxy]; exact hQ)
        have gjl : Hid (j < l.length) := Lib.hid (by rw [gl.out]; exact hlt)
        have gD := Lib.hid hD
        have gO := Lib.hid hO
        have gxy := Lib.hid hxy
        have gkt : Hid (∀ w2, Below (wr.alloc (.cells #[.int .i64 x, .int .i64 y] 35)).heap.size (wr.alloc (.cells #[.int .i64 x, .int .i64 y] 35)) w2 → Blk w2 wr.heap.size 35 #[.int .i64 x, .int .i64 y] ∧ Blk w2 g 35 cur ∧ Ow w2 base (.slice (some ⟨g, 0, none⟩) n c) n out ∧ Below base w w2 ∧ base ≤ w2.heap.size) := Lib.hid (fun w2 hb => by
          have hb2 : Below wr.heap.size wr w2 := hBa.trans (hb.mono hBa.size)
          exact ⟨kt.below hb kt.lt, hblk.below hb2 hblk.lt, hO.below hb2, hB.trans (hb2.mono hBs), Nat.le_trans hBs hb2.size⟩)
        have ghcs := Lib.hid hcs
        clear hc hto hQ hxy hox hBa kt hO hB hD gI hblk hclo hcs
        cases Q with
        | true =>
          go_wp2_with fail
          refine hcl.mono ?_
          rintro en w2 ⟨rfl, hb2⟩
          have gN := Lib.hid (gkt.out w2 hb2)
          clear hcl c0 c1
          go_wp2
          go_roundw
          case rel => exact ⟨i, j + 1, out, by omega, by omega, rfl, by go_num, Lib.hid ⟨gN.out.2.2.1, gN.out.2.2.2.1, gN.out.2.2.2.2, delS_skip gD.out gjl.out gQ.out⟩⟩
          case measure => simp [intOf]; omega
        | false =>
          go_wp2_with fail
          refine hcl.mono ?_
          rintro en w2 ⟨rfl, hb2⟩
          obtain ⟨kt2, kg2, hO2, hB2, hs2⟩ := gkt.out w2 hb2
          have t0 : w2.cell? ⟨wr.heap.size, 0, none⟩ = some (.int .i64 x) := by rw [kt2.cell]; rfl
          have t1 : w2.cell? ⟨wr.heap.size, 1, none⟩ = some (.int .i64 y) := by rw [kt2.cell]; rfl
          have z := fun q => kg2.frozen q
          obtain ⟨_, e, _, hci⟩ := (Tms.of_own hO2.2 hO2.1).at_ (i := i) (by omega)
          injection e with e
          subst e
          rw [hp] at hci
          obtain ⟨d0, d1⟩ := hci w2 (Below.refl _ _)
          simp only at d0 d1
          obtain ⟨v1, hv1⟩ := cell?_setCell_some (w := w2) (p := ⟨g, i * 2, none⟩) (x := .int .i64 x) (q := ⟨g, i * 2 + 1, none⟩) d1
          have gN : Hid (Ow ((w2.setCell ⟨g, i * 2, none⟩ (.int .i64 x)).setCell ⟨g, i * 2 + 1, none⟩ (.int .i64 y)) base (.slice (some ⟨g, 0, none⟩) n c) n (out.set i (x, y)) ∧ Below base w ((w2.setCell ⟨g, i * 2, none⟩ (.int .i64 x)).setCell ⟨g, i * 2 + 1, none⟩ (.int .i64 y)) ∧ base ≤ ((w2.setCell ⟨g, i * 2, none⟩ (.int .i64 x)).setCell ⟨g, i * 2 + 1, none⟩ (.int .i64 y)).heap.size ∧ DelS N l (out.set i (x, y)) (i + 1) (j + 1)) := Lib.hid ⟨⟨by rw [List.length_set]; exact hO2.1, by rw [T2_set]; exact own_put (own_put hO2.2 _ _) _ _⟩, (hB2.setCell (p := ⟨g, i * 2, none⟩) hbg _).setCell (p := ⟨g, i * 2 + 1, none⟩) hbg _, by simp; exact hs2, by rw [← gxy.out]; exact delS_keep gD.out gjl.out gQ.out⟩
          clear hcl c0 c1 hci kt2 kg2 hO2 hB2 hs2
          go_wp2
          go_roundw
          case rel => exact ⟨i + 1, j + 1, out.set i (x, y), by omega, by omega, by go_num, by go_num, gN⟩
          case measure => simp [intOf]; omega
      · obtain rfl : j = n := by omega
        have hci : ¬ (c = i) := by omega
        obtain ⟨cur', hs', ht', hcl⟩ := run_clearT wr g i (j - i) (c - i) c cur hblk (by omega) (by rw [hcs]; omega)
        have gE := Lib.hid (delS_end (by rw [gl.out]; exact hD))
        have gO : Hid (Ow (wr.setRow g cur') base (.slice (some ⟨g, 0, none⟩) i c) i (offN N l)) := Lib.hid ⟨gE.out.2, by
          rw [← gE.out.1]
          exact own_clear (own_cut hO.2 (by omega)) hblk hs' ht'⟩
        have gB : Hid (Below base w (wr.setRow g cur')) := Lib.hid (below_setRow hB hbg _)
        clear gI hO hB hD hblk hs' ht' hclo hcs
        go_wp2
        go_ret
        exact ⟨_, c, i, rfl, gO.out, gB.out⟩
end Go.Proofs.Ythageikchniahaa
