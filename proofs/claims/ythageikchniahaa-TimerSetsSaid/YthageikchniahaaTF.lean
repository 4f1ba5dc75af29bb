/- Timer: the heap's Init and Pop; the first one taken -/
import Derived.Test.YthageikchniahaaTE
namespace Go.Proofs.Ythageikchniahaa
open Go.ChangeShapes Go.WideShapes Go.ChangeAt Go.RowKit
set_option linter.unusedSimpArgs false
set_option linter.unusedVariables false

theorem Pl.far {w : World} {R g : Nat} {l : List Tm} (h : Pl w R g l) {p : Addr} (h1 : R ≠ p.block) (h2 : g ≠ p.block) (u : Value) : Pl (w.setCell p u) R g l := by
  obtain ⟨v, k1, k2, k3⟩ := h
  exact ⟨v, k1.far h1 u, own_far k2 (fun e => h2 (k3 _ e).symm) u, k3⟩
theorem Frm.new_set {w w' : World} {R g : Nat} (h : Frm R g w w') {p : Addr} (hp : w.heap.size ≤ p.block) (u : Value) : Frm R g w (w'.setCell p u) :=
  ⟨h.1.setCell (Nat.zero_le _) u, fun b hb h1 h2 => (Below.heap_setCell w' p u b (fun e => by omega)).trans (h.2 b hb h1 h2)⟩
theorem down_int (R g i0 n : Nat) (l : List Tm) (I : Int) (hl : l.length ≤ 5000) (hn : n ≤ l.length) (hi0 : i0 ≤ n) (hI : I = (i0 : Int)) (w : World) (h : Pl w R g l) (hh : HpFrom l (i0 + 1) n) : Calls Try.prog 46 #[.iface 55 (.agg #[.pointer (some ⟨R, 0, none⟩)]), .int .i64 I, .int .i64 (n : Int)] w fun en w' => (∃ b, en = .returned (.bool b)) ∧ ∃ l', Pl w' R g l' ∧ Kept l l' n ∧ HpFrom l' i0 n ∧ Frm R g w w' := by
  subst hI
  exact down_any R g i0 n l hl hn hi0 w h hh
set_option maxHeartbeats 8000000 in
theorem init_any (R g : Nat) (l : List Tm) (hl : l.length ≤ 5000) (w : World) (h : Pl w R g l) : Calls Try.prog 43 #[.iface 55 (.agg #[.pointer (some ⟨R, 0, none⟩)])] w fun en w' => en = .returned (.tuple #[]) ∧ ∃ l', Pl w' R g l' ∧ l'.Perm l ∧ HpFrom l' 0 l'.length ∧ Frm R g w w' := by
  obtain ⟨A, c, hc, _, hR, _⟩ := h.cell
  have hln := len_any R w A l.length c hc
  have g0 : Hid (Pl w R g l) := Lib.hid h
  obtain ⟨n, hn⟩ : ∃ n, l.length = n := ⟨_, rfl⟩
  have gm := Lib.hid hn
  rw [hn] at hl hln
  have g1 : Hid (HpFrom l (n / 2) n) := Lib.hid (hp_start l (by omega))
  clear h hn hc
  go_enter Try.func43, Try.ntmps43
  go_wp2_with (go_at_call 29; refine hln.mono ?_; rintro en w1 ⟨rfl, rfl⟩)
  clear hln hR g1
  go_loopw [3] (fun t wr => ∃ (k : Nat) (I : Int) (l' : List Tm), k ≤ n / 2 ∧ I = (k : Int) - 1 ∧ t = .int .i64 I ∧ Hid (Pl wr R g l' ∧ l'.Perm l ∧ HpFrom l' k n ∧ Frm R g w1 wr)) (fun t _ => (intOf t + 1).toNat)
  case atStart => exact ⟨n / 2, _, l, Nat.le_refl _, by omega, rfl, Lib.hid ⟨g0.out, List.Perm.refl _, hp_start l (by omega), Frm.refl _ _ _⟩⟩
  case round =>
    clear g0
    obtain ⟨k, I, l', hk, hI, rfl, gI⟩ := hrel
    have hl' : l'.length = n := by rw [gI.out.2.1.length_eq]; exact gm.out
    rcases Nat.eq_zero_or_pos k with h0 | h0
    · have c1 : decide (0 ≤ I) = false := decide_eq_false (by omega)
      have gE : Hid (∃ l', Pl wr R g l' ∧ l'.Perm l ∧ HpFrom l' 0 l'.length ∧ Frm R g w1 wr) := Lib.hid ⟨l', gI.out.1, gI.out.2.1, by rw [hl', ← h0]; exact gI.out.2.2.1, gI.out.2.2.2⟩
      clear gI hI hk h0 hl'
      go_wp2
      go_end0
      exact ⟨rfl, gE.out⟩
    · have c1 : decide (0 ≤ I) = true := decide_eq_true (by omega)
      have i1 : 0 ≤ I := by omega
      have i2 : I ≤ 5000 := by omega
      have hd := down_int R g (k - 1) n l' I (by omega) (by omega) (by omega) (by omega) wr gI.out.1 (by rw [show k - 1 + 1 = k by omega]; exact gI.out.2.2.1)
      have gP : Hid (l'.Perm l ∧ Frm R g w1 wr) := Lib.hid ⟨gI.out.2.1, gI.out.2.2.2⟩
      have gk := Lib.hid hI
      have hk2 : k - 1 ≤ n / 2 := by omega
      clear gI hk h0 hl' hI
      go_wp2_with (go_at_call 46; refine hd.mono ?_; rintro en w2 ⟨⟨b, rfl⟩, l2, hP2, hK2, hH2, hF2⟩)
      go_roundw
      case rel => exact ⟨k - 1, I - 1, l2, hk2, by have := gk.out; omega, by go_num, Lib.hid ⟨hP2, hK2.1.trans gP.out.1, hH2, gP.out.2.trans hF2⟩⟩
      case measure => simp [intOf]; omega
set_option maxHeartbeats 4000000 in
theorem hpop_any (R g n : Nat) (l : List Tm) (hl : l.length ≤ 5000) (hn : l.length = n + 1) (w : World) (h : Pl w R g l) (hh : HpFrom l 0 l.length) : Calls Try.prog 44 #[.iface 55 (.agg #[.pointer (some ⟨R, 0, none⟩)])] w fun en w' => ∃ t r, en = .returned (.iface 35 (.agg #[.int .i64 t.1, .int .i64 t.2])) ∧ Pops l r t ∧ Pl w' R g r ∧ Frm R g w w' := by
  obtain ⟨A, c, hc, _, hR, _⟩ := h.cell
  have hln := len_any R w A l.length c hc
  have hsw := swap_int R g l 0 n 0 (n : Int) rfl rfl (by omega) (by omega) w h
  have hdn := fun w' (h' : Pl w' R g (swp l 0 n)) => down_int R g 0 n (swp l 0 n) 0 (by rw [swp_len]; exact hl) (by rw [swp_len]; omega) (Nat.zero_le _) rfl w' h' (heap_swap hn (by rw [← hn]; exact hh))
  have hpp := fun (l' : List Tm) w' (hl' : l'.length = n + 1) (h' : Pl w' R g l') => mpop_any R g n l' hl' w' h' (tz l' n).1 (tz l' n).2 rfl
  have gk : Hid (∀ l', Kept (swp l 0 n) l' n → HpFrom l' 0 n → l'.length = n + 1 ∧ Pops l (l'.take n) (tz l' n)) := Lib.hid (fun l' hk h2 => ⟨by rw [hk.1.length_eq, swp_len]; exact hn, (pops_of hn (by rw [← hn]; exact hh) hk h2).2⟩)
  rw [hn] at hln hl
  have i1 : (0 : Int) ≤ n := by omega
  clear h hh hc hn
  go_enter Try.func44, Try.ntmps44
  go_wp2_with (first | (go_at_call 29; refine hln.mono ?_; rintro en w1 ⟨rfl, rfl⟩) | (go_at_call 65; refine hsw.mono ?_; rintro en w2 ⟨rfl, hP2, hF2⟩) | (go_at_call 46; refine (hdn _ hP2).mono ?_; rintro en w3 ⟨⟨b, rfl⟩, l3, hP3, hK3, hH3, hF3⟩; have gk3 := Lib.hid (gk.out l3 hK3 hH3)) | (go_at_call 66; refine (hpp l3 _ gk3.out.1 hP3).mono ?_; rintro en w4 ⟨rfl, hP4, hF4⟩))
  go_ret
  exact ⟨_, _, rfl, gk3.out.2, hP4, (hF2.trans hF3).trans hF4⟩
set_option maxHeartbeats 4000000 in
theorem next_any (R g n : Nat) (l : List Tm) (hl : l.length ≤ 5000) (hn : l.length = n + 1) (w : World) (h : Pl w R g l) (hh : HpFrom l 0 l.length) : Calls Try.prog 30 #[.agg #[.pointer (some ⟨R, 0, none⟩)]] w fun en w' => ∃ t r, en = .returned (.agg #[.int .i64 t.1, .int .i64 t.2]) ∧ Pops l r t ∧ Pl w' R g r ∧ Frm R g w w' := by
  obtain ⟨V, hV⟩ : ∃ V, V = (w.alloc (.cells #[.pointer (some ⟨R, 0, none⟩)] 55)).alloc (.cells #[.int .i64 0, .int .i64 0] 35) := ⟨_, rfl⟩
  have hB : Below w.heap.size w V := by rw [hV]; exact ((Below.refl w.heap.size w).alloc (Nat.le_refl _) _).alloc (by simp) _
  have hs : V.heap.size = w.heap.size + 2 := by rw [hV]; simp
  have hlt := h.cell
  have kr : Blk V (w.heap.size + 1) 35 #[.int .i64 0, .int .i64 0] := by rw [hV]; have := Blk.new (w.alloc (.cells #[.pointer (some ⟨R, 0, none⟩)] 55)) 35 #[.int .i64 0, .int .i64 0]; rwa [World.size_alloc] at this
  have kb : Blk V w.heap.size 55 #[.pointer (some ⟨R, 0, none⟩)] := by rw [hV]; exact (Blk.new w _ _).alloc _
  have hR : R < w.heap.size := by obtain ⟨_, _, _, _, hR, _⟩ := hlt; exact hR
  have hg : g < w.heap.size := by obtain ⟨c, cur, _, _, h3, _⟩ := h.row (by omega); exact h3.lt
  have hp := hpop_any R g n l hl hn V (h.below hB) hh
  have hta := assertT
  have fb : V.cell? ⟨w.heap.size, 0, none⟩ = some (.pointer (some ⟨R, 0, none⟩)) := by rw [kb.cell]; rfl
  clear hlt h hh hn kb
  go_enter Try.func30, Try.ntmps30
  go_wp2_with fail
  rw [← hV]
  refine hp.mono ?_
  rintro en w1 ⟨⟨a, b⟩, r, rfl, hpo, hP1, hF1⟩
  have kr1 := hF1.blk kr (by omega) (by omega)
  have c0 : w1.cell? ⟨w.heap.size + 1, 0, none⟩ = some (.int .i64 0) := by rw [kr1.cell]; rfl
  have c1 : w1.cell? ⟨w.heap.size + 1, 1, none⟩ = some (.int .i64 0) := by rw [kr1.cell]; rfl
  have z0 := kr1.frozen 0
  have z1 := kr1.frozen 1
  have l1 := kr1.lt
  have gF := Lib.hid ((Frm.of_below hB).trans hF1)
  clear hp hF1 hV
  go_wp2
  have kW := ((kr1.set_ 0 (.int .i64 a)).set_ 1 (.int .i64 b)).alloc (.cells #[.int .i64 a, .int .i64 b] 35)
  have d0 : ((((w1.setCell ⟨w.heap.size + 1, 0, none⟩ (.int .i64 a)).setCell ⟨w.heap.size + 1, 1, none⟩ (.int .i64 b)).alloc (.cells #[.int .i64 a, .int .i64 b] 35)).cell? ⟨w.heap.size + 1, 0, none⟩) = some (.int .i64 a) := by rw [kW.cell]; rfl
  have d1 : ((((w1.setCell ⟨w.heap.size + 1, 0, none⟩ (.int .i64 a)).setCell ⟨w.heap.size + 1, 1, none⟩ (.int .i64 b)).alloc (.cells #[.int .i64 a, .int .i64 b] 35)).cell? ⟨w.heap.size + 1, 1, none⟩) = some (.int .i64 b) := by rw [kW.cell]; rfl
  refine bodyPost_ret (v := .agg #[.int .i64 a, .int .i64 b]) (by simp [results, Try.results30, go_sem, d0, d1]) rfl ?_
  exact ⟨(a, b), r, rfl, hpo, ((hP1.far (p := ⟨w.heap.size + 1, 0, none⟩) (show R ≠ w.heap.size + 1 by omega) (show g ≠ w.heap.size + 1 by omega) _).far (p := ⟨w.heap.size + 1, 1, none⟩) (show R ≠ w.heap.size + 1 by omega) (show g ≠ w.heap.size + 1 by omega) _).below ((Below.refl _ _).alloc (Nat.le_refl _) _), ((gF.out.new_set (p := ⟨w.heap.size + 1, 0, none⟩) (Nat.le_succ _) _).new_set (p := ⟨w.heap.size + 1, 1, none⟩) (Nat.le_succ _) _).trans (Frm.of_below ((Below.refl _ _).alloc (Nat.le_refl _) _))⟩
end Go.Proofs.Ythageikchniahaa
