/- Timer: timers without a Number: the program's and the reference's Off -/
import Derived.Test.YthageikchniahaaTT
namespace Go.Proofs.Ythageikchniahaa
open Go.ChangeShapes Go.WideShapes Go.ChangeAt Go.RowKit
set_option linter.unusedSimpArgs false
set_option linter.unusedVariables false

def offE (l : List Tm) (N : Int) : Int := if chkE l ≠ 0 then chkE l else if N < 0 ∨ 1048575 < N then 2 else 0
def offO (l : List Tm) (N : Int) : List Tm := if offE l N = 0 then offN N l else []
theorem off_chk {l : List Tm} {N E : Int} (h0 : E ≠ 0) (h : chkE l = E) : offE l N = E ∧ offO l N = [] := by
  have e : offE l N = E := by unfold offE; rw [if_pos (by rw [h]; exact h0), h]
  exact ⟨e, by unfold offO; rw [e, if_neg h0]⟩
theorem off_arg {l : List Tm} {N : Int} (h : chkE l = 0) (h1 : N < 0 ∨ 1048575 < N) : offE l N = 2 ∧ offO l N = [] := by
  have e : offE l N = 2 := by unfold offE; rw [if_neg (by simp [h]), if_pos h1]
  exact ⟨e, by unfold offO; rw [e]; rfl⟩
theorem off_ok {l : List Tm} {N : Int} (h : chkE l = 0) (h1 : ¬ (N < 0 ∨ 1048575 < N)) : offE l N = 0 ∧ offO l N = offN N l := by
  have e : offE l N = 0 := by unfold offE; rw [if_neg (by simp [h]), if_neg h1]
  exact ⟨e, by unfold offO; rw [if_pos e]⟩
set_option maxRecDepth 100000 in
set_option maxHeartbeats 16000000 in
theorem off_any (A : Option Addr) (n c : Nat) (l : List Tm) (N : Int) (hm : n ≤ 5000) (w : World) (h : Tms w w.heap.size A n l) : Calls Try.prog 19 #[.slice A n c, .int .i64 N] w (RowPost w (offO l N) (offE l N)) := by
  have gl := Lib.hid h.1
  obtain ⟨V, hV⟩ : ∃ V, V = w.alloc (.cells #[.int .i64 N] 3) := ⟨_, rfl⟩
  have hB0 : Below w.heap.size w V := by rw [hV]; exact (Below.refl _ _).alloc (Nat.le_refl _) _
  have kb : Blk V w.heap.size 3 #[.int .i64 N] := by rw [hV]; exact Blk.new w _ _
  have hs0 : V.heap.size = w.heap.size + 1 := by rw [hV]; simp
  have gc : Hid (∀ v', Below V.heap.size V v' → v'.cell? ⟨w.heap.size, 0, none⟩ = some (.int .i64 N)) := Lib.hid (fun v' hb => by rw [(kb.below hb kb.lt).cell]; rfl)
  have gT : Hid (∀ v', Below V.heap.size V v' → Tms v' v'.heap.size A n l) := Lib.hid (fun v' hb => h.go (hB0.trans (hb.mono hB0.size)) (Nat.le_trans hB0.size hb.size))
  have hTV := h.go hB0 hB0.size
  rcases chk_vals l with hE | hE | hE
  rotate_left
  · have hck := check_any A n c l V hTV (by unfold maxLen; omega) 4 hE
    have gE := Lib.hid (off_chk (N := N) (by decide) hE)
    clear hTV gT hE h kb
    go_enter Try.func19, Try.ntmps19
    go_wp2_with fail
    rw [← hV]
    refine hck.mono ?_
    rintro en w1 ⟨rfl, hb1⟩
    have c0 := gc.out w1 hb1
    clear hck
    clear hV
    go_wp2
    go_ret2
    rw [gE.out.1, gE.out.2]
    exact rowPost_none (hB0.trans (hb1.mono hB0.size))
  · have hck := check_any A n c l V hTV (by unfold maxLen; omega) 8 hE
    have gE := Lib.hid (off_chk (N := N) (by decide) hE)
    clear hTV gT hE h kb
    go_enter Try.func19, Try.ntmps19
    go_wp2_with fail
    rw [← hV]
    refine hck.mono ?_
    rintro en w1 ⟨rfl, hb1⟩
    have c0 := gc.out w1 hb1
    clear hck
    clear hV
    go_wp2
    go_ret2
    rw [gE.out.1, gE.out.2]
    exact rowPost_none (hB0.trans (hb1.mono hB0.size))
  have hck := check_any A n c l V hTV (by unfold maxLen; omega) 0 hE
  have gC := Lib.hid hE
  have gargs : Hid (N < 0 ∨ 1048575 < N → offE l N = 2 ∧ offO l N = []) := Lib.hid (fun h1 => off_arg hE h1)
  clear hTV hE kb
  by_cases a1 : N < 0
  · have e1 : decide (N < 0) = true := by first | exact decide_eq_true a1 | exact decide_eq_true a2
    have gE := Lib.hid (gargs.out (by omega))
    clear a1 h
    go_enter Try.func19, Try.ntmps19
    go_wp2_with fail
    rw [← hV]
    refine hck.mono ?_
    rintro en w1 ⟨rfl, hb1⟩
    have c0 := gc.out w1 hb1
    clear hck
    clear hV
    go_wp2
    go_ret2
    rw [gE.out.1, gE.out.2]
    exact rowPost_none (hB0.trans (hb1.mono hB0.size))
  have e1 : decide (N < 0) = false := decide_eq_false a1
  by_cases a2 : 1048575 < N
  · have e2 : decide (1048575 < N) = true := by first | exact decide_eq_true a1 | exact decide_eq_true a2
    have gE := Lib.hid (gargs.out (by omega))
    clear a1 a2 h
    go_enter Try.func19, Try.ntmps19
    go_wp2_with fail
    rw [← hV]
    refine hck.mono ?_
    rintro en w1 ⟨rfl, hb1⟩
    have c0 := gc.out w1 hb1
    clear hck
    clear hV
    go_wp2
    go_ret2
    rw [gE.out.1, gE.out.2]
    exact rowPost_none (hB0.trans (hb1.mono hB0.size))
  have e2 : decide (1048575 < N) = false := decide_eq_false a2
  have gE := Lib.hid (off_ok (N := N) gC.out (by omega))
  clear a1 a2 gargs
  go_enter Try.func19, Try.ntmps19
  go_wp2_with fail
  rw [← hV]
  refine hck.mono ?_
  rintro en w1 ⟨rfl, hb1⟩
  have c0 := gc.out w1 hb1
  clear hck
  clear hV
  have hmf : ∀ (fn : Fn) (first cap : Array Value) (w : World), (Instr.makeFunc fn first cap).run Try.prog w = .ok (.func fn first cap) w := fun _ _ _ _ => rfl
  go_wp2_with fail
  refine (clone_any A n c l hm w1 (gT.out w1 hb1)).mono ?_
  rintro en w2 ⟨⟨A2, c2, rfl, ho2⟩, hb2⟩
  have hs1 := hb1.size
  have hs2 := hb2.size
  have hB2 : Below V.heap.size V w2 := hb1.trans (hb2.mono hs1)
  have hd := delf_any w1.heap.size n c2 w.heap.size A2 l N hm (by omega) w2 hs2 ⟨gl.out, ho2⟩ (gc.out w2 hB2)
  clear c0
  go_wp2_with fail
  refine hd.mono ?_
  rintro en w3 ⟨A3, c3, m3, rfl, ⟨hl3, ho3⟩, hb3⟩
  obtain rfl := hl3
  clear hd
  go_wp2
  go_ret2
  rw [gE.out.1, gE.out.2]
  exact ⟨A3, c3, rfl, own_base_le ho3 (by omega), (hB0.trans (hB2.mono hB0.size)).trans (hb3.mono (by omega))⟩
set_option maxRecDepth 100000 in
set_option maxHeartbeats 16000000 in
theorem roff_any (A : Option Addr) (n c : Nat) (l : List Tm) (N : Int) (hm : n ≤ 5000) (w : World) (h : Tms w w.heap.size A n l) : Calls Try.prog 23 #[.slice A n c, .int .i64 N] w (RowPost w (offO l N) (offE l N)) := by
  have gl := Lib.hid h.1
  obtain ⟨V, hV⟩ : ∃ V, V = w := ⟨_, rfl⟩
  have hB0 : Below w.heap.size w V := by rw [hV]; exact Below.refl _ _
  subst hV
  have gT : Hid (∀ v', Below V.heap.size V v' → Tms v' v'.heap.size A n l) := Lib.hid (fun v' hb => h.go (hB0.trans (hb.mono hB0.size)) (Nat.le_trans hB0.size hb.size))
  have hTV := h.go hB0 hB0.size
  rcases chk_vals l with hE | hE | hE
  rotate_left
  · have hck := rcheck_any A n c l V hTV (by unfold maxLen; omega) 4 hE
    have gE := Lib.hid (off_chk (N := N) (by decide) hE)
    clear hTV gT hE h
    go_enter Try.func23, Try.ntmps23
    go_wp2_with fail
    refine hck.mono ?_
    rintro en w1 ⟨rfl, hb1⟩
    clear hck
    go_wp2
    go_ret2
    rw [gE.out.1, gE.out.2]
    exact rowPost_none (hB0.trans (hb1.mono hB0.size))
  · have hck := rcheck_any A n c l V hTV (by unfold maxLen; omega) 8 hE
    have gE := Lib.hid (off_chk (N := N) (by decide) hE)
    clear hTV gT hE h
    go_enter Try.func23, Try.ntmps23
    go_wp2_with fail
    refine hck.mono ?_
    rintro en w1 ⟨rfl, hb1⟩
    clear hck
    go_wp2
    go_ret2
    rw [gE.out.1, gE.out.2]
    exact rowPost_none (hB0.trans (hb1.mono hB0.size))
  have hck := rcheck_any A n c l V hTV (by unfold maxLen; omega) 0 hE
  have gC := Lib.hid hE
  have gargs : Hid (N < 0 ∨ 1048575 < N → offE l N = 2 ∧ offO l N = []) := Lib.hid (fun h1 => off_arg hE h1)
  clear hTV hE
  by_cases a1 : N < 0
  · have e1 : decide (N < 0) = true := by first | exact decide_eq_true a1 | exact decide_eq_true a2
    have gE := Lib.hid (gargs.out (by omega))
    clear a1 h
    go_enter Try.func23, Try.ntmps23
    go_wp2_with fail
    refine hck.mono ?_
    rintro en w1 ⟨rfl, hb1⟩
    clear hck
    go_wp2
    go_ret2
    rw [gE.out.1, gE.out.2]
    exact rowPost_none (hB0.trans (hb1.mono hB0.size))
  have e1 : decide (N < 0) = false := decide_eq_false a1
  by_cases a2 : 1048575 < N
  · have e2 : decide (1048575 < N) = true := by first | exact decide_eq_true a1 | exact decide_eq_true a2
    have gE := Lib.hid (gargs.out (by omega))
    clear a1 a2 h
    go_enter Try.func23, Try.ntmps23
    go_wp2_with fail
    refine hck.mono ?_
    rintro en w1 ⟨rfl, hb1⟩
    clear hck
    go_wp2
    go_ret2
    rw [gE.out.1, gE.out.2]
    exact rowPost_none (hB0.trans (hb1.mono hB0.size))
  have e2 : decide (1048575 < N) = false := decide_eq_false a2
  have gE := Lib.hid (off_ok (N := N) gC.out (by omega))
  clear a1 a2 gargs
  go_enter Try.func23, Try.ntmps23
  go_wp2_with fail
  refine hck.mono ?_
  rintro en w1 ⟨rfl, hb1⟩
  clear hck
  have hat : Hid (∀ k, k < n → ∃ ad, A = some ad ∧ ad.block < V.heap.size ∧ ∀ w', Below V.heap.size V w' → w'.cell? (ad.add (k * 2)) = some (.int .i64 (tz l k).1) ∧ w'.cell? ⟨(ad.add (k * 2)).block, (ad.add (k * 2)).off + 1, none⟩ = some (.int .i64 (tz l k).2)) := Lib.hid (fun k hk => h.at_ hk)
  have gO0 : Hid (Ow w1 V.heap.size (.slice none 0 0) 0 (offN N (l.take 0)) ∧ Below V.heap.size V w1 ∧ V.heap.size ≤ w1.heap.size) := Lib.hid ⟨⟨rfl, World.ownsRow_nil _ _ _ _⟩, hb1, hb1.size⟩
  obtain ⟨i0, hi0, hz0, hz1, hz2⟩ := info_parts infoT
  clear hb1 h
  go_wp2
  go_loopw [7, 8] (fun v t wr => ∃ (k m co : Nat) (Ad : Option Addr), k ≤ n ∧ m ≤ k ∧ v = .slice Ad m co ∧ t = .int .i64 (k : Int) ∧ Hid (Ow wr V.heap.size (.slice Ad m co) m (offN N (l.take k)) ∧ Below V.heap.size V wr ∧ V.heap.size ≤ wr.heap.size)) (fun _ t _ => n - (intOf t).toNat)
  case atStart => exact ⟨0, 0, 0, none, Nat.zero_le _, Nat.zero_le _, rfl, rfl, gO0⟩
  case round =>
    clear gO0
    obtain ⟨k, m, co, Ad, hk, hmk, rfl, rfl, gI⟩ := hrel
    by_cases hlt : k < n
    · obtain ⟨hO, hB, hBs⟩ := gI.out
      obtain ⟨ad, rfl, hab, hc⟩ := hat.out k hlt
      obtain ⟨c0, c1⟩ := hc wr hB
      have i1 : (0 : Int) ≤ k := by omega
      have i2 : (k : Int) < n := by omega
      obtain ⟨x, y, hxy⟩ : ∃ x y, tz l k = (x, y) := ⟨_, _, rfl⟩
      rw [hxy] at c0 c1
      have hn1 : m + 1 ≤ maxLen := by unfold maxLen; omega
      have hn2 : (m + 1) * 16 ≤ 140737488355328 := by omega
      obtain ⟨Q, hQ⟩ : ∃ Q, (y == N) = Q := ⟨_, rfl⟩
      have hne : (y != N) = !Q := by rw [← hQ]; rfl
      have gf : Hid (offN N (l.take (k + 1)) = if Q = true then offN N (l.take k) else offN N (l.take k) ++ [(x, y)]) := Lib.hid (by rw [offN_take (by rw [gl.out]; exact hlt), hxy, hQ])
      have gO := Lib.hid hO
      have gB := Lib.hid hB
      have ho := hO.2
      clear hc hxy hQ hO hB gI
      cases Q with
      | true =>
        clear ho
        go_wp2
        go_roundw
        case rel => exact ⟨k + 1, m, co, Ad, by omega, by omega, rfl, by go_num, Lib.hid ⟨by rw [gf.out, if_pos rfl]; exact gO.out, gB.out, hBs⟩⟩
        case measure => simp [intOf]; omega
      | false =>
        go_wp2_with (at_builtin; refine wpList_append_any _ rfl (.tmp 33) (.tmp 38) 22 rfl V.heap.size 35 i0 _ 2 16 Try.underlying22 hi0 hz0 hz1 hz2 rfl (by omega) (.slice Ad m co) m _ rfl (own_below ho ((Below.refl wr.heap.size wr).alloc (Nat.le_refl _) _)) (wr.heap.size + 1) _ 1 1 [.int .i64 x, .int .i64 y] rfl (reads_one wr [.int .i64 x, .int .i64 y] 35 2 rfl) (two_one (x, y)) hn1 hn2 (by simp; omega) ?_; intro v4 w4 ho4 hg4 hor4; obtain ⟨A4, c4, rfl, hc4, _⟩ := own_slice ho4; have hp4 := Lib.hid (gO.out.push (t := (x, y)) gB.out hBs ho4 hg4))
        go_roundw
        case rel => exact ⟨k + 1, m + 1, c4, A4, by omega, by omega, rfl, by go_num, Lib.hid (by rw [gf.out, if_neg (by simp)]; exact hp4.out)⟩
        case measure => simp [intOf]; omega
    · obtain rfl : k = n := by omega
      clear hat
      go_wp2
      go_ret2
      obtain ⟨hO, hB, _⟩ := gI.out
      rw [List.take_of_length_le (by rw [gl.out]; exact Nat.le_refl _)] at hO
      rw [gE.out.1, gE.out.2]
      exact ⟨Ad, co, by rw [hO.1]; rfl, by rw [hO.1]; exact hO.2, hB⟩
end Go.Proofs.Ythageikchniahaa
