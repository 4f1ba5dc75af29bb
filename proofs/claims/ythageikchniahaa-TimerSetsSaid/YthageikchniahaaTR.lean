/- Timer: timers that are due: parted, and the reference's Due -/
import Derived.Test.YthageikchniahaaTP
namespace Go.Proofs.Ythageikchniahaa
open Go.ChangeShapes Go.WideShapes Go.ChangeAt Go.RowKit
set_option linter.unusedSimpArgs false
set_option linter.unusedVariables false

/-- Two rows that are apart. -/
def Apart (v v2 : Value) : Prop := ∀ k, v.ownBlock = some k → v2.ownBlock ≠ some k
theorem Apart.symm {v v2 : Value} (h : Apart v v2) : Apart v2 v := fun k h1 h2 => h k h2 h1
theorem Apart.nil (v : Value) : Apart (.slice none 0 0) v := fun k h => by simp [Value.ownBlock] at h
def DuePost (w : World) (a b : List Tm) (E : Int) (en : Ending) (w' : World) : Prop := ∃ A c A2 c2, en = .returned (.tuple #[.slice A a.length c, .slice A2 b.length c2, .int .i64 E]) ∧ w'.ownsRow w.heap.size 35 2 (.slice A a.length c) a.length (T2 a) ∧ w'.ownsRow w.heap.size 35 2 (.slice A2 b.length c2) b.length (T2 b) ∧ Apart (.slice A a.length c) (.slice A2 b.length c2) ∧ Below w.heap.size w w'
theorem duePost_none {w w' : World} {E : Int} (h : Below w.heap.size w w') : DuePost w [] [] E (.returned (.tuple #[.slice none 0 0, .slice none 0 0, .int .i64 E])) w' := ⟨none, 0, none, 0, rfl, World.ownsRow_nil _ _ _ _, World.ownsRow_nil _ _ _ _, Apart.nil _, h⟩
def dueE (l : List Tm) (now : Int) : Int := if chkE l ≠ 0 then chkE l else if now < 0 ∨ 2147483647 < now then 2 else 0
def dueA (l : List Tm) (now : Int) : List Tm := if dueE l now = 0 then l.filter (fun t => decide (t.1 ≤ now)) else []
def dueB (l : List Tm) (now : Int) : List Tm := if dueE l now = 0 then l.filter (fun t => !decide (t.1 ≤ now)) else []
theorem due_chk {l : List Tm} {now E : Int} (h0 : E ≠ 0) (h : chkE l = E) : dueE l now = E ∧ dueA l now = [] ∧ dueB l now = [] := by
  have e : dueE l now = E := by unfold dueE; rw [if_pos (by rw [h]; exact h0), h]
  exact ⟨e, by unfold dueA; rw [e, if_neg h0], by unfold dueB; rw [e, if_neg h0]⟩
theorem due_arg {l : List Tm} {now : Int} (h : chkE l = 0) (h1 : now < 0 ∨ 2147483647 < now) : dueE l now = 2 ∧ dueA l now = [] ∧ dueB l now = [] := by
  have e : dueE l now = 2 := by unfold dueE; rw [if_neg (by simp [h]), if_pos h1]
  exact ⟨e, by unfold dueA; rw [e]; rfl, by unfold dueB; rw [e]; rfl⟩
theorem due_ok {l : List Tm} {now : Int} (h : chkE l = 0) (h1 : ¬ (now < 0 ∨ 2147483647 < now)) : dueE l now = 0 ∧ dueA l now = l.filter (fun t => decide (t.1 ≤ now)) ∧ dueB l now = l.filter (fun t => !decide (t.1 ≤ now)) := by
  have e : dueE l now = 0 := by unfold dueE; rw [if_neg (by simp [h]), if_neg h1]
  exact ⟨e, by unfold dueA; rw [if_pos e], by unfold dueB; rw [if_pos e]⟩
theorem fresh_apart {W : World} {o : Obj} {base size n : Nat} {e : TypeId} {v v2 v4 : Value} {xs : List Value} (ha : Apart v v2) (h2 : W.ownsRow base e size v2 n xs) (hor : v4.ownBlock = v.ownBlock ∨ v4.ownBlock = some (W.alloc o).heap.size) : Apart v4 v2 := fun k hk h => by
  rcases hor with e | e
  · exact ha k (by rw [← e]; exact hk) h
  · rw [e] at hk
    injection hk with hk
    have := own_lt h2 h
    rw [World.size_alloc] at hk
    omega
/-- Parting, under way. -/
def PaI (base : Nat) (wr : World) (d q : List Tm) (vd vq : Value) (md mq : Nat) : Prop := Ow wr base vd md d ∧ Ow wr base vq mq q ∧ Apart vd vq
theorem PaI.push1 {base md mq : Nat} {w W w4 : World} {d q : List Tm} {vd vq v4 : Value} {o : Obj} {t : Tm} (h : PaI base W d q vd vq md mq) (hb : Below base w W) (hB : base ≤ W.heap.size) (ho : w4.ownsRow base 35 2 v4 (md + 1) (T2 d ++ [.int .i64 t.1, .int .i64 t.2])) (hg : (W.alloc o).grownBy w4 vd.ownBlock) (hor : v4.ownBlock = vd.ownBlock ∨ v4.ownBlock = some (W.alloc o).heap.size) :
    PaI base w4 (d ++ [t]) q v4 vq (md + 1) mq ∧ Below base w w4 ∧ base ≤ w4.heap.size := by
  obtain ⟨h1, h2, h3⟩ := h
  obtain ⟨k1, k2, k3⟩ := h1.push hb hB ho hg
  exact ⟨⟨k1, ⟨h2.1, own_grown (own_below h2.2 ((Below.refl W.heap.size W).alloc (Nat.le_refl _) o)) hg (fun k hk => fun e => h3 k e hk)⟩, fresh_apart h3 h2.2 hor⟩, k2, k3⟩
theorem PaI.symm {base md mq : Nat} {w : World} {d q : List Tm} {vd vq : Value} (h : PaI base w d q vd vq md mq) : PaI base w q d vq vd mq md := ⟨h.2.1, h.1, h.2.2.symm⟩
theorem filter_take {l : List Tm} {k : Nat} (h : k < l.length) (p : Tm → Bool) : (l.take (k + 1)).filter p = if p (tz l k) = true then (l.take k).filter p ++ [tz l k] else (l.take k).filter p := by
  rw [take_one h, List.filter_append]
  by_cases hp : p (tz l k) = true <;> simp [hp]
set_option maxRecDepth 100000 in
set_option maxHeartbeats 16000000 in
theorem parted_any (A : Option Addr) (n c : Nat) (l : List Tm) (now : Int) (hm : n ≤ 5000) (w : World) (h : Tms w w.heap.size A n l) : Calls Try.prog 39 #[.slice A n c, .int .i64 now] w fun en w' => ∃ A c A2 c2 m m2, en = .returned (.tuple #[.slice A m c, .slice A2 m2 c2]) ∧ PaI w.heap.size w' (l.filter (fun t => decide (t.1 ≤ now))) (l.filter (fun t => !decide (t.1 ≤ now))) (.slice A m c) (.slice A2 m2 c2) m m2 ∧ Below w.heap.size w w' := by
  have gl := Lib.hid h.1
  obtain ⟨i0, hi0, hz0, hz1, hz2⟩ := info_parts infoT
  have hat : Hid (∀ k, k < n → ∃ ad, A = some ad ∧ ad.block < w.heap.size ∧ ∀ w', Below w.heap.size w w' → w'.cell? (ad.add (k * 2)) = some (.int .i64 (tz l k).1) ∧ w'.cell? ⟨(ad.add (k * 2)).block, (ad.add (k * 2)).off + 1, none⟩ = some (.int .i64 (tz l k).2)) := Lib.hid (fun k hk => h.at_ hk)
  have g0 : Hid (PaI w.heap.size w ((l.take 0).filter (fun t => decide (t.1 ≤ now))) ((l.take 0).filter (fun t => !decide (t.1 ≤ now))) (.slice none 0 0) (.slice none 0 0) 0 0 ∧ Below w.heap.size w w ∧ w.heap.size ≤ w.heap.size) := Lib.hid ⟨⟨⟨rfl, World.ownsRow_nil _ _ _ _⟩, ⟨rfl, World.ownsRow_nil _ _ _ _⟩, Apart.nil _⟩, Below.refl _ _, Nat.le_refl _⟩
  clear h
  go_enter Try.func39, Try.ntmps39
  go_wp2
  go_loopw [6, 7, 8] (fun vd vq t wr => ∃ (k m m2 co c2 : Nat) (Ad Aq : Option Addr), k ≤ n ∧ m ≤ k ∧ m2 ≤ k ∧ vd = .slice Ad m co ∧ vq = .slice Aq m2 c2 ∧ t = .int .i64 (k : Int) ∧ Hid (PaI w.heap.size wr ((l.take k).filter (fun t => decide (t.1 ≤ now))) ((l.take k).filter (fun t => !decide (t.1 ≤ now))) (.slice Ad m co) (.slice Aq m2 c2) m m2 ∧ Below w.heap.size w wr ∧ w.heap.size ≤ wr.heap.size)) (fun _ _ t _ => n - (intOf t).toNat)
  case atStart => exact ⟨0, 0, 0, 0, 0, none, none, Nat.zero_le _, Nat.zero_le _, Nat.zero_le _, rfl, rfl, rfl, Lib.hid ⟨g0.out.1, Below.refl _ _, Nat.le_refl _⟩⟩
  case round =>
    clear g0
    obtain ⟨k, m, m2, co, c2, Ad, Aq, hk, hmk, hmk2, rfl, rfl, rfl, gI⟩ := hrel
    by_cases hlt : k < n
    · obtain ⟨hP, hB, hBs⟩ := gI.out
      obtain ⟨ad, rfl, hab, hc⟩ := hat.out k hlt
      obtain ⟨c0, c1⟩ := hc wr hB
      have i1 : (0 : Int) ≤ k := by omega
      have i2 : (k : Int) < n := by omega
      obtain ⟨x, y, hxy⟩ : ∃ x y, tz l k = (x, y) := ⟨_, _, rfl⟩
      rw [hxy] at c0 c1
      have hn1 : m + 1 ≤ maxLen := by unfold maxLen; omega
      have hn2 : (m + 1) * 16 ≤ 140737488355328 := by omega
      have hn3 : m2 + 1 ≤ maxLen := by unfold maxLen; omega
      have hn4 : (m2 + 1) * 16 ≤ 140737488355328 := by omega
      have gf : Hid (∀ p : Tm → Bool, (l.take (k + 1)).filter p = if p (x, y) = true then (l.take k).filter p ++ [(x, y)] else (l.take k).filter p) := Lib.hid (fun p => by rw [filter_take (by rw [gl.out]; exact hlt), hxy])
      have gB := Lib.hid hB
      have gP := Lib.hid hP
      have hd := hP.1.2
      have hq := hP.2.1.2
      clear hc hxy hB hP gI
      by_cases hle : x ≤ now
      · have e0 : decide (x ≤ now) = true := decide_eq_true hle
        have ge : Hid ((l.take (k + 1)).filter (fun t => decide (t.1 ≤ now)) = (l.take k).filter (fun t => decide (t.1 ≤ now)) ++ [(x, y)] ∧ (l.take (k + 1)).filter (fun t => !decide (t.1 ≤ now)) = (l.take k).filter (fun t => !decide (t.1 ≤ now))) := Lib.hid ⟨by rw [gf.out, if_pos (decide_eq_true hle)], by rw [gf.out, if_neg (by simp [hle])]⟩
        clear hle
        go_wp2_with (at_builtin; refine wpList_append_any _ rfl (.tmp 22) (.tmp 27) 22 rfl w.heap.size 35 i0 _ 2 16 Try.underlying22 hi0 hz0 hz1 hz2 rfl (by omega) (.slice Ad m co) m _ rfl (own_below hd ((Below.refl wr.heap.size wr).alloc (Nat.le_refl _) _)) (wr.heap.size + 1) _ 1 1 [.int .i64 x, .int .i64 y] rfl (reads_one wr [.int .i64 x, .int .i64 y] 35 2 rfl) (two_one (x, y)) hn1 hn2 (by simp; omega) ?_; intro v4 w4 ho4 hg4 hor4; obtain ⟨A4, c4, rfl, hc4, _⟩ := own_slice ho4; have hp4 := Lib.hid (gP.out.push1 (t := (x, y)) gB.out hBs ho4 hg4 hor4))
        go_roundw
        case rel => exact ⟨k + 1, m + 1, m2, c4, c2, A4, Aq, by omega, by omega, by omega, rfl, rfl, by go_num, Lib.hid (by rw [ge.out.1, ge.out.2]; exact hp4.out)⟩
        case measure => simp [intOf]; omega
      · have e0 : decide (x ≤ now) = false := decide_eq_false hle
        have ge : Hid ((l.take (k + 1)).filter (fun t => decide (t.1 ≤ now)) = (l.take k).filter (fun t => decide (t.1 ≤ now)) ∧ (l.take (k + 1)).filter (fun t => !decide (t.1 ≤ now)) = (l.take k).filter (fun t => !decide (t.1 ≤ now)) ++ [(x, y)]) := Lib.hid ⟨by rw [gf.out, if_neg (by simp [hle])], by rw [gf.out, if_pos (by simp [hle])]⟩
        clear hle
        go_wp2_with (at_builtin; refine wpList_append_any _ rfl (.tmp 29) (.tmp 34) 22 rfl w.heap.size 35 i0 _ 2 16 Try.underlying22 hi0 hz0 hz1 hz2 rfl (by omega) (.slice Aq m2 c2) m2 _ rfl (own_below hq ((Below.refl wr.heap.size wr).alloc (Nat.le_refl _) _)) (wr.heap.size + 1) _ 1 1 [.int .i64 x, .int .i64 y] rfl (reads_one wr [.int .i64 x, .int .i64 y] 35 2 rfl) (two_one (x, y)) hn3 hn4 (by simp; omega) ?_; intro v4 w4 ho4 hg4 hor4; obtain ⟨A4, c4, rfl, hc4, _⟩ := own_slice ho4; have hp4 := Lib.hid (gP.out.symm.push1 (t := (x, y)) gB.out hBs ho4 hg4 hor4))
        go_roundw
        case rel => exact ⟨k + 1, m, m2 + 1, co, c4, Ad, A4, by omega, by omega, by omega, rfl, rfl, by go_num, Lib.hid (by rw [ge.out.1, ge.out.2]; exact ⟨hp4.out.1.symm, hp4.out.2⟩)⟩
        case measure => simp [intOf]; omega
    · obtain rfl : k = n := by omega
      clear hat
      go_wp2
      go_ret2
      obtain ⟨hP, hB, _⟩ := gI.out
      rw [List.take_of_length_le (by rw [gl.out]; exact Nat.le_refl _)] at hP
      exact ⟨Ad, co, Aq, c2, m, m2, rfl, hP, hB⟩
set_option maxRecDepth 100000 in
set_option maxHeartbeats 16000000 in
theorem rdue_any (A : Option Addr) (n c : Nat) (l : List Tm) (now : Int) (hm : n ≤ 5000) (w : World) (h : Tms w w.heap.size A n l) : Calls Try.prog 22 #[.slice A n c, .int .i64 now] w (DuePost w (dueA l now) (dueB l now) (dueE l now)) := by
  have gl := Lib.hid h.1
  rcases chk_vals l with hE | hE | hE
  rotate_left
  · have hck := rcheck_any A n c l w h (by unfold maxLen; omega) 4 hE
    have gE := Lib.hid (due_chk (now := now) (by decide) hE)
    clear h hE
    go_enter Try.func22, Try.ntmps22
    go_wp2_with fail
    refine hck.mono ?_
    rintro en w1 ⟨rfl, hb1⟩
    clear hck
    go_wp2
    go_ret3
    rw [gE.out.1, gE.out.2.1, gE.out.2.2]
    exact duePost_none hb1
  · have hck := rcheck_any A n c l w h (by unfold maxLen; omega) 8 hE
    have gE := Lib.hid (due_chk (now := now) (by decide) hE)
    clear h hE
    go_enter Try.func22, Try.ntmps22
    go_wp2_with fail
    refine hck.mono ?_
    rintro en w1 ⟨rfl, hb1⟩
    clear hck
    go_wp2
    go_ret3
    rw [gE.out.1, gE.out.2.1, gE.out.2.2]
    exact duePost_none hb1
  have hck := rcheck_any A n c l w h (by unfold maxLen; omega) 0 hE
  have gT : Hid (∀ w', Below w.heap.size w w' → Tms w' w'.heap.size A n l) := Lib.hid (fun w' hb => h.go hb hb.size)
  have gC := Lib.hid hE
  have gargs : Hid (now < 0 ∨ 2147483647 < now → dueE l now = 2 ∧ dueA l now = [] ∧ dueB l now = []) := Lib.hid (fun h1 => due_arg hE h1)
  clear h hE
  by_cases a1 : now < 0
  · have e1 : decide (now < 0) = true := decide_eq_true a1
    have gE := Lib.hid (gargs.out (.inl a1))
    clear a1
    go_enter Try.func22, Try.ntmps22
    go_wp2_with fail
    refine hck.mono ?_
    rintro en w1 ⟨rfl, hb1⟩
    clear hck
    go_wp2
    go_ret3
    rw [gE.out.1, gE.out.2.1, gE.out.2.2]
    exact duePost_none hb1
  have e1 : decide (now < 0) = false := decide_eq_false a1
  by_cases a2 : 2147483647 < now
  · have e2 : decide (2147483647 < now) = true := decide_eq_true a2
    have gE := Lib.hid (gargs.out (.inr a2))
    clear a1 a2
    go_enter Try.func22, Try.ntmps22
    go_wp2_with fail
    refine hck.mono ?_
    rintro en w1 ⟨rfl, hb1⟩
    clear hck
    go_wp2
    go_ret3
    rw [gE.out.1, gE.out.2.1, gE.out.2.2]
    exact duePost_none hb1
  have e2 : decide (2147483647 < now) = false := decide_eq_false a2
  have gE := Lib.hid (due_ok (now := now) gC.out (by omega))
  clear a1 a2 gargs
  go_enter Try.func22, Try.ntmps22
  go_wp2_with fail
  refine hck.mono ?_
  rintro en w1 ⟨rfl, hb1⟩
  clear hck
  go_wp2_with fail
  refine (parted_any A n c l now hm w1 (gT.out w1 hb1)).mono ?_
  rintro en w2 ⟨A2, c2, A3, c3, m, m2, rfl, hP, hb2⟩
  go_wp2
  go_ret3
  rw [gE.out.1, gE.out.2.1, gE.out.2.2]
  obtain ⟨⟨l1, o1⟩, ⟨l2, o2⟩, ha⟩ := hP
  exact ⟨A2, c2, A3, c3, by rw [l1, l2]; rfl, by rw [l1]; exact own_base_le o1 hb1.size, by rw [l2]; exact own_base_le o2 hb1.size, by rw [l1, l2]; exact ha, hb1.trans (hb2.mono hb1.size)⟩
end Go.Proofs.Ythageikchniahaa
