/- Timer: timers that are due: the program's Due -/
import Derived.Test.YthageikchniahaaTR
import Derived.Handy
namespace Go.Proofs.Ythageikchniahaa
open Go.ChangeShapes Go.WideShapes Go.ChangeAt Go.RowKit
set_option linter.unusedSimpArgs false
set_option linter.unusedVariables false

/-- A heap under way, and two rows. -/
def DI (now : Int) (w wr : World) (l d q r : List Tm) (R g B : Nat) (vd vq : Value) (md mq : Nat) : Prop := d.length = md ∧ q.length = mq ∧ Row w wr R g B vd d ∧ Row w wr R g B vq q ∧ Apart vd vq ∧ Und w wr R g B r ∧ DueP now l d q r
theorem DI.boxed {now : Int} {w wr : World} {l d q r : List Tm} {R g B md mq : Nat} {vd vq : Value} (h : DI now w wr l d q r R g B vd vq md mq) : DI now w (wr.alloc (.cells #[.pointer (some ⟨R, 0, none⟩)] 55)) l d q r R g wr.heap.size vd vq md mq := by
  obtain ⟨h1, h2, h3, h4, h5, h6, h7⟩ := h
  exact ⟨h1, h2, h3.box _, h4.box _, h5, h6.box, h7⟩
theorem DI.push1 {now : Int} {w W w4 : World} {l d q r : List Tm} {R g B md mq : Nat} {vd vq v4 : Value} {o : Obj} {t : Tm} (h1 : d.length = md) (h2 : q.length = mq) (h3 : Row w W R g B vd d) (h4 : Row w W R g B vq q) (h5 : Apart vd vq) (h6 : Und w W R g B r) (h7 : DueP now l (d ++ [t]) q r)
    (ho : w4.ownsRow w.heap.size 35 2 v4 (md + 1) (T2 d ++ [.int .i64 t.1, .int .i64 t.2])) (hg : (W.alloc o).grownBy w4 vd.ownBlock) (hor : v4.ownBlock = vd.ownBlock ∨ v4.ownBlock = some (W.alloc o).heap.size) : DI now w w4 l (d ++ [t]) q r R g B v4 vq (md + 1) mq :=
  ⟨by rw [List.length_append, h1]; rfl, h2, h3.pushed h6 (by rw [h1]; exact ho) hor, h4.grown hg (fun k hk e => h5 k e hk), fresh_apart h5 h4.1 hor, h6.grown h3 hg, h7⟩
theorem DI.push2 {now : Int} {w W w4 : World} {l d q r : List Tm} {R g B md mq : Nat} {vd vq v4 : Value} {o : Obj} {t : Tm} (h1 : d.length = md) (h2 : q.length = mq) (h3 : Row w W R g B vd d) (h4 : Row w W R g B vq q) (h5 : Apart vd vq) (h6 : Und w W R g B r) (h7 : DueP now l d (q ++ [t]) r)
    (ho : w4.ownsRow w.heap.size 35 2 v4 (mq + 1) (T2 q ++ [.int .i64 t.1, .int .i64 t.2])) (hg : (W.alloc o).grownBy w4 vq.ownBlock) (hor : v4.ownBlock = vq.ownBlock ∨ v4.ownBlock = some (W.alloc o).heap.size) : DI now w w4 l d (q ++ [t]) r R g B vd v4 md (mq + 1) :=
  ⟨h1, by rw [List.length_append, h2]; rfl, h3.grown hg (fun k hk e => h5 k hk e), h4.pushed h6 (by rw [h2]; exact ho) hor, (fresh_apart h5.symm h3.1 hor).symm, h6.grown h4 hg, h7⟩
theorem dueP_len {now : Int} {l d q r : List Tm} (h : DueP now l d q r) : d.length + r.length ≤ l.length ∧ q.length + r.length ≤ l.length := by
  obtain ⟨ps, h1, _, _, h5, h6⟩ := h
  have e := h1.length_eq
  rw [List.length_append] at e
  have a := List.length_filter_le (fun t => decide (t.1 ≤ now)) ps
  have b := List.length_filter_le (fun t => !decide (t.1 ≤ now)) ps
  rw [← h5] at a
  rw [← h6] at b
  omega
set_option maxRecDepth 100000 in
set_option maxHeartbeats 16000000 in
theorem due_any (A : Option Addr) (n c : Nat) (l : List Tm) (now : Int) (hm : n ≤ 5000) (w : World) (h : Tms w w.heap.size A n l) : Calls Try.prog 14 #[.slice A n c, .int .i64 now] w (DuePost w (dueA l now) (dueB l now) (dueE l now)) := by
  have gl := Lib.hid h.1
  rcases chk_vals l with hE | hE | hE
  rotate_left
  · have hck := check_any A n c l w h (by unfold maxLen; omega) 4 hE
    have gE := Lib.hid (due_chk (now := now) (by decide) hE)
    clear h hE
    go_enter Try.func14, Try.ntmps14
    go_wp2_with fail
    refine hck.mono ?_
    rintro en w1 ⟨rfl, hb1⟩
    clear hck
    go_wp2
    go_ret3
    rw [gE.out.1, gE.out.2.1, gE.out.2.2]
    exact duePost_none hb1
  · have hck := check_any A n c l w h (by unfold maxLen; omega) 8 hE
    have gE := Lib.hid (due_chk (now := now) (by decide) hE)
    clear h hE
    go_enter Try.func14, Try.ntmps14
    go_wp2_with fail
    refine hck.mono ?_
    rintro en w1 ⟨rfl, hb1⟩
    clear hck
    go_wp2
    go_ret3
    rw [gE.out.1, gE.out.2.1, gE.out.2.2]
    exact duePost_none hb1
  have hck := check_any A n c l w h (by unfold maxLen; omega) 0 hE
  have gT : Hid (∀ w', Below w.heap.size w w' → Tms w' w'.heap.size A n l) := Lib.hid (fun w' hb => h.go hb hb.size)
  have gC := Lib.hid hE
  have gargs : Hid (now < 0 ∨ 2147483647 < now → dueE l now = 2 ∧ dueA l now = [] ∧ dueB l now = []) := Lib.hid (fun h1 => due_arg hE h1)
  clear h hE
  by_cases a1 : now < 0
  · have e1 : decide (now < 0) = true := decide_eq_true a1
    have gE := Lib.hid (gargs.out (.inl a1))
    clear a1
    go_enter Try.func14, Try.ntmps14
    go_wp2_with fail
    refine hck.mono ?_
    rintro en w1 ⟨rfl, hb1⟩
    clear hck
    go_wp2
    go_ret3
    rw [gE.out.1, gE.out.2.1, gE.out.2.2]
    exact duePost_none hb1
  have e1 : decide (now < 0) = false := decide_eq_false a1
  by_cases a2 : 2147483647 < now
  · have e2 : decide (2147483647 < now) = true := decide_eq_true a2
    have gE := Lib.hid (gargs.out (.inr a2))
    clear a1 a2
    go_enter Try.func14, Try.ntmps14
    go_wp2_with fail
    refine hck.mono ?_
    rintro en w1 ⟨rfl, hb1⟩
    clear hck
    go_wp2
    go_ret3
    rw [gE.out.1, gE.out.2.1, gE.out.2.2]
    exact duePost_none hb1
  have e2 : decide (2147483647 < now) = false := decide_eq_false a2
  have gE := Lib.hid (due_ok (now := now) gC.out (by omega))
  clear a1 a2 gargs
  go_enter Try.func14, Try.ntmps14
  go_wp2_with fail
  refine hck.mono ?_
  rintro en w1 ⟨rfl, hb1⟩
  clear hck
  go_wp2_with fail
  have gs := Lib.hid (chk_str gC.out)
  refine (piled_any A n c l (by have := gs.out.1; rw [gl.out] at this; omega) w1 (gT.out w1 hb1)).mono ?_
  rintro en w2 ⟨R, g, r0, rfl, hR0, hg0, hgl0, hpm, hH0, hb2⟩
  have hs1 := hb1.size
  have hU0 : Und w (w2.alloc (.cells #[.pointer (some ⟨R, 0, none⟩)] 55)) R g w2.heap.size r0 := by
    have hb3 := (Below.refl w2.heap.size w2).alloc (Nat.le_refl _) (.cells #[.pointer (some ⟨R, 0, none⟩)] 55)
    have hRl : R < w2.heap.size := by obtain ⟨_, _, _, _, hR, _⟩ := hH0.1.cell; exact hR
    have hs2 := hb2.size
    exact ⟨hH0.below hb3, Blk.new w2 _ _, by omega, by omega, by omega, by omega, by omega, (hb1.trans (hb2.mono hs1)).trans (hb3.mono (by omega)), by simp; omega⟩
  have gU0 : Hid (DI now w (w2.alloc (.cells #[.pointer (some ⟨R, 0, none⟩)] 55)) l [] [] r0 R g w2.heap.size (.slice none 0 0) (.slice none 0 0) 0 0) := Lib.hid ⟨rfl, rfl, ⟨World.ownsRow_nil _ _ _ _, by simp [Value.ownBlock], by simp [Value.ownBlock], by simp [Value.ownBlock]⟩, ⟨World.ownsRow_nil _ _ _ _, by simp [Value.ownBlock], by simp [Value.ownBlock], by simp [Value.ownBlock]⟩, Apart.nil _, hU0, dueP_start hpm⟩
  have hn5 : n ≤ 1024 := by have := gs.out.1; rw [gl.out] at this; exact this
  obtain ⟨i0, hi0, hz0, hz1, hz2⟩ := info_parts infoT
  clear hU0 hb1 hb2 hR0 hg0 hgl0 hpm hH0 hs1 e1 e2
  go_wp2
  go_loopw [4, 5, 8] (fun vd vq t wr => ∃ (d q r : List Tm) (Ad Aq : Option Addr) (m m2 co c2 B : Nat), vd = .slice Ad m co ∧ vq = .slice Aq m2 c2 ∧ t = .pointer (some ⟨B, 0, none⟩) ∧ Hid (DI now w wr l d q r R g B (.slice Ad m co) (.slice Aq m2 c2) m m2)) (fun _ _ _ wr => lenAt wr R)
  case atStart => exact ⟨[], [], r0, none, none, 0, 0, 0, 0, w2.heap.size, rfl, rfl, rfl, gU0⟩
  case round =>
    clear gU0
    obtain ⟨d, q, r, Ad, Aq, m, m2, co, c2, B, rfl, rfl, rfl, gI⟩ := hrel
    obtain ⟨hd, hq, hrd, hrq, hap, hU, hD⟩ := gI.out
    obtain ⟨A1, c1, hcR, _, hRl, _⟩ := hU.1.1.cell
    have hln := len_any R wr A1 r.length c1 hcR
    have cB : wr.cell? ⟨B, 0, none⟩ = some (.pointer (some ⟨R, 0, none⟩)) := by rw [hU.2.1.cell]; rfl
    have hle := dueP_len hD
    rw [gl.out] at hle
    rcases Nat.eq_zero_or_pos r.length with h0 | h0
    · have hr0 := List.eq_nil_of_length_eq_zero h0
      have gF : Hid (d = l.filter (fun t => decide (t.1 ≤ now)) ∧ q = l.filter (fun t => !decide (t.1 ≤ now))) := Lib.hid (dueP_end (by rw [hr0] at hD; exact hD) gs.out.2.1)
      have gB : Hid (Below w.heap.size w wr) := Lib.hid hU.2.2.2.2.2.2.2.1
      have gR := Lib.hid (And.intro hrd.1 (And.intro hrq.1 hap))
      have gm := Lib.hid (And.intro hd hq)
      rw [h0] at hln
      clear gI hrd hrq hap hU hD h0 hr0 hle hd hq hcR hRl
      go_wp2_with (go_at_call 29; refine hln.mono ?_; rintro en w3 ⟨rfl, hw3⟩; obtain rfl := hw3.symm)
      go_ret3
      rw [gE.out.1, gE.out.2.1, gE.out.2.2, ← gF.out.1, ← gF.out.2]
      obtain ⟨o1, o2, ha⟩ := gR.out
      rw [gm.out.1] at o1
      rw [gm.out.2] at o2
      exact ⟨Ad, co, Aq, c2, by rw [gm.out.1, gm.out.2]; rfl, by rw [gm.out.1]; exact o1, by rw [gm.out.2]; exact o2, by rw [gm.out.1, gm.out.2]; exact ha, gB.out⟩
    · obtain ⟨p, hp⟩ : ∃ p, r.length = p + 1 := ⟨r.length - 1, by omega⟩
      have hnx := next_any R g p r (by omega) hp wr hU.1.1 hU.1.2
      rw [hp] at hln
      have e0 : decide (0 < ((p + 1 : Nat) : Int)) = true := decide_eq_true (by omega)
      have gN : Hid (∀ t r' w5, Pops r r' t → Pl w5 R g r' → Frm R g wr w5 → Und w w5 R g B r' ∧ Row w w5 R g B (.slice Ad m co) d ∧ Row w w5 R g B (.slice Aq m2 c2) q ∧ DueP now l (if t.1 ≤ now then d ++ [t] else d) (if t.1 ≤ now then q else q ++ [t]) r' ∧ lenAt w5 R < lenAt wr R ∧ lenAt w5 R = r'.length) := Lib.hid (fun t r' w5 hp hP hF => ⟨hU.next hp hP hF, hrd.frm hF, hrq.frm hF, dueP_step hD hp, by rw [lenAt_eq hP, lenAt_eq hU.1.1, pops_len hp]; omega, lenAt_eq hP⟩)
      have gm := Lib.hid (And.intro hd (And.intro hq hap))
      have hm5 : m ≤ 1024 := by omega
      have hm6 : m2 ≤ 1024 := by omega
      clear gI hrd hrq hap hU hD h0 hle hd hq hcR hRl hp
      go_wp2_with (go_at_call 29; refine hln.mono ?_; rintro en w3 ⟨rfl, hw3⟩; obtain rfl := hw3.symm)
      refine hnx.mono ?_
      rintro en w5 ⟨⟨x, y⟩, r', rfl, hpo, hP5, hF5⟩
      obtain ⟨hU5, hrd5, hrq5, hD5, hl1, hl2⟩ := gN.out _ _ _ hpo hP5 hF5
      have hB5 : Below w5.heap.size w5 (w5.alloc (.cells #[.int .i64 x, .int .i64 y] 35)) := by exact (Below.refl _ _).alloc (Nat.le_refl _) _
      have kt : Blk (w5.alloc (.cells #[.int .i64 x, .int .i64 y] 35)) w5.heap.size 35 #[.int .i64 x, .int .i64 y] := by exact Blk.new w5 _ _
      have hUW := hU5.below hB5
      have hrdW := hrd5.below hB5
      have hrqW := hrq5.below hB5
      have gS : Hid (lenAt w5 R < lenAt wr R ∧ lenAt w5 R = r'.length) := Lib.hid ⟨hl1, hl2⟩
      have t0 : (w5.alloc (.cells #[.int .i64 x, .int .i64 y] 35)).cell? ⟨w5.heap.size, 0, none⟩ = some (.int .i64 x) := by rw [kt.cell]; rfl
      have t1 : (w5.alloc (.cells #[.int .i64 x, .int .i64 y] 35)).cell? ⟨w5.heap.size, 1, none⟩ = some (.int .i64 y) := by rw [kt.cell]; rfl
      have cBW : (w5.alloc (.cells #[.int .i64 x, .int .i64 y] 35)).cell? ⟨B, 0, none⟩ = some (.pointer (some ⟨R, 0, none⟩)) := by rw [hUW.2.1.cell]; rfl
      have hBl : B < w5.heap.size := hU5.2.1.lt
      have cB5 : w5.cell? ⟨B, 0, none⟩ = some (.pointer (some ⟨R, 0, none⟩)) := by rw [hU5.2.1.cell]; rfl
      have hsW := hUW.2.2.2.2.2.2.2.1.size
      simp only [World.size_alloc] at hsW
      have hO1 := hrdW.1
      rw [gm.out.1] at hO1
      have hO2 := hrqW.1
      rw [gm.out.2.1] at hO2
      have gD := Lib.hid hD5
      have gW := Lib.hid (And.intro hrdW (And.intro hrqW hUW))
      clear hU5 hrd5 hrq5 hD5 hl1 hl2 hUW hrdW hrqW kt hB5 gN hnx hln cB hP5 hF5 hpo
      have kn : Blk ((w5.alloc (.cells #[.int .i64 x, .int .i64 y] 35)).alloc (.cells #[.int .i64 x, .int .i64 y] 35)) (w5.heap.size + 1) 35 #[.int .i64 x, .int .i64 y] := by have := Blk.new (w5.alloc (.cells #[.int .i64 x, .int .i64 y] 35)) 35 #[.int .i64 x, .int .i64 y]; rwa [World.size_alloc] at this
      by_cases hxn : x ≤ now
      · have d0 : decide (x ≤ now) = true := decide_eq_true hxn
        have rowp : Hid (∀ v4 w4, w4.ownsRow w.heap.size 35 2 v4 (m + 1) (T2 d ++ [.int .i64 x, .int .i64 y]) → ((w5.alloc (.cells #[.int .i64 x, .int .i64 y] 35)).alloc (.cells #[.int .i64 x, .int .i64 y] 35)).grownBy w4 (Value.slice Ad m co).ownBlock → (v4.ownBlock = (Value.slice Ad m co).ownBlock ∨ v4.ownBlock = some ((w5.alloc (.cells #[.int .i64 x, .int .i64 y] 35)).alloc (.cells #[.int .i64 x, .int .i64 y] 35)).heap.size) → DI now w w4 l (d ++ [(x, y)]) q r' R g B v4 (.slice Aq m2 c2) (m + 1) m2) := Lib.hid (fun v4 w4 h1 h2 h3 => by
          have hp := gD.out
          rw [if_pos hxn, if_pos hxn] at hp
          exact DI.push1 (t := (x, y)) gm.out.1 gm.out.2.1 gW.out.1 gW.out.2.1 gm.out.2.2 gW.out.2.2 hp h1 h2 h3)
        clear hxn
        go_wp2_with (at_builtin; refine wpList_append_any _ rfl (.tmp 33) (.tmp 35) 22 rfl w.heap.size 35 i0 _ 2 16 Try.underlying22 hi0 hz0 hz1 hz2 rfl (by omega) (.slice Ad m co) m (T2 d) rfl (own_below hO1 ((Below.refl (w5.alloc (.cells #[.int .i64 x, .int .i64 y] 35)).heap.size (w5.alloc (.cells #[.int .i64 x, .int .i64 y] 35))).alloc (Nat.le_refl _) _)) (w5.heap.size + 1 + 1) _ 1 1 [.int .i64 x, .int .i64 y] rfl (reads_blk (size := 2) kn rfl) (two_one (x, y)) (by unfold maxLen; omega) (by omega) (by simp; omega) ?_; intro v4 w4 ho4 hg4 hor4; have hv4 := rowp.out v4 w4 ho4 hg4 hor4; obtain ⟨A4, c4, rfl, hc4, _⟩ := own_slice ho4; have cB4 : w4.cell? ⟨B, 0, none⟩ = some (.pointer (some ⟨R, 0, none⟩)) := (by rw [hv4.2.2.2.2.2.1.2.1.cell]; rfl))
        have hw4 := Lib.hid hv4
        clear hv4
        go_roundw
        case rel => exact ⟨d ++ [(x, y)], q, r', A4, Aq, m + 1, m2, c4, c2, w4.heap.size, rfl, rfl, rfl, Lib.hid hw4.out.boxed⟩
        case measure => exact lt_step gS.out hw4.out.2.2.2.2.2.1
      · have d0 : decide (x ≤ now) = false := decide_eq_false hxn
        have rowp : Hid (∀ v4 w4, w4.ownsRow w.heap.size 35 2 v4 (m2 + 1) (T2 q ++ [.int .i64 x, .int .i64 y]) → ((w5.alloc (.cells #[.int .i64 x, .int .i64 y] 35)).alloc (.cells #[.int .i64 x, .int .i64 y] 35)).grownBy w4 (Value.slice Aq m2 c2).ownBlock → (v4.ownBlock = (Value.slice Aq m2 c2).ownBlock ∨ v4.ownBlock = some ((w5.alloc (.cells #[.int .i64 x, .int .i64 y] 35)).alloc (.cells #[.int .i64 x, .int .i64 y] 35)).heap.size) → DI now w w4 l d (q ++ [(x, y)]) r' R g B (.slice Ad m co) v4 m (m2 + 1)) := Lib.hid (fun v4 w4 h1 h2 h3 => by
          have hp := gD.out
          rw [if_neg hxn, if_neg hxn] at hp
          exact DI.push2 (t := (x, y)) gm.out.1 gm.out.2.1 gW.out.1 gW.out.2.1 gm.out.2.2 gW.out.2.2 hp h1 h2 h3)
        clear hxn
        go_wp2_with (at_builtin; refine wpList_append_any _ rfl (.tmp 37) (.tmp 39) 22 rfl w.heap.size 35 i0 _ 2 16 Try.underlying22 hi0 hz0 hz1 hz2 rfl (by omega) (.slice Aq m2 c2) m2 (T2 q) rfl (own_below hO2 ((Below.refl (w5.alloc (.cells #[.int .i64 x, .int .i64 y] 35)).heap.size (w5.alloc (.cells #[.int .i64 x, .int .i64 y] 35))).alloc (Nat.le_refl _) _)) (w5.heap.size + 1 + 1) _ 1 1 [.int .i64 x, .int .i64 y] rfl (reads_blk (size := 2) kn rfl) (two_one (x, y)) (by unfold maxLen; omega) (by omega) (by simp; omega) ?_; intro v4 w4 ho4 hg4 hor4; have hv4 := rowp.out v4 w4 ho4 hg4 hor4; obtain ⟨A4, c4, rfl, hc4, _⟩ := own_slice ho4; have cB4 : w4.cell? ⟨B, 0, none⟩ = some (.pointer (some ⟨R, 0, none⟩)) := (by rw [hv4.2.2.2.2.2.1.2.1.cell]; rfl))
        have hw4 := Lib.hid hv4
        clear hv4
        go_roundw
        case rel => exact ⟨d, q ++ [(x, y)], r', Ad, A4, m, m2 + 1, co, c4, w4.heap.size, rfl, rfl, rfl, Lib.hid hw4.out.boxed⟩
        case measure => exact lt_step gS.out hw4.out.2.2.2.2.2.1
end Go.Proofs.Ythageikchniahaa
