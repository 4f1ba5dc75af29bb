/- Timer: the reference's With and Order -/
import Derived.Test.YthageikchniahaaTJ
namespace Go.Proofs.Ythageikchniahaa
open Go.ChangeShapes Go.WideShapes Go.ChangeAt Go.RowKit
set_option linter.unusedSimpArgs false
set_option linter.unusedVariables false

theorem wth_none {t : Tm} : ∀ {a : List Tm}, (∀ x ∈ a, ahd t x = false) → wth a t = a ++ [t]
  | [], _ => rfl
  | y :: r, h => by
    unfold wth
    rw [if_neg (by rw [h y (List.mem_cons_self ..)]; simp), wth_none (fun x hx => h x (List.mem_cons_of_mem _ hx))]
    rfl
theorem wth_some {t : Tm} {b : List Tm} : ∀ {a : List Tm}, (∃ x ∈ a, ahd t x = true) → wth (a ++ b) t = wth a t ++ b
  | [], h => by obtain ⟨x, hx, _⟩ := h; cases hx
  | y :: r, h => by
    rw [List.cons_append]
    unfold wth
    by_cases hy : ahd t y = true
    · rw [if_pos hy, if_pos hy]; rfl
    · rw [if_neg hy, if_neg hy, wth_some (a := r) (b := b) (by
        obtain ⟨x, hx, hx2⟩ := h
        rcases List.mem_cons.1 hx with rfl | hx
        · exact absurd hx2 hy
        · exact ⟨x, hx, hx2⟩)]
      rfl
theorem wth_here {t z : Tm} : ∀ {a : List Tm}, (∀ x ∈ a, ahd t x = false) → ahd t z = true → wth (a ++ [z]) t = a ++ [t] ++ [z]
  | [], _, hz => by show wth [z] t = _; unfold wth; rw [if_pos hz]; rfl
  | y :: r, h, hz => by
    rw [List.cons_append]
    unfold wth
    rw [if_neg (by rw [h y (List.mem_cons_self ..)]; simp), wth_here (fun x hx => h x (List.mem_cons_of_mem _ hx)) hz]
    rfl
/-- With, under way: k are copied; P: it has been put. -/
def WthS (l : List Tm) (t : Tm) (k : Nat) (P : Bool) (out : List Tm) : Prop := (P = true → (∃ x ∈ l.take k, ahd t x = true) ∧ out = wth (l.take k) t) ∧ (P = false → (∀ x ∈ l.take k, ahd t x = false) ∧ out = l.take k)
theorem take_one {l : List Tm} {k : Nat} (h : k < l.length) : l.take (k + 1) = l.take k ++ [tz l k] := by
  rw [List.take_add_one, tz_lt h]
  rfl
theorem wthS_put {l out : List Tm} {t : Tm} {k : Nat} (h : k < l.length) (hs : WthS l t k true out) : WthS l t (k + 1) true (out ++ [tz l k]) := by
  obtain ⟨h1, h2⟩ := hs.1 rfl
  refine ⟨fun _ => ?_, fun e => by cases e⟩
  rw [take_one h]
  refine ⟨?_, by rw [h2, wth_some h1]⟩
  obtain ⟨x, hx, hx2⟩ := h1
  exact ⟨x, List.mem_append_left _ hx, hx2⟩
theorem wthS_here {l out : List Tm} {t : Tm} {k : Nat} (h : k < l.length) (hs : WthS l t k false out) (hz : ahd t (tz l k) = true) : WthS l t (k + 1) true (out ++ [t] ++ [tz l k]) := by
  obtain ⟨h1, h2⟩ := hs.2 rfl
  refine ⟨fun _ => ?_, fun e => by cases e⟩
  rw [take_one h]
  exact ⟨⟨tz l k, by simp, hz⟩, by rw [h2, wth_here h1 hz]⟩
theorem wthS_not {l out : List Tm} {t : Tm} {k : Nat} (h : k < l.length) (hs : WthS l t k false out) (hz : ahd t (tz l k) = false) : WthS l t (k + 1) false (out ++ [tz l k]) := by
  obtain ⟨h1, h2⟩ := hs.2 rfl
  refine ⟨fun e => (by cases e), fun _ => ?_⟩
  rw [take_one h]
  refine ⟨fun x hx => ?_, by rw [h2]⟩
  rcases List.mem_append.1 hx with hx | hx
  · exact h1 x hx
  · rw [List.mem_singleton] at hx
    subst hx
    exact hz
theorem wthS_end {l out : List Tm} {t : Tm} {k : Nat} {P : Bool} (h : k = l.length) (hs : WthS l t k P out) : wth l t = if P then out else out ++ [t] := by
  subst h
  cases P with
  | true => rw [if_pos rfl, (hs.1 rfl).2, List.take_length]
  | false =>
    obtain ⟨h1, h2⟩ := hs.2 rfl
    rw [List.take_length] at h1 h2
    rw [if_neg (by simp), h2, wth_none h1]
/-- A row of the call's own. -/
def Ow (wr : World) (base : Nat) (v : Value) (m : Nat) (out : List Tm) : Prop := out.length = m ∧ wr.ownsRow base 35 2 v m (T2 out)
theorem Ow.below {w w' : World} {base m : Nat} {v : Value} {out : List Tm} (h : Ow w base v m out) (hb : Below w.heap.size w w') : Ow w' base v m out := ⟨h.1, own_below h.2 hb⟩
theorem own_base_le {w : World} {b base size n : Nat} {e : TypeId} {v : Value} {xs : List Value} (h : w.ownsRow base e size v n xs) (hb : b ≤ base) : w.ownsRow b e size v n xs :=
  ⟨h.1, h.2.imp id fun ⟨g, c, cur, e1, h1, r⟩ => ⟨g, c, cur, e1, Nat.le_trans hb h1, r⟩⟩
/-- One more behind a row of the call's own: what is left of the world. -/
theorem Ow.push {w W w4 : World} {base m : Nat} {v v4 : Value} {out : List Tm} {o : Obj} {t : Tm} (h : Ow W base v m out) (hb : Below base w W) (hB : base ≤ W.heap.size) (ho : w4.ownsRow base 35 2 v4 (m + 1) (T2 out ++ [.int .i64 t.1, .int .i64 t.2])) (hg : (W.alloc o).grownBy w4 v.ownBlock) : Ow w4 base v4 (m + 1) (out ++ [t]) ∧ Below base w w4 ∧ base ≤ w4.heap.size := by
  have h1 := (Below.refl W.heap.size W).alloc (Nat.le_refl _) o
  refine ⟨⟨by rw [List.length_append, h.1]; rfl, by rw [T2_app]; exact ho⟩, (hb.trans (h1.mono hB)).grown hg (by rw [World.size_alloc]; omega) (fun k hk => own_base h.2 hk), ?_⟩
  have := hg.size
  rw [World.size_alloc] at this
  omega
def WthPost (w : World) (l : List Tm) (t : Tm) (en : Ending) (w' : World) : Prop := ∃ A c m, en = .returned (.slice A m c) ∧ m = l.length + 1 ∧ Ow w' w.heap.size (.slice A m c) m (wth l t) ∧ Below w.heap.size w w'
set_option maxRecDepth 100000 in
set_option maxHeartbeats 16000000 in
theorem rwith_any (A : Option Addr) (n c : Nat) (l : List Tm) (x y : Int) (hm : n ≤ 5000) (w : World) (h : Tms w w.heap.size A n l) : Calls Try.prog 33 #[.slice A n c, .agg #[.int .i64 x, .int .i64 y]] w (WthPost w l (x, y)) := by
  have gl := Lib.hid h.1
  obtain ⟨i0, hi0, hz0, hz1, hz2⟩ := info_parts infoT
  have hat : Hid (∀ k, k < n → ∃ ad, A = some ad ∧ ad.block < w.heap.size ∧ ∀ w', Below w.heap.size w w' → w'.cell? (ad.add (k * 2)) = some (.int .i64 (tz l k).1) ∧ w'.cell? ⟨(ad.add (k * 2)).block, (ad.add (k * 2)).off + 1, none⟩ = some (.int .i64 (tz l k).2)) := Lib.hid (fun k hk => h.at_ hk)
  obtain ⟨V, hV⟩ : ∃ V, V = w.alloc (.cells #[.int .i64 x, .int .i64 y] 35) := ⟨_, rfl⟩
  have hB0 : Below w.heap.size w V := by rw [hV]; exact (Below.refl _ _).alloc (Nat.le_refl _) _
  have kb : Blk V w.heap.size 35 #[.int .i64 x, .int .i64 y] := by rw [hV]; exact Blk.new w _ _
  have hs0 : V.heap.size = w.heap.size + 1 := by rw [hV]; simp
  have g0 : Hid (Ow V V.heap.size (.slice none 0 0) 0 [] ∧ Below V.heap.size V V ∧ V.heap.size ≤ V.heap.size ∧ WthS l (x, y) 0 false []) := Lib.hid ⟨⟨rfl, World.ownsRow_nil _ _ _ _⟩, Below.refl _ _, Nat.le_refl _, ⟨fun e => absurd e (by simp), fun _ => ⟨fun x hx => absurd hx (by simp), rfl⟩⟩⟩
  clear h
  go_enter Try.func33, Try.ntmps33
  go_wp2
  rw [← hV]
  have gs0 := Lib.hid hs0
  clear hV hs0
  go_loopw [5, 6, 7] (fun v p t wr => ∃ (k m co : Nat) (P : Bool) (Ao : Option Addr) (out : List Tm), k ≤ n ∧ m ≤ k + P.toNat ∧ v = .slice Ao m co ∧ p = .bool P ∧ t = .int .i64 (k : Int) ∧ Hid (Ow wr V.heap.size (.slice Ao m co) m out ∧ Below V.heap.size V wr ∧ V.heap.size ≤ wr.heap.size ∧ WthS l (x, y) k P out)) (fun _ _ t _ => n - (intOf t).toNat)
  case atStart => exact ⟨0, 0, 0, false, none, [], Nat.zero_le _, Nat.zero_le _, rfl, rfl, rfl, g0⟩
  case round =>
    clear g0
    obtain ⟨k, m, co, P, Ao, out, hk, hmk, rfl, rfl, rfl, gI⟩ := hrel
    obtain ⟨hO, hB, hBs, hS⟩ := gI.out
    by_cases hlt : k < n
    · obtain ⟨ad, rfl, hab, hc⟩ := hat.out k hlt
      have i1 : (0 : Int) ≤ k := by omega
      have i2 : (k : Int) < n := by omega
      have hBr := Below.refl wr.heap.size wr
      obtain ⟨x2, y2, hxy⟩ : ∃ x y, tz l k = (x, y) := ⟨_, _, rfl⟩
      rw [hxy] at hc
      have hVq : ∀ q : Bw wr.heap.size wr, Below V.heap.size V q.w := fun q => hB.trans (q.h.mono hBs)
      have hWq : ∀ v' : World, Below V.heap.size V v' → Below w.heap.size w v' := fun v' h => hB0.trans (h.mono hB0.size)
      have f0 : ∀ q : Bw wr.heap.size wr, q.w.cell? (ad.add (k * 2)) = some (.int .i64 x2) := fun q => (hc q.w (hWq _ (hVq q))).1
      have f1 : ∀ q : Bw wr.heap.size wr, q.w.cell? ⟨(ad.add (k * 2)).block, (ad.add (k * 2)).off + 1, none⟩ = some (.int .i64 y2) := fun q => (hc q.w (hWq _ (hVq q))).2
      have f2 : ∀ q : Bw wr.heap.size wr, q.w.cell? ⟨w.heap.size, 0, none⟩ = some (.int .i64 x) := fun q => by rw [(kb.below (hVq q) kb.lt).cell]; rfl
      have f3 : ∀ q : Bw wr.heap.size wr, q.w.cell? ⟨w.heap.size, 1, none⟩ = some (.int .i64 y) := fun q => by rw [(kb.below (hVq q) kb.lt).cell]; rfl
      have gxy := Lib.hid hxy
      have gV := Lib.hid hVq
      have hOq : ∀ q : Bw wr.heap.size wr, Ow q.w V.heap.size (.slice Ao m co) m out := fun q => hO.below q.h
      have hsq : ∀ q : Bw wr.heap.size wr, V.heap.size ≤ q.w.heap.size := fun q => Nat.le_trans hBs q.h.size
      have gS : Hid (WthS l (x, y) k P out) := Lib.hid hS
      have gc : Hid (∀ v' : World, Below V.heap.size V v' → v'.cell? (ad.add (k * 2)) = some (.int .i64 x2) ∧ v'.cell? ⟨(ad.add (k * 2)).block, (ad.add (k * 2)).off + 1, none⟩ = some (.int .i64 y2)) := Lib.hid (fun v' h => hc v' (hWq v' h))
      have gkl : Hid (k < l.length) := Lib.hid (by rw [gl.out]; exact hlt)
      have hm9 : m ≤ k + 1 := by cases P <;> simp at hmk <;> omega
      have hn1 : m + 1 ≤ maxLen := by unfold maxLen; omega
      have hn2 : (m + 1) * 16 ≤ 140737488355328 := by omega
      have hn3 : m + 1 + 1 ≤ maxLen := by unfold maxLen; omega
      have hn4 : (m + 1 + 1) * 16 ≤ 140737488355328 := by omega
      clear hc hab hB hWq hO hS gI hxy hat
      cases P with
      | true =>
        replace hmk : m ≤ k + 1 := hmk
        go_wp2_with fail
        refine wp_region_wq wr.heap.size wr hBr (by kernel_rfl) (by kernel_rfl) ?_
        repeat (first | (refine WQ.yes (by rfl) (fun K hK => ?_); go_simp; first | (refine hK _ ?_; clear hK K) | (apply Exists.intro; refine ⟨fun _ => ?_, hK _ ?_⟩; (fail); clear hK K)) | (refine WQ.no (by rfl) ?_; (try simp only [Act.put, List.setIfInBounds_toArray, List.set_cons_zero, List.set_cons_succ])))
        refine WQ.nil ?_
        intro pq
        obtain ⟨wq, hq⟩ := pq
        simp only
        have hO : Ow wq V.heap.size (.slice Ao m co) m out := hOq ⟨wq, hq⟩
        have hBq : Below V.heap.size V wq := hVq ⟨wq, hq⟩
        have hs : V.heap.size ≤ wq.heap.size := hsq ⟨wq, hq⟩
        have c0 : wq.cell? (ad.add (k * 2)) = some (.int .i64 x2) := f0 ⟨wq, hq⟩
        have c1 : wq.cell? ⟨(ad.add (k * 2)).block, (ad.add (k * 2)).off + 1, none⟩ = some (.int .i64 y2) := f1 ⟨wq, hq⟩
        clear f0 f1 f2 f3 hOq hVq hsq
        go_wp2_with (at_builtin; refine wpList_append_any _ rfl (.tmp 28) (.tmp 33) 22 rfl V.heap.size 35 i0 _ 2 16 Try.underlying22 hi0 hz0 hz1 hz2 rfl (by omega) (.slice Ao m co) m (T2 out) rfl (own_below hO.2 ((Below.refl wq.heap.size wq).alloc (Nat.le_refl _) _)) (wq.heap.size + 1) _ 1 1 [.int .i64 x2, .int .i64 y2] rfl (reads_one wq [.int .i64 x2, .int .i64 y2] 35 2 rfl) (two_one (x2, y2)) hn1 hn2 (by simp; omega) ?_; intro v4 w4 ho4 hg4 hor4; obtain ⟨A4, c4, rfl, hc4, _⟩ := own_slice ho4; have hp4 := Lib.hid (hO.push (t := (x2, y2)) hBq hs ho4 hg4))
        go_roundw
        case rel => exact ⟨k + 1, m + 1, c4, true, A4, out ++ [(x2, y2)], by omega, (by show m + 1 ≤ k + 1 + 1; omega), rfl, rfl, by go_num, Lib.hid ⟨hp4.out.1, hp4.out.2.1, hp4.out.2.2, by rw [← gxy.out]; exact wthS_put gkl.out gS.out⟩⟩
        case measure => simp [intOf]; omega
      | false =>
        replace hmk : m ≤ k := hmk
        obtain ⟨Q, hQ⟩ : ∃ Q, ahd (x, y) (x2, y2) = Q := ⟨_, rfl⟩
        have hcl : ∀ q : Bw wr.heap.size wr, Calls Try.prog 40 #[.agg #[.int .i64 x, .int .i64 y], .agg #[.int .i64 x2, .int .i64 y2]] q.w fun en w' => en = .returned (.bool Q) ∧ ∃ q' : Bw wr.heap.size wr, w' = q'.w := fun q => Calls.bw (rahead_any _ _ _ _ _ Q hQ) (Nat.le_refl _)
        have gQ : Hid (ahd (x, y) (tz l k) = Q) := Lib.hid (by rw [gxy.out]; exact hQ)
        clear hQ
        cases Q with
        | true =>
          go_wp2_with fail
          refine wp_region_wq wr.heap.size wr hBr (by kernel_rfl) (by kernel_rfl) ?_
          repeat (first | (refine WQ.yes (by rfl) (fun K hK => ?_); go_simp; first | (refine hK _ ?_; clear hK K) | (apply Exists.intro; refine ⟨fun _ => ?_, hK _ ?_⟩; (exact hcl _); clear hK K)) | (refine WQ.no (by rfl) ?_; (try simp only [Act.put, List.setIfInBounds_toArray, List.set_cons_zero, List.set_cons_succ])))
          refine WQ.nil ?_
          intro pq
          obtain ⟨wq, hq⟩ := pq
          simp only
          have hO : Ow wq V.heap.size (.slice Ao m co) m out := hOq ⟨wq, hq⟩
          have hBq : Below V.heap.size V wq := hVq ⟨wq, hq⟩
          have hs : V.heap.size ≤ wq.heap.size := hsq ⟨wq, hq⟩
          have c2 : wq.cell? ⟨w.heap.size, 0, none⟩ = some (.int .i64 x) := f2 ⟨wq, hq⟩
          have c3 : wq.cell? ⟨w.heap.size, 1, none⟩ = some (.int .i64 y) := f3 ⟨wq, hq⟩
          clear f0 f1 f2 f3 hOq hVq hsq hcl
          go_wp2_with (first | (at_builtin; refine wpList_append_any _ rfl (.tmp 24) (.tmp 26) 22 rfl V.heap.size 35 i0 _ 2 16 Try.underlying22 hi0 hz0 hz1 hz2 rfl (by omega) (.slice Ao m co) m (T2 out) rfl (own_below hO.2 ((Below.refl wq.heap.size wq).alloc (Nat.le_refl _) _)) (wq.heap.size + 1) _ 1 1 [.int .i64 x, .int .i64 y] rfl (reads_one wq [.int .i64 x, .int .i64 y] 35 2 rfl) (two_one (x, y)) hn1 hn2 (by simp; omega) ?_; intro v4 w4 ho4 hg4 hor4; obtain ⟨A4, c4, rfl, hc4, _⟩ := own_slice ho4; have hp4 := hO.push (t := (x, y)) hBq hs ho4 hg4; obtain ⟨c0, c1⟩ := gc.out _ hp4.2.1; have hO4 := hp4.1; have gp4 := Lib.hid hp4.2; have hs4 := hp4.2.2; clear hp4 hg4 hor4 ho4) | (at_builtin; refine wpList_append_any _ rfl (.tmp 28) (.tmp 33) 22 rfl V.heap.size 35 i0 _ 2 16 Try.underlying22 hi0 hz0 hz1 hz2 rfl (by omega) (.slice A4 (m + 1) c4) (m + 1) (T2 (out ++ [(x, y)])) rfl (own_below hO4.2 ((Below.refl w4.heap.size w4).alloc (Nat.le_refl _) _)) (w4.heap.size + 1) _ 1 1 [.int .i64 x2, .int .i64 y2] rfl (reads_one w4 [.int .i64 x2, .int .i64 y2] 35 2 rfl) (two_one (x2, y2)) hn3 hn4 (by simp; omega) ?_; intro v6 w6 ho6 hg6 hor6; obtain ⟨A6, c6, rfl, hc6, _⟩ := own_slice ho6; have hp6 := Lib.hid (hO4.push (t := (x2, y2)) gp4.out.1 gp4.out.2 ho6 hg6)))
          go_roundw
          case rel => exact ⟨k + 1, m + 1 + 1, c6, true, A6, out ++ [(x, y)] ++ [(x2, y2)], by omega, (by show m + 1 + 1 ≤ k + 1 + 1; omega), rfl, rfl, by go_num, Lib.hid ⟨hp6.out.1, hp6.out.2.1, hp6.out.2.2, by rw [← gxy.out]; exact wthS_here gkl.out gS.out gQ.out⟩⟩
          case measure => simp [intOf]; omega
        | false =>
          go_wp2_with fail
          refine wp_region_wq wr.heap.size wr hBr (by kernel_rfl) (by kernel_rfl) ?_
          repeat (first | (refine WQ.yes (by rfl) (fun K hK => ?_); go_simp; first | (refine hK _ ?_; clear hK K) | (apply Exists.intro; refine ⟨fun _ => ?_, hK _ ?_⟩; (exact hcl _); clear hK K)) | (refine WQ.no (by rfl) ?_; (try simp only [Act.put, List.setIfInBounds_toArray, List.set_cons_zero, List.set_cons_succ])))
          refine WQ.nil ?_
          intro pq
          obtain ⟨wq, hq⟩ := pq
          simp only
          have hO : Ow wq V.heap.size (.slice Ao m co) m out := hOq ⟨wq, hq⟩
          have hBq : Below V.heap.size V wq := hVq ⟨wq, hq⟩
          have hs : V.heap.size ≤ wq.heap.size := hsq ⟨wq, hq⟩
          have c0 : wq.cell? (ad.add (k * 2)) = some (.int .i64 x2) := f0 ⟨wq, hq⟩
          have c1 : wq.cell? ⟨(ad.add (k * 2)).block, (ad.add (k * 2)).off + 1, none⟩ = some (.int .i64 y2) := f1 ⟨wq, hq⟩
          clear f0 f1 f2 f3 hOq hVq hsq hcl
          go_wp2_with (at_builtin; refine wpList_append_any _ rfl (.tmp 28) (.tmp 33) 22 rfl V.heap.size 35 i0 _ 2 16 Try.underlying22 hi0 hz0 hz1 hz2 rfl (by omega) (.slice Ao m co) m (T2 out) rfl (own_below hO.2 ((Below.refl wq.heap.size wq).alloc (Nat.le_refl _) _)) (wq.heap.size + 1) _ 1 1 [.int .i64 x2, .int .i64 y2] rfl (reads_one wq [.int .i64 x2, .int .i64 y2] 35 2 rfl) (two_one (x2, y2)) hn1 hn2 (by simp; omega) ?_; intro v4 w4 ho4 hg4 hor4; obtain ⟨A4, c4, rfl, hc4, _⟩ := own_slice ho4; have hp4 := Lib.hid (hO.push (t := (x2, y2)) hBq hs ho4 hg4))
          go_roundw
          case rel => exact ⟨k + 1, m + 1, c4, false, A4, out ++ [(x2, y2)], by omega, (by show m + 1 ≤ k + 1 + 0; omega), rfl, rfl, by go_num, Lib.hid ⟨hp4.out.1, hp4.out.2.1, hp4.out.2.2, by rw [← gxy.out]; exact wthS_not gkl.out gS.out gQ.out⟩⟩
          case measure => simp [intOf]; omega
    · obtain rfl : k = n := by omega
      have gS : Hid (wth l (x, y) = if P then out else out ++ [(x, y)]) := Lib.hid (wthS_end gl.out.symm hS)
      have hm9 : m ≤ k + 1 := by cases P <;> simp at hmk <;> omega
      have gW : Hid (∀ v' : World, Below V.heap.size V v' → Below w.heap.size w v') := Lib.hid (fun v' h => hB0.trans (h.mono hB0.size))
      have gsz : Hid (w.heap.size ≤ V.heap.size) := Lib.hid hB0.size
      have f2 : wr.cell? ⟨w.heap.size, 0, none⟩ = some (.int .i64 x) := by rw [(kb.below hB kb.lt).cell]; rfl
      have f3 : wr.cell? ⟨w.heap.size, 1, none⟩ = some (.int .i64 y) := by rw [(kb.below hB kb.lt).cell]; rfl
      have hn1 : m + 1 ≤ maxLen := by unfold maxLen; omega
      have hn2 : (m + 1) * 16 ≤ 140737488355328 := by omega
      have gO := Lib.hid hO
      have gB := Lib.hid hB
      clear hat gI hS hlt hB0 kb hB
      cases P with
      | true =>
        clear hO
        go_wp2
        go_ret
        have e : wth l (x, y) = out := by rw [gS.out]; simp
        exact ⟨Ao, co, m, rfl, by rw [← gO.out.1, ← e, wth_len], by rw [e]; exact ⟨gO.out.1, own_base_le gO.out.2 gsz.out⟩, gW.out _ gB.out⟩
      | false =>
        go_wp2_with (at_builtin; refine wpList_append_any _ rfl (.tmp 37) (.tmp 39) 22 rfl V.heap.size 35 i0 _ 2 16 Try.underlying22 hi0 hz0 hz1 hz2 rfl (by omega) (.slice Ao m co) m (T2 out) rfl (own_below hO.2 ((Below.refl wr.heap.size wr).alloc (Nat.le_refl _) _)) (wr.heap.size + 1) _ 1 1 [.int .i64 x, .int .i64 y] rfl (reads_one wr [.int .i64 x, .int .i64 y] 35 2 rfl) (two_one (x, y)) hn1 hn2 (by simp; omega) ?_; intro v4 w4 ho4 hg4 hor4; obtain ⟨A4, c4, rfl, hc4, _⟩ := own_slice ho4; have hp4 := Lib.hid (hO.push (t := (x, y)) gB.out hBs ho4 hg4))
        go_ret
        have e : wth l (x, y) = out ++ [(x, y)] := by rw [gS.out]; simp
        exact ⟨A4, c4, m + 1, rfl, by rw [← hp4.out.1.1, ← e, wth_len], by rw [e]; exact ⟨hp4.out.1.1, own_base_le hp4.out.1.2 gsz.out⟩, gW.out _ hp4.out.2.1⟩
end Go.Proofs.Ythageikchniahaa
