/- Timer: a timer is set: the program's and the reference's Set -/
import Derived.Test.YthageikchniahaaTO
import Derived.Deep.RegionHeld3
namespace Go.Proofs.Ythageikchniahaa
open Go.ChangeShapes Go.WideShapes Go.ChangeAt Go.RowKit
set_option linter.unusedSimpArgs false
set_option linter.unusedVariables false

def RowPost (w : World) (o : List Tm) (E : Int) (en : Ending) (w' : World) : Prop := ∃ A c, en = .returned (.tuple #[.slice A o.length c, .int .i64 E]) ∧ w'.ownsRow w.heap.size 35 2 (.slice A o.length c) o.length (T2 o) ∧ Below w.heap.size w w'
theorem rowPost_none {w w' : World} {E : Int} (h : Below w.heap.size w w') : RowPost w [] E (.returned (.tuple #[.slice none 0 0, .int .i64 E])) w' := ⟨none, 0, rfl, World.ownsRow_nil _ _ _ _, h⟩
def setE (l : List Tm) (t : Tm) : Int := if chkE l ≠ 0 then chkE l else if (!mayT t) = true then 8 else if l.contains t = true then 12 else if 1024 ≤ l.length then 9 else 0
def setO (l : List Tm) (t : Tm) : List Tm := if setE l t = 0 then wth l t else []
section
variable {l : List Tm} {t : Tm}
theorem set_chk (h : chkE l ≠ 0) : setE l t = chkE l := by unfold setE; rw [if_pos h]
theorem set_none (h : chkE l ≠ 0) : setO l t = [] := by unfold setO; rw [set_chk h, if_neg h]
theorem set_may (h : chkE l = 0) (h1 : mayT t = false) : setE l t = 8 := by unfold setE; rw [if_neg (by simp [h]), if_pos (by simp [h1])]
theorem set_mayO (h : chkE l = 0) (h1 : mayT t = false) : setO l t = [] := by unfold setO; rw [set_may h h1]; rfl
theorem set_in (h : chkE l = 0) (h1 : mayT t = true) (h2 : l.contains t = true) : setE l t = 12 := by unfold setE; rw [if_neg (by simp [h]), if_neg (by simp [h1]), if_pos h2]
theorem set_inO (h : chkE l = 0) (h1 : mayT t = true) (h2 : l.contains t = true) : setO l t = [] := by unfold setO; rw [set_in h h1 h2]; rfl
theorem set_full (h : chkE l = 0) (h1 : mayT t = true) (h2 : l.contains t = false) (h3 : 1024 ≤ l.length) : setE l t = 9 := by unfold setE; rw [if_neg (by simp [h]), if_neg (by simp [h1]), if_neg (by rw [h2]; simp), if_pos h3]
theorem set_fullO (h : chkE l = 0) (h1 : mayT t = true) (h2 : l.contains t = false) (h3 : 1024 ≤ l.length) : setO l t = [] := by unfold setO; rw [set_full h h1 h2 h3]; rfl
theorem set_ok (h : chkE l = 0) (h1 : mayT t = true) (h2 : l.contains t = false) (h3 : ¬ 1024 ≤ l.length) : setE l t = 0 := by unfold setE; rw [if_neg (by simp [h]), if_neg (by simp [h1]), if_neg (by rw [h2]; simp), if_neg h3]
theorem set_okO (h : chkE l = 0) (h1 : mayT t = true) (h2 : l.contains t = false) (h3 : ¬ 1024 ≤ l.length) : setO l t = wth l t := by unfold setO; rw [set_ok h h1 h2 h3]; rfl
theorem set_order (h : chkE l = 0) (h1 : mayT t = true) (h2 : l.contains t = false) (h3 : l.length ≤ 1023) : ordE (l ++ [t]) = 0 ∧ ordO (l ++ [t]) = wth l t := by
  obtain ⟨_, hs, hg⟩ := chk_str h
  have e : ordE (l ++ [t]) = 0 := by
    unfold ordE
    rw [if_neg (by simp; omega), if_neg]
    intro ha
    rw [List.any_eq_true] at ha
    obtain ⟨z, hz, hz2⟩ := ha
    rcases List.mem_append.1 hz with hz | hz
    · rw [hg z hz] at hz2; cases hz2
    · rw [List.mem_singleton] at hz
      subst hz
      rw [h1] at hz2
      cases hz2
  refine ⟨e, ?_⟩
  unfold ordO
  rw [if_pos e]
  exact ordL_snoc hs (by simpa using h2)
end
set_option maxRecDepth 100000 in
set_option maxHeartbeats 16000000 in
theorem rset_any (A : Option Addr) (n c : Nat) (l : List Tm) (x y : Int) (hm : n ≤ 5000) (w : World) (h : Tms w w.heap.size A n l) : Calls Try.prog 20 #[.slice A n c, .agg #[.int .i64 x, .int .i64 y]] w (RowPost w (setO l (x, y)) (setE l (x, y))) := by
  have gl := Lib.hid h.1
  obtain ⟨i0, hi0, hz0, hz1, hz2⟩ := info_parts infoT
  obtain ⟨V, hV⟩ : ∃ V, V = w.alloc (.cells #[.int .i64 x, .int .i64 y] 35) := ⟨_, rfl⟩
  have hB0 : Below w.heap.size w V := by rw [hV]; exact (Below.refl _ _).alloc (Nat.le_refl _) _
  have kb : Blk V w.heap.size 35 #[.int .i64 x, .int .i64 y] := by rw [hV]; exact Blk.new w _ _
  have gcell : Hid (∀ v', Below V.heap.size V v' → v'.cell? ⟨w.heap.size, 0, none⟩ = some (.int .i64 x) ∧ v'.cell? ⟨w.heap.size, 1, none⟩ = some (.int .i64 y)) := Lib.hid (fun v' hb => ⟨by rw [(kb.below hb kb.lt).cell]; rfl, by rw [(kb.below hb kb.lt).cell]; rfl⟩)
  have gT : Hid (∀ v', Below V.heap.size V v' → Tms v' v'.heap.size A n l ∧ Below w.heap.size w v') := Lib.hid (fun v' hb => ⟨h.go (hB0.trans (hb.mono hB0.size)) (Nat.le_trans hB0.size hb.size), hB0.trans (hb.mono hB0.size)⟩)
  have hTV := h.go hB0 hB0.size
  have hBV := Below.refl V.heap.size V
  rcases chk_vals l with hE | hE | hE
  rotate_left
  · have hck := rcheck_any A n c l V hTV (by unfold maxLen; omega) 4 hE
    have gE : Hid (RowPost w (setO l (x, y)) (setE l (x, y)) = RowPost w [] 4) := Lib.hid (by rw [set_chk (by rw [hE]; decide), set_none (by rw [hE]; decide), hE])
    clear hTV h kb gcell gT hE
    go_enter Try.func20, Try.ntmps20
    go_wp2_with fail
    rw [← hV]
    refine hck.mono ?_
    rintro en w1 ⟨rfl, hb1⟩
    clear hV
    go_wp2
    go_ret2
    rw [gE.out]
    exact rowPost_none (hB0.trans (hb1.mono hB0.size))
  · have hck := rcheck_any A n c l V hTV (by unfold maxLen; omega) 8 hE
    have gE : Hid (RowPost w (setO l (x, y)) (setE l (x, y)) = RowPost w [] 8) := Lib.hid (by rw [set_chk (by rw [hE]; decide), set_none (by rw [hE]; decide), hE])
    clear hTV h kb gcell gT hE
    go_enter Try.func20, Try.ntmps20
    go_wp2_with fail
    rw [← hV]
    refine hck.mono ?_
    rintro en w1 ⟨rfl, hb1⟩
    clear hV
    go_wp2
    go_ret2
    rw [gE.out]
    exact rowPost_none (hB0.trans (hb1.mono hB0.size))
  have hck := rcheck_any A n c l V hTV (by unfold maxLen; omega) 0 hE
  have gstr := Lib.hid (chk_str hE)
  have gE0 := Lib.hid hE
  clear hTV h kb hE
  go_enter Try.func20, Try.ntmps20
  go_wp2_with fail
  rw [← hV]
  refine hck.mono ?_
  rintro en w1 ⟨rfl, hb1⟩
  clear hV hck
  obtain ⟨c0, c1⟩ := gcell.out w1 hb1
  obtain ⟨M, hM⟩ : ∃ M, mayT (x, y) = M := ⟨_, rfl⟩
  have hmy := rmay_any x y w1 M hM
  go_wp2_with fail
  refine hmy.mono ?_
  rintro en w2 ⟨rfl, hb2⟩
  have hb2 := hb1.trans (hb2.mono hb1.size)
  clear hmy c0 c1 hb1
  cases M with
  | false =>
    have gE : Hid (RowPost w (setO l (x, y)) (setE l (x, y)) = RowPost w [] 8) := Lib.hid (by rw [set_may gE0.out hM, set_mayO gE0.out hM])
    clear hM
    go_wp2
    go_ret2
    rw [gE.out]
    exact rowPost_none (gT.out _ hb2).2
  | true =>
  obtain ⟨c0, c1⟩ := gcell.out w2 hb2
  obtain ⟨I, hI⟩ : ∃ I, l.contains (x, y) = I := ⟨_, rfl⟩
  have hin := rin_any A n c l x y (by first | omega | (unfold maxLen; omega)) w2 (gT.out w2 hb2).1 I hI
  have gM := Lib.hid hM
  clear hM
  go_wp2_with fail
  refine hin.mono ?_
  rintro en w3 ⟨rfl, hb3⟩
  have hb3 := hb2.trans (hb3.mono hb2.size)
  clear hin c0 c1 hb2
  cases I with
  | true =>
    have gE : Hid (RowPost w (setO l (x, y)) (setE l (x, y)) = RowPost w [] 12) := Lib.hid (by rw [set_in gE0.out gM.out hI, set_inO gE0.out gM.out hI])
    clear hI
    go_wp2
    go_ret2
    rw [gE.out]
    exact rowPost_none (gT.out _ hb3).2
  | false =>
  have gI := Lib.hid hI
  clear hI
  by_cases hf : 1024 ≤ n
  · have d9 : decide ((1024 : Int) ≤ n) = true := by simp; have := gstr.out.1; rw [gl.out] at this; omega
    have gE : Hid (RowPost w (setO l (x, y)) (setE l (x, y)) = RowPost w [] 9) := Lib.hid (by rw [set_full gE0.out gM.out gI.out (by rw [gl.out]; exact hf), set_fullO gE0.out gM.out gI.out (by rw [gl.out]; exact hf)])
    clear hf
    go_wp2
    go_ret2
    rw [gE.out]
    exact rowPost_none (gT.out _ hb3).2
  have d9 : decide ((1024 : Int) ≤ n) = false := by simp; omega
  have gE : Hid (RowPost w (setO l (x, y)) (setE l (x, y)) = RowPost w (wth l (x, y)) 0) := Lib.hid (by rw [set_ok gE0.out gM.out gI.out (by rw [gl.out]; omega), set_okO gE0.out gM.out gI.out (by rw [gl.out]; omega)])
  have glen : Hid ((wth l (x, y)).length = n + 1) := Lib.hid (by rw [wth_len, gl.out])
  have hn : n ≤ 1023 := by omega
  clear hf
  obtain ⟨c0, c1⟩ := gcell.out w3 hb3
  have hwt := rwith_any A n c l x y hm w3 (gT.out w3 hb3).1
  go_wp2_with fail
  refine hwt.mono ?_
  rintro en w4 ⟨A4, c4, m4, rfl, hm4, hO4, hb4⟩
  obtain rfl : m4 = n + 1 := by rw [hm4, gl.out]
  clear hm4 hwt c0 c1
  go_wp2
  go_ret2
  rw [gE.out]
  exact ⟨A4, c4, by rw [glen.out]; rfl, by rw [glen.out]; exact own_base_le hO4.2 (gT.out w3 hb3).2.size, (gT.out w3 hb3).2.trans (hb4.mono (gT.out w3 hb3).2.size)⟩
set_option maxRecDepth 100000 in
set_option maxHeartbeats 16000000 in
theorem set_any (A : Option Addr) (n c : Nat) (l : List Tm) (x y : Int) (hm : n ≤ 5000) (w : World) (h : Tms w w.heap.size A n l) : Calls Try.prog 15 #[.slice A n c, .agg #[.int .i64 x, .int .i64 y]] w (RowPost w (setO l (x, y)) (setE l (x, y))) := by
  have gl := Lib.hid h.1
  obtain ⟨i0, hi0, hz0, hz1, hz2⟩ := info_parts infoT
  obtain ⟨V, hV⟩ : ∃ V, V = w.alloc (.cells #[.int .i64 x, .int .i64 y] 35) := ⟨_, rfl⟩
  have hB0 : Below w.heap.size w V := by rw [hV]; exact (Below.refl _ _).alloc (Nat.le_refl _) _
  have kb : Blk V w.heap.size 35 #[.int .i64 x, .int .i64 y] := by rw [hV]; exact Blk.new w _ _
  have gcell : Hid (∀ v', Below V.heap.size V v' → v'.cell? ⟨w.heap.size, 0, none⟩ = some (.int .i64 x) ∧ v'.cell? ⟨w.heap.size, 1, none⟩ = some (.int .i64 y)) := Lib.hid (fun v' hb => ⟨by rw [(kb.below hb kb.lt).cell]; rfl, by rw [(kb.below hb kb.lt).cell]; rfl⟩)
  have gT : Hid (∀ v', Below V.heap.size V v' → Tms v' v'.heap.size A n l ∧ Below w.heap.size w v') := Lib.hid (fun v' hb => ⟨h.go (hB0.trans (hb.mono hB0.size)) (Nat.le_trans hB0.size hb.size), hB0.trans (hb.mono hB0.size)⟩)
  have hTV := h.go hB0 hB0.size
  have hBV := Below.refl V.heap.size V
  rcases chk_vals l with hE | hE | hE
  rotate_left
  · have hck := check_any A n c l V hTV (by unfold maxLen; omega) 4 hE
    have gE : Hid (RowPost w (setO l (x, y)) (setE l (x, y)) = RowPost w [] 4) := Lib.hid (by rw [set_chk (by rw [hE]; decide), set_none (by rw [hE]; decide), hE])
    clear hTV h kb gcell gT hE
    go_enter Try.func15, Try.ntmps15
    go_wp2_with fail
    rw [← hV]
    refine hck.mono ?_
    rintro en w1 ⟨rfl, hb1⟩
    clear hV
    go_wp2
    go_ret2
    rw [gE.out]
    exact rowPost_none (hB0.trans (hb1.mono hB0.size))
  · have hck := check_any A n c l V hTV (by unfold maxLen; omega) 8 hE
    have gE : Hid (RowPost w (setO l (x, y)) (setE l (x, y)) = RowPost w [] 8) := Lib.hid (by rw [set_chk (by rw [hE]; decide), set_none (by rw [hE]; decide), hE])
    clear hTV h kb gcell gT hE
    go_enter Try.func15, Try.ntmps15
    go_wp2_with fail
    rw [← hV]
    refine hck.mono ?_
    rintro en w1 ⟨rfl, hb1⟩
    clear hV
    go_wp2
    go_ret2
    rw [gE.out]
    exact rowPost_none (hB0.trans (hb1.mono hB0.size))
  have hck := check_any A n c l V hTV (by unfold maxLen; omega) 0 hE
  have gstr := Lib.hid (chk_str hE)
  have gE0 := Lib.hid hE
  clear hTV h kb hE
  go_enter Try.func15, Try.ntmps15
  go_wp2_with fail
  rw [← hV]
  refine hck.mono ?_
  rintro en w1 ⟨rfl, hb1⟩
  clear hV hck
  obtain ⟨c0, c1⟩ := gcell.out w1 hb1
  obtain ⟨M, hM⟩ : ∃ M, mayT (x, y) = M := ⟨_, rfl⟩
  have hmy := may_any x y w1 M hM
  go_wp2_with fail
  refine hmy.mono ?_
  rintro en w2 ⟨rfl, hb2⟩
  have hb2 := hb1.trans (hb2.mono hb1.size)
  clear hmy c0 c1 hb1
  cases M with
  | false =>
    have gE : Hid (RowPost w (setO l (x, y)) (setE l (x, y)) = RowPost w [] 8) := Lib.hid (by rw [set_may gE0.out hM, set_mayO gE0.out hM])
    clear hM
    go_wp2
    go_ret2
    rw [gE.out]
    exact rowPost_none (gT.out _ hb2).2
  | true =>
  obtain ⟨c0, c1⟩ := gcell.out w2 hb2
  obtain ⟨I, hI⟩ : ∃ I, l.contains (x, y) = I := ⟨_, rfl⟩
  have hin := contains_any A n c l x y (by first | omega | (unfold maxLen; omega)) w2 (gT.out w2 hb2).1 I hI
  have gM := Lib.hid hM
  clear hM
  go_wp2_with fail
  refine hin.mono ?_
  rintro en w3 ⟨rfl, hb3⟩
  have hb3 := hb2.trans (hb3.mono hb2.size)
  clear hin c0 c1 hb2
  cases I with
  | true =>
    have gE : Hid (RowPost w (setO l (x, y)) (setE l (x, y)) = RowPost w [] 12) := Lib.hid (by rw [set_in gE0.out gM.out hI, set_inO gE0.out gM.out hI])
    clear hI
    go_wp2
    go_ret2
    rw [gE.out]
    exact rowPost_none (gT.out _ hb3).2
  | false =>
  have gI := Lib.hid hI
  clear hI
  by_cases hf : 1024 ≤ n
  · have d9 : ((n : Int) == 1024) = true := by simp; have := gstr.out.1; rw [gl.out] at this; omega
    have gE : Hid (RowPost w (setO l (x, y)) (setE l (x, y)) = RowPost w [] 9) := Lib.hid (by rw [set_full gE0.out gM.out gI.out (by rw [gl.out]; exact hf), set_fullO gE0.out gM.out gI.out (by rw [gl.out]; exact hf)])
    clear hf
    go_wp2
    go_ret2
    rw [gE.out]
    exact rowPost_none (gT.out _ hb3).2
  have d9 : ((n : Int) == 1024) = false := by simp; omega
  have gE : Hid (RowPost w (setO l (x, y)) (setE l (x, y)) = RowPost w (wth l (x, y)) 0) := Lib.hid (by rw [set_ok gE0.out gM.out gI.out (by rw [gl.out]; omega), set_okO gE0.out gM.out gI.out (by rw [gl.out]; omega)])
  have glen : Hid ((wth l (x, y)).length = n + 1) := Lib.hid (by rw [wth_len, gl.out])
  have hn : n ≤ 1023 := by omega
  clear hf
  have hcn := fun w' (hb : Below w3.heap.size w3 w') => clone_any A n c l hm w' (gT.out w' (hb3.trans (hb.mono hb3.size))).1
  have hS : ∀ w', Below w3.heap.size w3 w' → w'.cell? ⟨w.heap.size, 0, none⟩ = some (.int .i64 x) ∧ w'.cell? ⟨w.heap.size, 1, none⟩ = some (.int .i64 y) := fun w' hb => gcell.out w' (hb3.trans (hb.mono hb3.size))
  have hor : ∀ w6 A6 c6, Tms w6 w6.heap.size A6 (n + 1) (l ++ [(x, y)]) → Calls Try.prog 9 #[.slice A6 (n + 1) c6] w6 fun en w' => ∃ A c, en = .returned (.tuple #[.slice A (n + 1) c, .int .i64 0]) ∧ w'.ownsRow w6.heap.size 35 2 (.slice A (n + 1) c) (n + 1) (T2 (wth l (x, y))) ∧ Below w6.heap.size w6 w' := fun w6 A6 c6 ht => by
    have h1 := order_any A6 (n + 1) c6 (l ++ [(x, y)]) (by unfold maxLen; omega) w6 ht
    unfold OrdPost at h1
    obtain ⟨e1, e2⟩ := set_order gE0.out gM.out gI.out (by rw [gl.out]; exact hn)
    rw [e1, e2, glen.out] at h1
    exact h1
  have gs3 : Hid (w.heap.size ≤ w3.heap.size) := Lib.hid (gT.out w3 hb3).2.size
  go_wp2_with fail
  refine wp_region_held_drew (S := fun w' => w'.cell? ⟨w.heap.size, 0, none⟩ = some (.int .i64 x) ∧ w'.cell? ⟨w.heap.size, 1, none⟩ = some (.int .i64 y)) (by kernel_rfl) (hS _ (by (repeat first | with_reducible assumption | with_reducible exact Below.refl _ _ | with_reducible refine Below.drew ?_ | (with_reducible refine Below.alloc ?_ (by first | exact Nat.le_refl _ | (simp only [World.size_alloc, World.size_drew]; omega) | omega) _)))) (fun hHeld => ?_)
  refine wpAnyH_take (i := 0) (v := ?_) rfl (by kernel_rfl) (by kernel_rfl) (by kernel_rfl) (fun _ _ _ h => h) (Or.inl ⟨by rfl, ?_⟩) (by assumption) ?_
  rotate_left
  · (intro w hSw; (try dsimp only at hSw); go_simp; (try with_reducible rfl))
  (try simp only [Act.put, List.setIfInBounds_toArray, List.set_cons_zero, List.set_cons_succ])
  refine wpAnyH_take (i := 2) (v := ?_) rfl (by kernel_rfl) (by kernel_rfl) (by kernel_rfl) (fun _ _ _ h => h) (Or.inl ⟨by rfl, ?_⟩) (by assumption) ?_
  rotate_left
  · (intro w hSw; (try dsimp only at hSw); go_simp; (try with_reducible rfl))
  (try simp only [Act.put, List.setIfInBounds_toArray, List.set_cons_zero, List.set_cons_succ])
  refine wpAnyH_ready (rs := [1, 3]) (by kernel_rfl) (by simp) ?_
  refine AllReadyH.cons rfl (fun K hK => ?_) (AllReadyH.cons rfl (fun K hK => ?_) AllReadyH.nil)
  · go_simp
    have hq1 : Below w3.heap.size w3 _ := (by (repeat first | with_reducible assumption | with_reducible exact Below.refl _ _ | with_reducible refine Below.drew ?_ | (with_reducible refine Below.alloc ?_ (by first | exact Nat.le_refl _ | (simp only [World.size_alloc, World.size_drew]; omega) | omega) _)) : Below w3.heap.size w3 w3.drew)
    refine (hcn _ hq1).mono ?_
    rintro en w5 ⟨⟨A5, c5, rfl, ho5⟩, hb5⟩
    have hq5 : Below w3.heap.size w3 w5 := hq1.trans (hb5.mono hq1.size)
    refine hK.out _ _ (hS _ (by first | exact hq7 | exact hq6 | exact hq5.alloc hq5.size _ | exact hq5 | ((repeat first | with_reducible assumption | with_reducible exact Below.refl _ _ | with_reducible refine Below.drew ?_ | (with_reducible refine Below.alloc ?_ (by first | exact Nat.le_refl _ | (simp only [World.size_alloc, World.size_drew]; omega) | omega) _))))) (fun hHeld => ?_)
    clear hK K
    (try simp only [Act.put, List.setIfInBounds_toArray, List.set_cons_zero, List.set_cons_succ])
    refine wpAnyH_ready (rs := [3]) (by kernel_rfl) (by simp) ?_
    refine AllReadyH.cons rfl (fun K hK => ?_) AllReadyH.nil
    go_simp
    refine hK.out _ _ (hS _ (by first | exact hq7 | exact hq6 | exact hq5.alloc hq5.size _ | exact hq5 | ((repeat first | with_reducible assumption | with_reducible exact Below.refl _ _ | with_reducible refine Below.drew ?_ | (with_reducible refine Below.alloc ?_ (by first | exact Nat.le_refl _ | (simp only [World.size_alloc, World.size_drew]; omega) | omega) _))))) (fun hHeld => ?_)
    clear hK K
    (try simp only [Act.put, List.setIfInBounds_toArray, List.set_cons_zero, List.set_cons_succ])
    refine wpAnyH_ready (rs := [4]) (by kernel_rfl) (by simp) ?_
    refine AllReadyH.cons rfl (fun K hK => ?_) AllReadyH.nil
    refine step_append_any _ rfl (.tmp 26) (.tmp 28) 22 rfl w3.heap.size 35 i0 _ 2 16 Try.underlying22 hi0 hz0 hz1 hz2 rfl (by omega) (.slice A5 n c5) n _ rfl (own_below ho5 ((Below.refl w5.heap.size w5).alloc (Nat.le_refl _) _)) (w5.heap.size + 1) _ 1 1 [.int .i64 x, .int .i64 y] rfl (reads_one w5 [.int .i64 x, .int .i64 y] 35 2 rfl) (two_one (x, y)) (by unfold maxLen; omega) (by omega) (by have := hq5.size; simp; omega) ?_
    intro v6 w6 ho6 hg6 _
    have hq6 : Below w3.heap.size w3 w6 := Below.grown (hq5.alloc hq5.size (.cells #[.int .i64 x, .int .i64 y] 35)) hg6 (by have := hq5.size; simp; omega) (fun q hq => own_base ho5 hq)
    obtain ⟨A6, c6, rfl, _, _⟩ := own_slice ho6
    have ht6 := Tms.of_own (l := l ++ [(x, y)]) (by rw [T2_app]; exact ho6) (by rw [List.length_append, gl.out]; rfl)
    refine hK.out _ _ (hS _ (by first | exact hq7 | exact hq6 | exact hq5.alloc hq5.size _ | exact hq5 | ((repeat first | with_reducible assumption | with_reducible exact Below.refl _ _ | with_reducible refine Below.drew ?_ | (with_reducible refine Below.alloc ?_ (by first | exact Nat.le_refl _ | (simp only [World.size_alloc, World.size_drew]; omega) | omega) _))))) (fun hHeld => ?_)
    clear hK K
    (try simp only [Act.put, List.setIfInBounds_toArray, List.set_cons_zero, List.set_cons_succ])
    refine wpAnyH_ready (rs := [5]) (by kernel_rfl) (by simp) ?_
    refine AllReadyH.cons rfl (fun K hK => ?_) AllReadyH.nil
    go_simp
    refine (hor w6 A6 c6 ht6).mono ?_
    rintro en w7 ⟨A7, c7, rfl, ho7, hb7⟩
    have hq7 : Below w3.heap.size w3 w7 := hq6.trans (hb7.mono hq6.size)
    refine hK.out _ _ (hS _ (by first | exact hq7 | exact hq6 | exact hq5.alloc hq5.size _ | exact hq5 | ((repeat first | with_reducible assumption | with_reducible exact Below.refl _ _ | with_reducible refine Below.drew ?_ | (with_reducible refine Below.alloc ?_ (by first | exact Nat.le_refl _ | (simp only [World.size_alloc, World.size_drew]; omega) | omega) _))))) (fun hHeld => ?_)
    clear hK K
    (try simp only [Act.put, List.setIfInBounds_toArray, List.set_cons_zero, List.set_cons_succ])
    refine wpAnyH_take (i := 6) (v := ?_) rfl (by kernel_rfl) (by kernel_rfl) (by kernel_rfl) (fun _ _ _ h => h) (Or.inl ⟨by rfl, ?_⟩) (by assumption) ?_
    rotate_left
    · (intro w hSw; (try dsimp only at hSw); go_simp; (try with_reducible rfl))
    (try simp only [Act.put, List.setIfInBounds_toArray, List.set_cons_zero, List.set_cons_succ])
    refine wpAnyH_take (i := 7) (v := ?_) rfl (by kernel_rfl) (by kernel_rfl) (by kernel_rfl) (fun _ _ _ h => h) (Or.inl ⟨by rfl, ?_⟩) (by assumption) ?_
    rotate_left
    · (intro w hSw; (try dsimp only at hSw); go_simp; (try with_reducible rfl))
    (try simp only [Act.put, List.setIfInBounds_toArray, List.set_cons_zero, List.set_cons_succ])
    refine wpAnyH_ready (rs := [8]) (by kernel_rfl) (by simp) ?_
    refine AllReadyH.cons rfl (fun K hK => ?_) AllReadyH.nil
    go_simp
    refine hK.out _ _ (hS _ (by first | exact hq7 | exact hq6 | exact hq5.alloc hq5.size _ | exact hq5 | ((repeat first | with_reducible assumption | with_reducible exact Below.refl _ _ | with_reducible refine Below.drew ?_ | (with_reducible refine Below.alloc ?_ (by first | exact Nat.le_refl _ | (simp only [World.size_alloc, World.size_drew]; omega) | omega) _))))) (fun hHeld => ?_)
    clear hK K
    (try simp only [Act.put, List.setIfInBounds_toArray, List.set_cons_zero, List.set_cons_succ])
    refine wpAnyH_ready (rs := [9]) (by kernel_rfl) (by simp) ?_
    refine AllReadyH.cons rfl (fun K hK => ?_) AllReadyH.nil
    go_simp
    refine hK.out _ _ (hS _ (by first | exact hq7 | exact hq6 | exact hq5.alloc hq5.size _ | exact hq5 | ((repeat first | with_reducible assumption | with_reducible exact Below.refl _ _ | with_reducible refine Below.drew ?_ | (with_reducible refine Below.alloc ?_ (by first | exact Nat.le_refl _ | (simp only [World.size_alloc, World.size_drew]; omega) | omega) _))))) (fun hHeld => ?_)
    clear hK K
    (try simp only [Act.put, List.setIfInBounds_toArray, List.set_cons_zero, List.set_cons_succ])
    refine wpAnyH_done (by kernel_rfl) ?_ _
    go_wp2
    go_ret2
    rw [gE.out]
    exact ⟨A7, c7, by rw [glen.out]; rfl, by rw [glen.out]; exact own_base_le ho7 (Nat.le_trans gs3.out hq6.size), (gT.out w3 hb3).2.trans (hq7.mono gs3.out)⟩
  · go_simp
    refine hK.out _ _ (hS _ (by first | exact hq7 | exact hq6 | exact hq5.alloc hq5.size _ | exact hq5 | ((repeat first | with_reducible assumption | with_reducible exact Below.refl _ _ | with_reducible refine Below.drew ?_ | (with_reducible refine Below.alloc ?_ (by first | exact Nat.le_refl _ | (simp only [World.size_alloc, World.size_drew]; omega) | omega) _))))) (fun hHeld => ?_)
    clear hK K
    (try simp only [Act.put, List.setIfInBounds_toArray, List.set_cons_zero, List.set_cons_succ])
    refine wpAnyH_ready (rs := [1]) (by kernel_rfl) (by simp) ?_
    refine AllReadyH.cons rfl (fun K hK => ?_) AllReadyH.nil
    go_simp
    have hq1 : Below w3.heap.size w3 _ := (by (repeat first | with_reducible assumption | with_reducible exact Below.refl _ _ | with_reducible refine Below.drew ?_ | (with_reducible refine Below.alloc ?_ (by first | exact Nat.le_refl _ | (simp only [World.size_alloc, World.size_drew]; omega) | omega) _)) : Below w3.heap.size w3 (w3.drew.alloc (.cells #[.int .i64 x, .int .i64 y] 35)))
    refine (hcn _ hq1).mono ?_
    rintro en w5 ⟨⟨A5, c5, rfl, ho5⟩, hb5⟩
    have hq5 : Below w3.heap.size w3 w5 := hq1.trans (hb5.mono hq1.size)
    have kn5 : Blk w5 w3.heap.size 35 #[.int .i64 x, .int .i64 y] := (show Blk (w3.drew.alloc (.cells #[.int .i64 x, .int .i64 y] 35)) w3.heap.size 35 #[.int .i64 x, .int .i64 y] from Blk.new w3.drew _ _).below hb5 (by simp)
    refine hK.out _ _ (hS _ (by first | exact hq7 | exact hq6 | exact hq5.alloc hq5.size _ | exact hq5 | ((repeat first | with_reducible assumption | with_reducible exact Below.refl _ _ | with_reducible refine Below.drew ?_ | (with_reducible refine Below.alloc ?_ (by first | exact Nat.le_refl _ | (simp only [World.size_alloc, World.size_drew]; omega) | omega) _))))) (fun hHeld => ?_)
    clear hK K
    (try simp only [Act.put, List.setIfInBounds_toArray, List.set_cons_zero, List.set_cons_succ])
    refine wpAnyH_ready (rs := [4]) (by kernel_rfl) (by simp) ?_
    refine AllReadyH.cons rfl (fun K hK => ?_) AllReadyH.nil
    refine step_append_any _ rfl (.tmp 26) (.tmp 28) 22 rfl w3.heap.size 35 i0 _ 2 16 Try.underlying22 hi0 hz0 hz1 hz2 rfl (by omega) (.slice A5 n c5) n _ rfl (own_base_le ho5 (by simp)) (w3.heap.size + 1) _ 1 1 [.int .i64 x, .int .i64 y] rfl (reads_blk (size := 2) kn5 rfl) (two_one (x, y)) (by unfold maxLen; omega) (by omega) hq5.size ?_
    intro v6 w6 ho6 hg6 _
    have hq6 : Below w3.heap.size w3 w6 := Below.grown hq5 hg6 hq5.size (fun q hq => own_base (own_base_le ho5 (by simp)) hq)
    obtain ⟨A6, c6, rfl, _, _⟩ := own_slice ho6
    have ht6 := Tms.of_own (l := l ++ [(x, y)]) (by rw [T2_app]; exact ho6) (by rw [List.length_append, gl.out]; rfl)
    refine hK.out _ _ (hS _ (by first | exact hq7 | exact hq6 | exact hq5.alloc hq5.size _ | exact hq5 | ((repeat first | with_reducible assumption | with_reducible exact Below.refl _ _ | with_reducible refine Below.drew ?_ | (with_reducible refine Below.alloc ?_ (by first | exact Nat.le_refl _ | (simp only [World.size_alloc, World.size_drew]; omega) | omega) _))))) (fun hHeld => ?_)
    clear hK K
    (try simp only [Act.put, List.setIfInBounds_toArray, List.set_cons_zero, List.set_cons_succ])
    refine wpAnyH_ready (rs := [5]) (by kernel_rfl) (by simp) ?_
    refine AllReadyH.cons rfl (fun K hK => ?_) AllReadyH.nil
    go_simp
    refine (hor w6 A6 c6 ht6).mono ?_
    rintro en w7 ⟨A7, c7, rfl, ho7, hb7⟩
    have hq7 : Below w3.heap.size w3 w7 := hq6.trans (hb7.mono hq6.size)
    refine hK.out _ _ (hS _ (by first | exact hq7 | exact hq6 | exact hq5.alloc hq5.size _ | exact hq5 | ((repeat first | with_reducible assumption | with_reducible exact Below.refl _ _ | with_reducible refine Below.drew ?_ | (with_reducible refine Below.alloc ?_ (by first | exact Nat.le_refl _ | (simp only [World.size_alloc, World.size_drew]; omega) | omega) _))))) (fun hHeld => ?_)
    clear hK K
    (try simp only [Act.put, List.setIfInBounds_toArray, List.set_cons_zero, List.set_cons_succ])
    refine wpAnyH_take (i := 6) (v := ?_) rfl (by kernel_rfl) (by kernel_rfl) (by kernel_rfl) (fun _ _ _ h => h) (Or.inl ⟨by rfl, ?_⟩) (by assumption) ?_
    rotate_left
    · (intro w hSw; (try dsimp only at hSw); go_simp; (try with_reducible rfl))
    (try simp only [Act.put, List.setIfInBounds_toArray, List.set_cons_zero, List.set_cons_succ])
    refine wpAnyH_take (i := 7) (v := ?_) rfl (by kernel_rfl) (by kernel_rfl) (by kernel_rfl) (fun _ _ _ h => h) (Or.inl ⟨by rfl, ?_⟩) (by assumption) ?_
    rotate_left
    · (intro w hSw; (try dsimp only at hSw); go_simp; (try with_reducible rfl))
    (try simp only [Act.put, List.setIfInBounds_toArray, List.set_cons_zero, List.set_cons_succ])
    refine wpAnyH_ready (rs := [8]) (by kernel_rfl) (by simp) ?_
    refine AllReadyH.cons rfl (fun K hK => ?_) AllReadyH.nil
    go_simp
    refine hK.out _ _ (hS _ (by first | exact hq7 | exact hq6 | exact hq5.alloc hq5.size _ | exact hq5 | ((repeat first | with_reducible assumption | with_reducible exact Below.refl _ _ | with_reducible refine Below.drew ?_ | (with_reducible refine Below.alloc ?_ (by first | exact Nat.le_refl _ | (simp only [World.size_alloc, World.size_drew]; omega) | omega) _))))) (fun hHeld => ?_)
    clear hK K
    (try simp only [Act.put, List.setIfInBounds_toArray, List.set_cons_zero, List.set_cons_succ])
    refine wpAnyH_ready (rs := [9]) (by kernel_rfl) (by simp) ?_
    refine AllReadyH.cons rfl (fun K hK => ?_) AllReadyH.nil
    go_simp
    refine hK.out _ _ (hS _ (by first | exact hq7 | exact hq6 | exact hq5.alloc hq5.size _ | exact hq5 | ((repeat first | with_reducible assumption | with_reducible exact Below.refl _ _ | with_reducible refine Below.drew ?_ | (with_reducible refine Below.alloc ?_ (by first | exact Nat.le_refl _ | (simp only [World.size_alloc, World.size_drew]; omega) | omega) _))))) (fun hHeld => ?_)
    clear hK K
    (try simp only [Act.put, List.setIfInBounds_toArray, List.set_cons_zero, List.set_cons_succ])
    refine wpAnyH_done (by kernel_rfl) ?_ _
    go_wp2
    go_ret2
    rw [gE.out]
    exact ⟨A7, c7, by rw [glen.out]; rfl, by rw [glen.out]; exact own_base_le ho7 (Nat.le_trans gs3.out hq6.size), (gT.out w3 hb3).2.trans (hq7.mono gs3.out)⟩
end Go.Proofs.Ythageikchniahaa
