/- Door: ledger.Sum, Of -/
import Derived.Test.YtmppalgecboeeaaDoorED
namespace Go.Proofs.YtmppalgecboeeaaDoor
open Go.ChangeShapes Go.WideShapes Go.ChangeAt Go.RowKit
set_option linter.unusedSimpArgs false
set_option linter.unusedVariables false
open Go.Shelf
set_option maxRecDepth 100000
def sumE (l : List En) (N : Int) : Option Ms := sumL ((l.filter (fun x => x.ep == N)).map (·.give))
def ofE (l : List En) (N y : Int) : Option Ms := sumL ((l.filter (fun x => x.ep == N && x.why == y)).map (·.give))
theorem chkL_zero {l : List En} (h : chkL l = 0) : l.length ≤ 8192 ∧ ∀ x ∈ l, goodE x = true := by
  unfold chkL at h
  by_cases h1 : 8192 < l.length
  · rw [if_pos h1] at h; cases h
  · rw [if_neg h1] at h
    by_cases h2 : l.all goodE = true
    · exact ⟨by omega, List.all_eq_true.1 h2⟩
    · rw [if_neg h2] at h; cases h
theorem askL_zero {l : List En} {N y : Int} (h : askL l N y = 0) : chkL l = 0 ∧ eraN N = true ∧ knK y = true := by
  unfold askL at h
  by_cases h1 : chkL l ≠ 0
  · rw [if_pos h1] at h; exact absurd h h1
  · rw [if_neg h1] at h
    by_cases h2 : (eraN N && knK y) = true
    · exact ⟨Decidable.not_not.1 h1, by simpa [Bool.and_eq_true] using h2⟩
    · rw [if_neg h2] at h; cases h
theorem goodE_may {x : En} (h : goodE x = true) : mayM x.give = true := by
  unfold goodE at h
  simp only [Bool.and_eq_true] at h
  exact h.2.2
/-- What a sum over a ledger answers: the error of the question, or the sum. -/
def LSumP (E : Int) (o : Option Ms) (w : World) (en : Ending) (w' : World) : Prop := Below w.heap.size w w' ∧ ((E ≠ 0 ∧ en = .returned (.tuple #[.agg #[.bool false, .slice none 0 0, .int .i64 0, .bool false, .slice none 0 0, .int .i64 0, .bool false, .slice none 0 0, .int .i64 0, .bool false, .slice none 0 0, .int .i64 0], .int .i64 E])) ∨ (E = 0 ∧ ((o = none ∧ en = .returned (.tuple #[.agg #[.bool false, .slice none 0 0, .int .i64 0, .bool false, .slice none 0 0, .int .i64 0, .bool false, .slice none 0 0, .int .i64 0, .bool false, .slice none 0 0, .int .i64 0], .int .i64 10])) ∨
  (∃ d, o = some d ∧ ∃ (X0 : Option Addr) (c0 : Nat) (X1 : Option Addr) (c1 : Nat) (X2 : Option Addr) (c2 : Nat) (X3 : Option Addr) (c3 : Nat), en = .returned (.tuple #[.agg #[.bool d.s.neg, .slice X0 d.s.ls.length c0, .int .i64 d.s.ex, .bool d.w.neg, .slice X1 d.w.ls.length c1, .int .i64 d.w.ex, .bool d.c.neg, .slice X2 d.c.ls.length c2, .int .i64 d.c.ex, .bool d.a.neg, .slice X3 d.a.ls.length c3, .int .i64 d.a.ex], .int .i64 0]) ∧ OwD w' w.heap.size X0 c0 d.s ∧ OwD w' w.heap.size X1 c1 d.w ∧ OwD w' w.heap.size X2 c2 d.c ∧ OwD w' w.heap.size X3 c3 d.a))))
set_option maxHeartbeats 8000000 in
theorem lsumS_any (A : Option Addr) (n c : Nat) (l : List En) (hm : n ≤ 8300) (w : World) (h1 : Ens w w.heap.size A n l) (hl : ∀ x ∈ l, ltM4 x.give) (N : Int) (hT : Tab w) : Calls Tryd.prog 13 #[.slice A n c, .int .i64 N] w (LSumP (askL l N 1) (sumE l N) w) := by
  obtain ⟨V, hV⟩ : ∃ V, V = ((w.alloc (.cells #[.int .i64 N] 3)).alloc (.cells #[.bool false, .slice none 0 0, .int .i64 0, .bool false, .slice none 0 0, .int .i64 0, .bool false, .slice none 0 0, .int .i64 0, .bool false, .slice none 0 0, .int .i64 0] 27)) := ⟨_, rfl⟩
  have kb0 : Blk V (w.heap.size) 3 #[.int .i64 N] := by
    have h := (Blk.new w 3 #[.int .i64 N]).alloc (.cells #[.bool false, .slice none 0 0, .int .i64 0, .bool false, .slice none 0 0, .int .i64 0, .bool false, .slice none 0 0, .int .i64 0, .bool false, .slice none 0 0, .int .i64 0] 27)
    (try simp only [World.size_alloc] at h)
    rw [hV]; exact h
  have kr : Blk V (w.heap.size + 1) 27 #[.bool false, .slice none 0 0, .int .i64 0, .bool false, .slice none 0 0, .int .i64 0, .bool false, .slice none 0 0, .int .i64 0, .bool false, .slice none 0 0, .int .i64 0] := by
    have h := Blk.new (w.alloc (.cells #[.int .i64 N] 3)) 27 #[.bool false, .slice none 0 0, .int .i64 0, .bool false, .slice none 0 0, .int .i64 0, .bool false, .slice none 0 0, .int .i64 0, .bool false, .slice none 0 0, .int .i64 0]
    simp only [World.size_alloc] at h
    rw [hV]; exact h
  have hB : Below w.heap.size w V := by rw [hV]; exact ((Below.refl _ w).alloc (Nat.le_refl _) _).alloc (by simp only [World.size_alloc]; omega) _
  have sz : V.heap.size = w.heap.size + 1 + 1 := by rw [hV]; simp only [World.size_alloc]
  have ha := asked_any A n c l hm V ((h1.below hB).more hB.size) N 1
  have gz := Lib.hid (fun h => (chkL_zero (askL_zero (l := l) (N := N) (y := 1) h).1).2)
  obtain ⟨E, hE⟩ : ∃ E, askL l N 1 = E := ⟨_, rfl⟩
  rw [hE] at ha gz
  have gh1 := Lib.hid h1
  have gT := Lib.hid hT
  have gl := Lib.hid hl
  have gB := Lib.hid hB
  have gkr := Lib.hid kr
  have gk0 := Lib.hid kb0
  rw [hE]
  clear h1 hT hl hB kr kb0 hE
  go_enter Tryd.func13, Tryd.ntmps13
  go_wp2_with fail
  rw [← hV]
  clear hV
  refine ha.mono ?_
  rintro en w1 ⟨rfl, hb1⟩
  clear ha
  by_cases h0 : E = 0
  rotate_left
  · have t0 : (E != 0) = true := bne_iff_ne.2 h0
    have k3 := gkr.out.below hb1 (by omega)
    have hB1 := gB.out.trans (hb1.mono gB.out.size)
    have kz := k3.setRow #[.bool false, .slice none 0 0, .int .i64 0, .bool false, .slice none 0 0, .int .i64 0, .bool false, .slice none 0 0, .int .i64 0, .bool false, .slice none 0 0, .int .i64 0]
    have hBz := below_setRow (g := w.heap.size + 1) hB1 (by omega) #[.bool false, .slice none 0 0, .int .i64 0, .bool false, .slice none 0 0, .int .i64 0, .bool false, .slice none 0 0, .int .i64 0, .bool false, .slice none 0 0, .int .i64 0]
    have g0 := Lib.hid h0
    clear h0
    go_wp2_with (refine wpList_store_row rfl 27 _ _ rfl (w.heap.size + 1) #[.bool false, .slice none 0 0, .int .i64 0, .bool false, .slice none 0 0, .int .i64 0, .bool false, .slice none 0 0, .int .i64 0, .bool false, .slice none 0 0, .int .i64 0] rfl rfl 27 #[.bool false, .slice none 0 0, .int .i64 0, .bool false, .slice none 0 0, .int .i64 0, .bool false, .slice none 0 0, .int .i64 0, .bool false, .slice none 0 0, .int .i64 0] ?_ info_mass rfl (by simp [Value.oneCell']) ?_; exact k3)
    refine bodyPost_ret (ret_mass rfl _ _ (w.heap.size + 1) #[.bool false, .slice none 0 0, .int .i64 0, .bool false, .slice none 0 0, .int .i64 0, .bool false, .slice none 0 0, .int .i64 0, .bool false, .slice none 0 0, .int .i64 0] (.int .i64 E) rfl kz (by kernel_rfl) rfl) rfl ?_
    exact ⟨hBz, .inl ⟨g0.out, rfl⟩⟩
  · subst h0
    have hB1 := gB.out.trans (hb1.mono gB.out.size)
    have hch := chosen_any A n c 41 #[.pointer (some ⟨w.heap.size, 0, none⟩)] w1
    obtain ⟨W2, hW2⟩ : ∃ W2, W2 = (w1.alloc (.cells #[.slice A n c] 22)).alloc (.cells #[.func (.func 41) #[] #[.pointer (some ⟨w.heap.size, 0, none⟩)]] 70) := ⟨_, rfl⟩
    have hb2 : Below w1.heap.size w1 W2 := by rw [hW2]; exact ((Below.refl _ w1).alloc (Nat.le_refl _) _).alloc (by simp) _
    have hV2 : Below V.heap.size V W2 := hb1.trans (hb2.mono hb1.size)
    have hB2 := gB.out.trans (hV2.mono gB.out.size)
    have c1 : W2.cell? ⟨w1.heap.size, 0, none⟩ = some (.slice A n c) := by
      have h := (Blk.new w1 22 #[.slice A n c]).alloc (.cells #[.func (.func 41) #[] #[.pointer (some ⟨w.heap.size, 0, none⟩)]] 70)
      rw [hW2, h.cell]; rfl
    have c2 : W2.cell? ⟨w1.heap.size + 1, 0, none⟩ = some (.func (.func 41) #[] #[.pointer (some ⟨w.heap.size, 0, none⟩)]) := by
      have h := Blk.new (w1.alloc (.cells #[.slice A n c] 22)) 70 #[.func (.func 41) #[] #[.pointer (some ⟨w.heap.size, 0, none⟩)]]
      rw [World.size_alloc] at h
      rw [hW2, h.cell]; rfl
    have d0 : W2.cell? ⟨w.heap.size, 0, none⟩ = some (.int .i64 N) := by rw [(gk0.out.below hV2 gk0.out.lt).cell]; rfl
    have hen : Ens W2 W2.heap.size A n l := (gh1.out.below hB2).more hB2.size
    have hto := total_any W2 #[.pointer (some ⟨w1.heap.size, 0, none⟩), .pointer (some ⟨w1.heap.size + 1, 0, none⟩)] ((l.filter (fun x => x.ep == N)).map (·.give)) l.length (gT.out.below hB2 gT.out.2)
      (fun w0 hw0 => chosenS_seq W2 A n c l hm hen (fun x hx => ⟨goodE_may (gz.out rfl x hx), gl.out x hx⟩) w1.heap.size (w1.heap.size + 1) (w.heap.size) N c1 c2 d0 5 (by omega) w0 hw0)
    have gto := Lib.hid hto
    have gV2 := Lib.hid hV2
    have gB2 := Lib.hid hB2
    have k2 := gkr.out.below hV2 gkr.out.lt
    have gk := Lib.hid k2
    clear hen hto hV2 hB2 k2 hb2 c1 c2 d0
    go_wp2_with fail
    refine hch.mono ?_
    rintro en w2 ⟨rfl, rfl⟩
    rw [← hW2]
    clear hch hW2
    go_wp2_with fail
    refine gto.out.mono ?_
    rintro en w3 ⟨hb3, hres⟩
    clear gto
    have k3 := gk.out.below hb3 gk.out.lt
    have hB3 := gB2.out.trans (hb3.mono gB2.out.size)
    have hs2 : w.heap.size + 1 + 1 ≤ W2.heap.size := by have h := gV2.out.size; omega
    rcases hres with ⟨h2, rfl⟩ | ⟨d, h2, X0, c0, X1, c1, X2, c2, X3, c3, rfl, o0, o1, o2, o3⟩
    · have kz := k3.setRow #[.bool false, .slice none 0 0, .int .i64 0, .bool false, .slice none 0 0, .int .i64 0, .bool false, .slice none 0 0, .int .i64 0, .bool false, .slice none 0 0, .int .i64 0]
      have hBz := below_setRow (g := w.heap.size + 1) hB3 (by omega) #[.bool false, .slice none 0 0, .int .i64 0, .bool false, .slice none 0 0, .int .i64 0, .bool false, .slice none 0 0, .int .i64 0, .bool false, .slice none 0 0, .int .i64 0]
      have g2 : Hid ((sumE l N) = none) := Lib.hid h2
      clear h2
      go_wp2_with (refine wpList_store_row rfl 27 _ _ rfl (w.heap.size + 1) #[.bool false, .slice none 0 0, .int .i64 0, .bool false, .slice none 0 0, .int .i64 0, .bool false, .slice none 0 0, .int .i64 0, .bool false, .slice none 0 0, .int .i64 0] rfl rfl 27 #[.bool false, .slice none 0 0, .int .i64 0, .bool false, .slice none 0 0, .int .i64 0, .bool false, .slice none 0 0, .int .i64 0, .bool false, .slice none 0 0, .int .i64 0] ?_ info_mass rfl (by simp [Value.oneCell']) ?_; exact k3)
      refine bodyPost_ret (ret_mass rfl _ _ (w.heap.size + 1) #[.bool false, .slice none 0 0, .int .i64 0, .bool false, .slice none 0 0, .int .i64 0, .bool false, .slice none 0 0, .int .i64 0, .bool false, .slice none 0 0, .int .i64 0] (.int .i64 10) rfl kz (by kernel_rfl) rfl) rfl ?_
      exact ⟨hBz, .inr ⟨rfl, .inl ⟨g2.out, rfl⟩⟩⟩
    · have kz := k3.setRow #[.bool d.s.neg, .slice X0 d.s.ls.length c0, .int .i64 d.s.ex, .bool d.w.neg, .slice X1 d.w.ls.length c1, .int .i64 d.w.ex, .bool d.c.neg, .slice X2 d.c.ls.length c2, .int .i64 d.c.ex, .bool d.a.neg, .slice X3 d.a.ls.length c3, .int .i64 d.a.ex]
      have hBz := below_setRow (g := w.heap.size + 1) hB3 (by omega) #[.bool d.s.neg, .slice X0 d.s.ls.length c0, .int .i64 d.s.ex, .bool d.w.neg, .slice X1 d.w.ls.length c1, .int .i64 d.w.ex, .bool d.c.neg, .slice X2 d.c.ls.length c2, .int .i64 d.c.ex, .bool d.a.neg, .slice X3 d.a.ls.length c3, .int .i64 d.a.ex]
      have g2 : Hid ((sumE l N) = some d) := Lib.hid h2
      have g3 := Lib.hid (o0.setRow (g := w.heap.size + 1) (by omega) #[.bool d.s.neg, .slice X0 d.s.ls.length c0, .int .i64 d.s.ex, .bool d.w.neg, .slice X1 d.w.ls.length c1, .int .i64 d.w.ex, .bool d.c.neg, .slice X2 d.c.ls.length c2, .int .i64 d.c.ex, .bool d.a.neg, .slice X3 d.a.ls.length c3, .int .i64 d.a.ex] (show w.heap.size ≤ W2.heap.size by omega))
      have g4 := Lib.hid (o1.setRow (g := w.heap.size + 1) (by omega) #[.bool d.s.neg, .slice X0 d.s.ls.length c0, .int .i64 d.s.ex, .bool d.w.neg, .slice X1 d.w.ls.length c1, .int .i64 d.w.ex, .bool d.c.neg, .slice X2 d.c.ls.length c2, .int .i64 d.c.ex, .bool d.a.neg, .slice X3 d.a.ls.length c3, .int .i64 d.a.ex] (show w.heap.size ≤ W2.heap.size by omega))
      have g5 := Lib.hid (o2.setRow (g := w.heap.size + 1) (by omega) #[.bool d.s.neg, .slice X0 d.s.ls.length c0, .int .i64 d.s.ex, .bool d.w.neg, .slice X1 d.w.ls.length c1, .int .i64 d.w.ex, .bool d.c.neg, .slice X2 d.c.ls.length c2, .int .i64 d.c.ex, .bool d.a.neg, .slice X3 d.a.ls.length c3, .int .i64 d.a.ex] (show w.heap.size ≤ W2.heap.size by omega))
      have g6 := Lib.hid (o3.setRow (g := w.heap.size + 1) (by omega) #[.bool d.s.neg, .slice X0 d.s.ls.length c0, .int .i64 d.s.ex, .bool d.w.neg, .slice X1 d.w.ls.length c1, .int .i64 d.w.ex, .bool d.c.neg, .slice X2 d.c.ls.length c2, .int .i64 d.c.ex, .bool d.a.neg, .slice X3 d.a.ls.length c3, .int .i64 d.a.ex] (show w.heap.size ≤ W2.heap.size by omega))
      clear h2 o0 o1 o2 o3
      go_wp2_with (refine wpList_store_row rfl 27 _ _ rfl (w.heap.size + 1) #[.bool d.s.neg, .slice X0 d.s.ls.length c0, .int .i64 d.s.ex, .bool d.w.neg, .slice X1 d.w.ls.length c1, .int .i64 d.w.ex, .bool d.c.neg, .slice X2 d.c.ls.length c2, .int .i64 d.c.ex, .bool d.a.neg, .slice X3 d.a.ls.length c3, .int .i64 d.a.ex] rfl rfl 27 #[.bool false, .slice none 0 0, .int .i64 0, .bool false, .slice none 0 0, .int .i64 0, .bool false, .slice none 0 0, .int .i64 0, .bool false, .slice none 0 0, .int .i64 0] ?_ info_mass rfl (by simp [Value.oneCell']) ?_; exact k3)
      refine bodyPost_ret (ret_mass rfl _ _ (w.heap.size + 1) #[.bool d.s.neg, .slice X0 d.s.ls.length c0, .int .i64 d.s.ex, .bool d.w.neg, .slice X1 d.w.ls.length c1, .int .i64 d.w.ex, .bool d.c.neg, .slice X2 d.c.ls.length c2, .int .i64 d.c.ex, .bool d.a.neg, .slice X3 d.a.ls.length c3, .int .i64 d.a.ex] (.int .i64 0) rfl kz (by kernel_rfl) rfl) rfl ?_
      exact ⟨hBz, .inr ⟨rfl, .inr ⟨d, g2.out, X0, c0, X1, c1, X2, c2, X3, c3, rfl, g3.out, g4.out, g5.out, g6.out⟩⟩⟩
set_option maxHeartbeats 8000000 in
theorem lsumO_any (A : Option Addr) (n c : Nat) (l : List En) (hm : n ≤ 8300) (w : World) (h1 : Ens w w.heap.size A n l) (hl : ∀ x ∈ l, ltM4 x.give) (N y : Int) (hT : Tab w) : Calls Tryd.prog 15 #[.slice A n c, .int .i64 N, .int .u8 y] w (LSumP (askL l N y) (ofE l N y) w) := by
  obtain ⟨V, hV⟩ : ∃ V, V = (((w.alloc (.cells #[.int .i64 N] 3)).alloc (.cells #[.int .u8 y] 5)).alloc (.cells #[.bool false, .slice none 0 0, .int .i64 0, .bool false, .slice none 0 0, .int .i64 0, .bool false, .slice none 0 0, .int .i64 0, .bool false, .slice none 0 0, .int .i64 0] 27)) := ⟨_, rfl⟩
  have kb0 : Blk V (w.heap.size) 3 #[.int .i64 N] := by
    have h := ((Blk.new w 3 #[.int .i64 N]).alloc (.cells #[.int .u8 y] 5)).alloc (.cells #[.bool false, .slice none 0 0, .int .i64 0, .bool false, .slice none 0 0, .int .i64 0, .bool false, .slice none 0 0, .int .i64 0, .bool false, .slice none 0 0, .int .i64 0] 27)
    (try simp only [World.size_alloc] at h)
    rw [hV]; exact h
  have kb1 : Blk V (w.heap.size + 1) 5 #[.int .u8 y] := by
    have h := (Blk.new (w.alloc (.cells #[.int .i64 N] 3)) 5 #[.int .u8 y]).alloc (.cells #[.bool false, .slice none 0 0, .int .i64 0, .bool false, .slice none 0 0, .int .i64 0, .bool false, .slice none 0 0, .int .i64 0, .bool false, .slice none 0 0, .int .i64 0] 27)
    (try simp only [World.size_alloc] at h)
    rw [hV]; exact h
  have kr : Blk V (w.heap.size + 1 + 1) 27 #[.bool false, .slice none 0 0, .int .i64 0, .bool false, .slice none 0 0, .int .i64 0, .bool false, .slice none 0 0, .int .i64 0, .bool false, .slice none 0 0, .int .i64 0] := by
    have h := Blk.new ((w.alloc (.cells #[.int .i64 N] 3)).alloc (.cells #[.int .u8 y] 5)) 27 #[.bool false, .slice none 0 0, .int .i64 0, .bool false, .slice none 0 0, .int .i64 0, .bool false, .slice none 0 0, .int .i64 0, .bool false, .slice none 0 0, .int .i64 0]
    simp only [World.size_alloc] at h
    rw [hV]; exact h
  have hB : Below w.heap.size w V := by rw [hV]; exact (((Below.refl _ w).alloc (Nat.le_refl _) _).alloc (by simp only [World.size_alloc]; omega) _).alloc (by simp only [World.size_alloc]; omega) _
  have sz : V.heap.size = w.heap.size + 1 + 1 + 1 := by rw [hV]; simp only [World.size_alloc]
  have ha := asked_any A n c l hm V ((h1.below hB).more hB.size) N y
  have gz := Lib.hid (fun h => (chkL_zero (askL_zero (l := l) (N := N) (y := y) h).1).2)
  obtain ⟨E, hE⟩ : ∃ E, askL l N y = E := ⟨_, rfl⟩
  rw [hE] at ha gz
  have gh1 := Lib.hid h1
  have gT := Lib.hid hT
  have gl := Lib.hid hl
  have gB := Lib.hid hB
  have gkr := Lib.hid kr
  have gk0 := Lib.hid kb0
  have gk1 := Lib.hid kb1
  rw [hE]
  clear h1 hT hl hB kr kb0 kb1 hE
  go_enter Tryd.func15, Tryd.ntmps15
  go_wp2_with fail
  rw [← hV]
  clear hV
  refine ha.mono ?_
  rintro en w1 ⟨rfl, hb1⟩
  clear ha
  by_cases h0 : E = 0
  rotate_left
  · have t0 : (E != 0) = true := bne_iff_ne.2 h0
    have k3 := gkr.out.below hb1 (by omega)
    have hB1 := gB.out.trans (hb1.mono gB.out.size)
    have kz := k3.setRow #[.bool false, .slice none 0 0, .int .i64 0, .bool false, .slice none 0 0, .int .i64 0, .bool false, .slice none 0 0, .int .i64 0, .bool false, .slice none 0 0, .int .i64 0]
    have hBz := below_setRow (g := w.heap.size + 1 + 1) hB1 (by omega) #[.bool false, .slice none 0 0, .int .i64 0, .bool false, .slice none 0 0, .int .i64 0, .bool false, .slice none 0 0, .int .i64 0, .bool false, .slice none 0 0, .int .i64 0]
    have g0 := Lib.hid h0
    clear h0
    go_wp2_with (refine wpList_store_row rfl 27 _ _ rfl (w.heap.size + 1 + 1) #[.bool false, .slice none 0 0, .int .i64 0, .bool false, .slice none 0 0, .int .i64 0, .bool false, .slice none 0 0, .int .i64 0, .bool false, .slice none 0 0, .int .i64 0] rfl rfl 27 #[.bool false, .slice none 0 0, .int .i64 0, .bool false, .slice none 0 0, .int .i64 0, .bool false, .slice none 0 0, .int .i64 0, .bool false, .slice none 0 0, .int .i64 0] ?_ info_mass rfl (by simp [Value.oneCell']) ?_; exact k3)
    refine bodyPost_ret (ret_mass rfl _ _ (w.heap.size + 1 + 1) #[.bool false, .slice none 0 0, .int .i64 0, .bool false, .slice none 0 0, .int .i64 0, .bool false, .slice none 0 0, .int .i64 0, .bool false, .slice none 0 0, .int .i64 0] (.int .i64 E) rfl kz (by kernel_rfl) rfl) rfl ?_
    exact ⟨hBz, .inl ⟨g0.out, rfl⟩⟩
  · subst h0
    have hB1 := gB.out.trans (hb1.mono gB.out.size)
    have hch := chosen_any A n c 43 #[.pointer (some ⟨w.heap.size, 0, none⟩), .pointer (some ⟨w.heap.size + 1, 0, none⟩)] w1
    obtain ⟨W2, hW2⟩ : ∃ W2, W2 = (w1.alloc (.cells #[.slice A n c] 22)).alloc (.cells #[.func (.func 43) #[] #[.pointer (some ⟨w.heap.size, 0, none⟩), .pointer (some ⟨w.heap.size + 1, 0, none⟩)]] 70) := ⟨_, rfl⟩
    have hb2 : Below w1.heap.size w1 W2 := by rw [hW2]; exact ((Below.refl _ w1).alloc (Nat.le_refl _) _).alloc (by simp) _
    have hV2 : Below V.heap.size V W2 := hb1.trans (hb2.mono hb1.size)
    have hB2 := gB.out.trans (hV2.mono gB.out.size)
    have c1 : W2.cell? ⟨w1.heap.size, 0, none⟩ = some (.slice A n c) := by
      have h := (Blk.new w1 22 #[.slice A n c]).alloc (.cells #[.func (.func 43) #[] #[.pointer (some ⟨w.heap.size, 0, none⟩), .pointer (some ⟨w.heap.size + 1, 0, none⟩)]] 70)
      rw [hW2, h.cell]; rfl
    have c2 : W2.cell? ⟨w1.heap.size + 1, 0, none⟩ = some (.func (.func 43) #[] #[.pointer (some ⟨w.heap.size, 0, none⟩), .pointer (some ⟨w.heap.size + 1, 0, none⟩)]) := by
      have h := Blk.new (w1.alloc (.cells #[.slice A n c] 22)) 70 #[.func (.func 43) #[] #[.pointer (some ⟨w.heap.size, 0, none⟩), .pointer (some ⟨w.heap.size + 1, 0, none⟩)]]
      rw [World.size_alloc] at h
      rw [hW2, h.cell]; rfl
    have d0 : W2.cell? ⟨w.heap.size, 0, none⟩ = some (.int .i64 N) := by rw [(gk0.out.below hV2 gk0.out.lt).cell]; rfl
    have d1 : W2.cell? ⟨w.heap.size + 1, 0, none⟩ = some (.int .u8 y) := by rw [(gk1.out.below hV2 gk1.out.lt).cell]; rfl
    have hen : Ens W2 W2.heap.size A n l := (gh1.out.below hB2).more hB2.size
    have hto := total_any W2 #[.pointer (some ⟨w1.heap.size, 0, none⟩), .pointer (some ⟨w1.heap.size + 1, 0, none⟩)] ((l.filter (fun x => x.ep == N && x.why == y)).map (·.give)) l.length (gT.out.below hB2 gT.out.2)
      (fun w0 hw0 => chosenO_seq W2 A n c l hm hen (fun x hx => ⟨goodE_may (gz.out rfl x hx), gl.out x hx⟩) w1.heap.size (w1.heap.size + 1) (w.heap.size) N (w.heap.size + 1) y c1 c2 d0 d1 5 (by omega) w0 hw0)
    have gto := Lib.hid hto
    have gV2 := Lib.hid hV2
    have gB2 := Lib.hid hB2
    have k2 := gkr.out.below hV2 gkr.out.lt
    have gk := Lib.hid k2
    clear hen hto hV2 hB2 k2 hb2 c1 c2 d0 d1
    go_wp2_with fail
    refine hch.mono ?_
    rintro en w2 ⟨rfl, rfl⟩
    rw [← hW2]
    clear hch hW2
    go_wp2_with fail
    refine gto.out.mono ?_
    rintro en w3 ⟨hb3, hres⟩
    clear gto
    have k3 := gk.out.below hb3 gk.out.lt
    have hB3 := gB2.out.trans (hb3.mono gB2.out.size)
    have hs2 : w.heap.size + 1 + 1 + 1 ≤ W2.heap.size := by have h := gV2.out.size; omega
    rcases hres with ⟨h2, rfl⟩ | ⟨d, h2, X0, c0, X1, c1, X2, c2, X3, c3, rfl, o0, o1, o2, o3⟩
    · have kz := k3.setRow #[.bool false, .slice none 0 0, .int .i64 0, .bool false, .slice none 0 0, .int .i64 0, .bool false, .slice none 0 0, .int .i64 0, .bool false, .slice none 0 0, .int .i64 0]
      have hBz := below_setRow (g := w.heap.size + 1 + 1) hB3 (by omega) #[.bool false, .slice none 0 0, .int .i64 0, .bool false, .slice none 0 0, .int .i64 0, .bool false, .slice none 0 0, .int .i64 0, .bool false, .slice none 0 0, .int .i64 0]
      have g2 : Hid ((ofE l N y) = none) := Lib.hid h2
      clear h2
      go_wp2_with (refine wpList_store_row rfl 27 _ _ rfl (w.heap.size + 1 + 1) #[.bool false, .slice none 0 0, .int .i64 0, .bool false, .slice none 0 0, .int .i64 0, .bool false, .slice none 0 0, .int .i64 0, .bool false, .slice none 0 0, .int .i64 0] rfl rfl 27 #[.bool false, .slice none 0 0, .int .i64 0, .bool false, .slice none 0 0, .int .i64 0, .bool false, .slice none 0 0, .int .i64 0, .bool false, .slice none 0 0, .int .i64 0] ?_ info_mass rfl (by simp [Value.oneCell']) ?_; exact k3)
      refine bodyPost_ret (ret_mass rfl _ _ (w.heap.size + 1 + 1) #[.bool false, .slice none 0 0, .int .i64 0, .bool false, .slice none 0 0, .int .i64 0, .bool false, .slice none 0 0, .int .i64 0, .bool false, .slice none 0 0, .int .i64 0] (.int .i64 10) rfl kz (by kernel_rfl) rfl) rfl ?_
      exact ⟨hBz, .inr ⟨rfl, .inl ⟨g2.out, rfl⟩⟩⟩
    · have kz := k3.setRow #[.bool d.s.neg, .slice X0 d.s.ls.length c0, .int .i64 d.s.ex, .bool d.w.neg, .slice X1 d.w.ls.length c1, .int .i64 d.w.ex, .bool d.c.neg, .slice X2 d.c.ls.length c2, .int .i64 d.c.ex, .bool d.a.neg, .slice X3 d.a.ls.length c3, .int .i64 d.a.ex]
      have hBz := below_setRow (g := w.heap.size + 1 + 1) hB3 (by omega) #[.bool d.s.neg, .slice X0 d.s.ls.length c0, .int .i64 d.s.ex, .bool d.w.neg, .slice X1 d.w.ls.length c1, .int .i64 d.w.ex, .bool d.c.neg, .slice X2 d.c.ls.length c2, .int .i64 d.c.ex, .bool d.a.neg, .slice X3 d.a.ls.length c3, .int .i64 d.a.ex]
      have g2 : Hid ((ofE l N y) = some d) := Lib.hid h2
      have g3 := Lib.hid (o0.setRow (g := w.heap.size + 1 + 1) (by omega) #[.bool d.s.neg, .slice X0 d.s.ls.length c0, .int .i64 d.s.ex, .bool d.w.neg, .slice X1 d.w.ls.length c1, .int .i64 d.w.ex, .bool d.c.neg, .slice X2 d.c.ls.length c2, .int .i64 d.c.ex, .bool d.a.neg, .slice X3 d.a.ls.length c3, .int .i64 d.a.ex] (show w.heap.size ≤ W2.heap.size by omega))
      have g4 := Lib.hid (o1.setRow (g := w.heap.size + 1 + 1) (by omega) #[.bool d.s.neg, .slice X0 d.s.ls.length c0, .int .i64 d.s.ex, .bool d.w.neg, .slice X1 d.w.ls.length c1, .int .i64 d.w.ex, .bool d.c.neg, .slice X2 d.c.ls.length c2, .int .i64 d.c.ex, .bool d.a.neg, .slice X3 d.a.ls.length c3, .int .i64 d.a.ex] (show w.heap.size ≤ W2.heap.size by omega))
      have g5 := Lib.hid (o2.setRow (g := w.heap.size + 1 + 1) (by omega) #[.bool d.s.neg, .slice X0 d.s.ls.length c0, .int .i64 d.s.ex, .bool d.w.neg, .slice X1 d.w.ls.length c1, .int .i64 d.w.ex, .bool d.c.neg, .slice X2 d.c.ls.length c2, .int .i64 d.c.ex, .bool d.a.neg, .slice X3 d.a.ls.length c3, .int .i64 d.a.ex] (show w.heap.size ≤ W2.heap.size by omega))
      have g6 := Lib.hid (o3.setRow (g := w.heap.size + 1 + 1) (by omega) #[.bool d.s.neg, .slice X0 d.s.ls.length c0, .int .i64 d.s.ex, .bool d.w.neg, .slice X1 d.w.ls.length c1, .int .i64 d.w.ex, .bool d.c.neg, .slice X2 d.c.ls.length c2, .int .i64 d.c.ex, .bool d.a.neg, .slice X3 d.a.ls.length c3, .int .i64 d.a.ex] (show w.heap.size ≤ W2.heap.size by omega))
      clear h2 o0 o1 o2 o3
      go_wp2_with (refine wpList_store_row rfl 27 _ _ rfl (w.heap.size + 1 + 1) #[.bool d.s.neg, .slice X0 d.s.ls.length c0, .int .i64 d.s.ex, .bool d.w.neg, .slice X1 d.w.ls.length c1, .int .i64 d.w.ex, .bool d.c.neg, .slice X2 d.c.ls.length c2, .int .i64 d.c.ex, .bool d.a.neg, .slice X3 d.a.ls.length c3, .int .i64 d.a.ex] rfl rfl 27 #[.bool false, .slice none 0 0, .int .i64 0, .bool false, .slice none 0 0, .int .i64 0, .bool false, .slice none 0 0, .int .i64 0, .bool false, .slice none 0 0, .int .i64 0] ?_ info_mass rfl (by simp [Value.oneCell']) ?_; exact k3)
      refine bodyPost_ret (ret_mass rfl _ _ (w.heap.size + 1 + 1) #[.bool d.s.neg, .slice X0 d.s.ls.length c0, .int .i64 d.s.ex, .bool d.w.neg, .slice X1 d.w.ls.length c1, .int .i64 d.w.ex, .bool d.c.neg, .slice X2 d.c.ls.length c2, .int .i64 d.c.ex, .bool d.a.neg, .slice X3 d.a.ls.length c3, .int .i64 d.a.ex] (.int .i64 0) rfl kz (by kernel_rfl) rfl) rfl ?_
      exact ⟨hBz, .inr ⟨rfl, .inr ⟨d, g2.out, X0, c0, X1, c1, X2, c2, X3, c3, rfl, g3.out, g4.out, g5.out, g6.out⟩⟩⟩
end Go.Proofs.YtmppalgecboeeaaDoor
