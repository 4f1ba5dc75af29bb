/- Flight: Launch -/
import Derived.Test.YtdmjdpaehnhdoaaDoorLW
import Derived.Test.YtdmjdpaehnhdoaaDoorLQU
import Derived.Test.YtdmjdpaehnhdoaaDoorKA
namespace Go.Proofs.YtdmjdpaehnhdoaaDoor
open Go.ChangeShapes Go.WideShapes Go.ChangeAt Go.RowKit
set_option linter.unusedSimpArgs false
set_option linter.unusedVariables false
theorem insL_at {x : En} {l : List En} {k : Nat} (hk : AtF l x.nu k) (hi : isAt l x.nu k = false) : insL x l = l.take k ++ x :: l.drop k := by
  conv => lhs; rw [← List.take_append_drop k l]
  rw [insL_none _ _ (fun y hy => ?_)]
  · congr 1
    cases hd : l.drop k with
    | nil => rfl
    | cons y r =>
      have hy : l[k]? = some y := by have := List.getElem?_drop (xs := l) (i := k) (j := 0); rw [hd] at this; simpa using this.symm
      have h1 := hk.2.2 y hy
      have h2 : y.nu ≠ x.nu := by simp only [isAt, hy] at hi; exact of_decide_eq_false hi
      show (if x.nu < y.nu then x :: y :: r else y :: insL x r) = _
      rw [if_pos (by omega)]
  · obtain ⟨j, hj, rfl⟩ := List.getElem_of_mem hy
    rw [List.length_take] at hj
    have := hk.2.1 j _ (by omega) (List.getElem?_eq_getElem (show j < l.length by omega))
    rw [List.getElem_take]
    omega
theorem ownE.oth {W w' : World} {b : Nat} {o : EO} (h : ownE W b o) (hO : Oth W w') : ownE w' b o := h.map (fun {X n xs} h => ⟨h.1, fun hp => by
  obtain ⟨g, cur, hA, hg, hb, ht⟩ := h.2 hp
  exact ⟨g, cur, hA, hg, hO g _ cur (by decide) hb, ht⟩⟩)
theorem lins_any (B : Nat) (n co vb k : Nat) (Ao : Option Addr) (l : List En) (x : En) (ox : EO) (hox : ox.x = x) (hm : n ≤ 1000) (hk : k ≤ n) (w0 w' : World) (hBs : B ≤ w'.heap.size) (hacc : AccE w' B (.slice Ao n co) n l) (hown : ownE w' B ox) (hv : Blk w' vb 48 (row15 ox).toArray) (hvb : ∀ g, Ao = some ⟨g, 0, none⟩ → vb ≠ g) (hB : Below B w0 w') :
    Calls Tryd.prog 55 #[.slice Ao n co, .int .i64 (k : Int), .slice (some ⟨vb, 0, none⟩) 1 1] w' fun en w'' => ∃ A' c', en = .returned (.slice A' (n + 1) c') ∧ AccE w'' B (.slice A' (n + 1) c') (n + 1) (l.take k ++ x :: l.drop k) ∧ Below B w0 w'' := by
  obtain ⟨os, rfl, ho, ht⟩ := hacc
  refine (einsert_any B n co vb k Ao os hm hk ox w' hBs ho hv hvb).mono ?_
  rintro en w2 ⟨A', c', rfl, ho2, hb2, hO⟩
  refine ⟨A', c', rfl, ⟨_, ?_, ho2, fun o ho => ?_⟩, hB.trans hb2⟩
  · rw [List.map_append, List.map_cons, List.map_take, List.map_drop, hox]
  · rcases List.mem_append.1 ho with h | h
    · exact (ht o (List.mem_of_mem_take h)).oth hO
    · rcases List.mem_cons.1 h with rfl | h
      · exact hown.oth hO
      · exact (ht o (List.mem_of_mem_drop h)).oth hO
theorem accE_blk {w : World} {B n c : Nat} {A : Option Addr} {l : List En} (h : AccE w B (.slice A n c) n l) : ∀ g, A = some ⟨g, 0, none⟩ → g < w.heap.size ∧ B ≤ g := by
  intro g hg
  obtain ⟨os, _, ho, _⟩ := h
  rcases ho.2 with ⟨h1, _⟩ | ⟨g', cap, cur, h1, h2, h3, _⟩
  · injection h1 with h1
    rw [hg] at h1; cases h1
  · injection h1 with h1
    rw [hg] at h1
    injection h1 with h1
    injection h1 with h1
    subst h1
    exact ⟨Blk.lt (show Blk w g 48 cur from h3), h2⟩
set_option maxRecDepth 100000 in
set_option maxHeartbeats 16000000 in
theorem launch_any (A : Option Addr) (n c : Nat) (l : List En) (hm : n ≤ 10000) (hs1 : ∀ x ∈ l, smM x.give) (N e : Int) (bg0 : Bool) (bX0 : Option Addr) (bn0 bc0 : Nat) (be0 : Int) (bg1 : Bool) (bX1 : Option Addr) (bn1 bc1 : Nat) (be1 : Int) (bg2 : Bool) (bX2 : Option Addr) (bn2 bc2 : Nat) (be2 : Int) (bg3 : Bool) (bX3 : Option Addr) (bn3 bc3 : Nat) (be3 : Int) (mx : Ms) (hsx : smM mx) (w : World) (h : Ens w w.heap.size A n l) (hx : RdM w w.heap.size bg0 bX0 bn0 bc0 be0 bg1 bX1 bn1 bc1 be1 bg2 bX2 bn2 bc2 be2 bg3 bX3 bn3 bc3 be3 mx) : Calls Tryd.prog 26 #[.slice A n c, .int .i64 N, .int .i64 e, .agg #[.bool bg0, .slice bX0 bn0 bc0, .int .i64 be0, .bool bg1, .slice bX1 bn1 bc1, .int .i64 be1, .bool bg2, .slice bX2 bn2 bc2, .int .i64 be2, .bool bg3, .slice bX3 bn3 bc3, .int .i64 be3]] w fun en w' => ∃ l' v E, en = .returned (.tuple #[v, .int .i64 E]) ∧ LchF l N e mx l' E ∧ OutE w v l' w' := by
  have gx := Lib.hid hx
  obtain ⟨⟨rfl, rfl, rfl, bh0, br0⟩, ⟨rfl, rfl, rfl, bh1, br1⟩, ⟨rfl, rfl, rfl, bh2, br2⟩, ⟨rfl, rfl, rfl, bh3, br3⟩⟩ := hx
  clear bh0 br0 bh1 br1 bh2 br2 bh3 br3
  obtain ⟨V, hV⟩ : ∃ V, V = w.alloc (.cells #[.bool mx.s.neg, .slice bX0 mx.s.ls.length bc0, .int .i64 mx.s.ex, .bool mx.w.neg, .slice bX1 mx.w.ls.length bc1, .int .i64 mx.w.ex, .bool mx.c.neg, .slice bX2 mx.c.ls.length bc2, .int .i64 mx.c.ex, .bool mx.a.neg, .slice bX3 mx.a.ls.length bc3, .int .i64 mx.a.ex] 27) := ⟨_, rfl⟩
  have hBV : Below w.heap.size w V := by rw [hV]; exact (Below.refl _ _).alloc (Nat.le_refl _) _
  have kb : Blk V w.heap.size 27 #[.bool mx.s.neg, .slice bX0 mx.s.ls.length bc0, .int .i64 mx.s.ex, .bool mx.w.neg, .slice bX1 mx.w.ls.length bc1, .int .i64 mx.w.ex, .bool mx.c.neg, .slice bX2 mx.c.ls.length bc2, .int .i64 mx.c.ex, .bool mx.a.neg, .slice bX3 mx.a.ls.length bc3, .int .i64 mx.a.ex] := by rw [hV]; exact Blk.new w _ _
  have hf := found_any A n c l (by unfold maxLen; omega) V (Recs.more (Recs.below h hBV) hBV.size) N
  have gln := Lib.hid (ens_len h)
  have gh := Lib.hid h
  have gs := Lib.hid hs1
  clear h hs1
  go_enter Tryd.func26, Tryd.ntmps26
  go_wp2_with fail
  rw [← hV]
  clear hV
  refine hf.mono ?_
  rintro en w1 ⟨a, i, E, rfl, hF, hb1'⟩
  clear hf
  have hb1 : Below w.heap.size w w1 := hBV.trans (hb1'.mono hBV.size)
  rcases hF with ⟨hE, hne, rfl, rfl⟩ | ⟨hE, hne, rfl, rfl, rfl⟩ | ⟨hE, hne, ⟨k, rfl, hk, rfl⟩, rfl⟩
  · rcases hE.has with ⟨rfl, _⟩ | ⟨rfl, _, _⟩ | ⟨rfl, _, _⟩
    · have gd : Hid (LchF l N e mx [] 4) := Lib.hid (.inl ⟨hE, hne, rfl⟩)
      clear hE hne
      go_wp2
      go_ret2
      exact ⟨_, _, _, rfl, gd.out, outE_nil hb1⟩
    · exact absurd rfl hne
    · have gd : Hid (LchF l N e mx [] 8) := Lib.hid (.inl ⟨hE, hne, rfl⟩)
      clear hE hne
      go_wp2
      go_ret2
      exact ⟨_, _, _, rfl, gd.out, outE_nil hb1⟩
  · have gd : Hid (LchF l N e mx [] 2) := Lib.hid (.inr (.inl ⟨hE, hne, rfl, rfl⟩))
    clear hE hne
    go_wp2
    go_ret2
    exact ⟨_, _, _, rfl, gd.out, outE_nil hb1⟩
  · have gE := Lib.hid hE
    have gn : Hid (∀ {l' E}, _ → LchF l N e mx l' E) := Lib.hid (fun hh => .inr (.inr ⟨hE, hne, hh⟩))
    have gk := Lib.hid hk
    obtain ⟨q, hq⟩ : ∃ q, isAt l N k = q := ⟨_, rfl⟩
    rw [hq]
    have gq := Lib.hid hq
    clear hE hne hk hq
    by_cases c0 : e < 0
    · have f0 : decide (e < 0) = true := decide_eq_true c0
      have gd : Hid (LchF l N e mx [] 2) := Lib.hid (gn.out (.inl ⟨by omega, rfl, rfl⟩))
      clear c0
      go_wp2
      go_ret2
      exact ⟨_, _, _, rfl, gd.out, outE_nil hb1⟩
    have f0 : decide (e < 0) = false := decide_eq_false c0
    by_cases c1 : (65535 : Int) < e
    · have f1 : decide ((65535 : Int) < e) = true := decide_eq_true c1
      have gd : Hid (LchF l N e mx [] 2) := Lib.hid (gn.out (.inl ⟨by omega, rfl, rfl⟩))
      clear c0 c1
      go_wp2
      go_ret2
      exact ⟨_, _, _, rfl, gd.out, outE_nil hb1⟩
    have f1 : decide ((65535 : Int) < e) = false := decide_eq_false c1
    have ge : Hid (0 ≤ e ∧ e ≤ 65535) := Lib.hid (by omega)
    clear c0 c1
    obtain ⟨Q, hQ⟩ : ∃ Q, mayM mx = Q := ⟨_, rfl⟩
    have hmm := mcheck_any mx.s.neg bX0 mx.s.ls.length bc0 mx.s.ex mx.w.neg bX1 mx.w.ls.length bc1 mx.w.ex mx.c.neg bX2 mx.c.ls.length bc2 mx.c.ex mx.a.neg bX3 mx.a.ls.length bc3 mx.a.ex mx w1 (gx.out.below hb1 hb1.size) Q hQ
    have gQ := Lib.hid hQ
    clear hQ
    have b0 : w1.cell? ⟨w.heap.size, 0, none⟩ = some (.bool mx.s.neg) := by rw [(kb.below hb1' kb.lt).cell]; rfl
    have b1 : w1.cell? ⟨w.heap.size, 1, none⟩ = some (.slice bX0 mx.s.ls.length bc0) := by rw [(kb.below hb1' kb.lt).cell]; rfl
    have b2 : w1.cell? ⟨w.heap.size, 2, none⟩ = some (.int .i64 mx.s.ex) := by rw [(kb.below hb1' kb.lt).cell]; rfl
    have b3 : w1.cell? ⟨w.heap.size, 3, none⟩ = some (.bool mx.w.neg) := by rw [(kb.below hb1' kb.lt).cell]; rfl
    have b4 : w1.cell? ⟨w.heap.size, 4, none⟩ = some (.slice bX1 mx.w.ls.length bc1) := by rw [(kb.below hb1' kb.lt).cell]; rfl
    have b5 : w1.cell? ⟨w.heap.size, 5, none⟩ = some (.int .i64 mx.w.ex) := by rw [(kb.below hb1' kb.lt).cell]; rfl
    have b6 : w1.cell? ⟨w.heap.size, 6, none⟩ = some (.bool mx.c.neg) := by rw [(kb.below hb1' kb.lt).cell]; rfl
    have b7 : w1.cell? ⟨w.heap.size, 7, none⟩ = some (.slice bX2 mx.c.ls.length bc2) := by rw [(kb.below hb1' kb.lt).cell]; rfl
    have b8 : w1.cell? ⟨w.heap.size, 8, none⟩ = some (.int .i64 mx.c.ex) := by rw [(kb.below hb1' kb.lt).cell]; rfl
    have b9 : w1.cell? ⟨w.heap.size, 9, none⟩ = some (.bool mx.a.neg) := by rw [(kb.below hb1' kb.lt).cell]; rfl
    have b10 : w1.cell? ⟨w.heap.size, 10, none⟩ = some (.slice bX3 mx.a.ls.length bc3) := by rw [(kb.below hb1' kb.lt).cell]; rfl
    have b11 : w1.cell? ⟨w.heap.size, 11, none⟩ = some (.int .i64 mx.a.ex) := by rw [(kb.below hb1' kb.lt).cell]; rfl
    cases Q with
    | false =>
      have gd : Hid (LchF l N e mx [] 8) := Lib.hid (gn.out (.inr ⟨ge.out, .inl ⟨gQ.out, rfl, rfl⟩⟩))
      go_wp2_with (go_at_call 54; refine hmm.mono ?_; rintro en w2 ⟨rfl, hb2⟩)
      go_ret2
      exact ⟨_, _, _, rfl, gd.out, outE_nil (hb1.trans (hb2.mono hb1.size))⟩
    | true =>
      go_wp2_with fail
      refine hmm.mono ?_
      rintro en w2 ⟨rfl, hb2'⟩
      clear hmm b0 b1 b2 b3 b4 b5 b6 b7 b8 b9 b10 b11
      have hb2 : Below w.heap.size w w2 := hb1.trans (hb2'.mono hb1.size)
      have hV2 : Below V.heap.size V w2 := hb1'.trans (hb2'.mono hb1'.size)
      have hn16 : n ≤ 16 := by
        rcases gE.out.has with ⟨h, _⟩ | ⟨_, h, _⟩ | ⟨h, _⟩
        · cases h
        · rw [← gln.out]; exact h
        · cases h
      cases q with
      | true =>
        have gd : Hid (LchF l N e mx [] 12) := Lib.hid (gn.out (.inr ⟨ge.out, .inr ⟨gQ.out, .inl ⟨by obtain ⟨x, hx, hxn⟩ := at_some gq.out; exact ⟨k, x, hx, hxn⟩, rfl, rfl⟩⟩⟩))
        go_wp2
        go_ret2
        exact ⟨_, _, _, rfl, gd.out, outE_nil hb2⟩
      | false =>
        have gno := Lib.hid (at_none gE.out.good gk.out gq.out)
        by_cases hc : n = 16
        · have gd : Hid (LchF l N e mx [] 9) := Lib.hid (gn.out (.inr ⟨ge.out, .inr ⟨gQ.out, .inr ⟨gno.out, .inl ⟨by rw [gln.out]; omega, rfl, rfl⟩⟩⟩⟩))
          have j0 : ((n : Int) == 16) = true := by simp; omega
          clear hc
          go_wp2
          go_ret2
          exact ⟨_, _, _, rfl, gd.out, outE_nil hb2⟩
        · have gd : Hid (LchF l N e mx (insL ⟨N, e, 1, mx⟩ l) 0) := Lib.hid (gn.out (.inr ⟨ge.out, .inr ⟨gQ.out, .inr ⟨gno.out, .inr ⟨by rw [gln.out]; omega, rfl, rfl⟩⟩⟩⟩))
          have gi := Lib.hid (insL_at (x := ⟨N, e, 1, mx⟩) gk.out gq.out)
          have j0 : ((n : Int) == 16) = false := beq_eq_false_iff_ne.2 (by omega)
          have hkn : k ≤ n := by rw [← gln.out]; exact gk.out.1
          obtain ⟨W, hW⟩ : ∃ W, W = w2 := ⟨_, rfl⟩
          have hT : ∀ w', Below W.heap.size W w' → Calls Tryd.prog 14 #[.slice A n c] w' fun en w'' => ∃ Ao co, en = .returned (.slice Ao n co) ∧ TwE w' n l Ao co w'' := fun w' hb => by
            have hb3 : Below w.heap.size w w' := hb2.trans (by rw [hW] at hb; exact hb.mono hb2.size)
            exact etwin_any A n c l hm gs.out w' (Recs.more (Recs.below gh.out hb3) hb3.size)
          have hM : ∀ w', Below W.heap.size W w' → Calls Tryd.prog 36 #[.agg #[.bool mx.s.neg, .slice bX0 mx.s.ls.length bc0, .int .i64 mx.s.ex, .bool mx.w.neg, .slice bX1 mx.w.ls.length bc1, .int .i64 mx.w.ex, .bool mx.c.neg, .slice bX2 mx.c.ls.length bc2, .int .i64 mx.c.ex, .bool mx.a.neg, .slice bX3 mx.a.ls.length bc3, .int .i64 mx.a.ex]] w' (TwM w' mx.s.neg bX0 mx.s.ls.length bc0 mx.s.ex mx.w.neg bX1 mx.w.ls.length bc1 mx.w.ex mx.c.neg bX2 mx.c.ls.length bc2 mx.c.ex mx.a.neg bX3 mx.a.ls.length bc3 mx.a.ex mx) := fun w' hb => by
            have hb3 : Below w.heap.size w w' := hb2.trans (by rw [hW] at hb; exact hb.mono hb2.size)
            exact mtwin_any _ _ _ _ _ _ _ _ _ _ _ _ _ _ _ _ _ _ _ _ mx hsx w' (gx.out.below hb3 hb3.size)
          have hI : ∀ w' Ao co vb (ox : EO), ox.x = ⟨N, e, 1, mx⟩ → AccE w' W.heap.size (.slice Ao n co) n l → ownE w' W.heap.size ox → Blk w' vb 48 (row15 ox).toArray → (∀ g, Ao = some ⟨g, 0, none⟩ → vb ≠ g) → Below W.heap.size W w' → Calls Tryd.prog 55 #[.slice Ao n co, .int .i64 (k : Int), .slice (some ⟨vb, 0, none⟩) 1 1] w' fun en w'' => ∃ A' c', en = .returned (.slice A' (n + 1) c') ∧ Hid (AccE w'' W.heap.size (.slice A' (n + 1) c') (n + 1) (insL ⟨N, e, 1, mx⟩ l)) ∧ Below W.heap.size W w'' := fun w' Ao co vb ox h1 h2 h3 h4 h5 h6 => by
            refine (lins_any W.heap.size n co vb k Ao l ⟨N, e, 1, mx⟩ ox h1 (by omega) hkn W w' h6.size h2 h3 h4 h5 h6).mono ?_
            rintro en w'' ⟨A', c', rfl, h7, h8⟩
            exact ⟨A', c', rfl, Lib.hid (by rw [gi.out]; exact h7), h8⟩
          have hbW : Below w.heap.size w W := by rw [hW]; exact hb2
          have SB : ∀ w', Below W.heap.size W w' → w'.cell? ⟨w.heap.size, 0, none⟩ = some (.bool mx.s.neg) ∧ w'.cell? ⟨w.heap.size, 1, none⟩ = some (.slice bX0 mx.s.ls.length bc0) ∧ w'.cell? ⟨w.heap.size, 2, none⟩ = some (.int .i64 mx.s.ex) ∧ w'.cell? ⟨w.heap.size, 3, none⟩ = some (.bool mx.w.neg) ∧ w'.cell? ⟨w.heap.size, 4, none⟩ = some (.slice bX1 mx.w.ls.length bc1) ∧ w'.cell? ⟨w.heap.size, 5, none⟩ = some (.int .i64 mx.w.ex) ∧ w'.cell? ⟨w.heap.size, 6, none⟩ = some (.bool mx.c.neg) ∧ w'.cell? ⟨w.heap.size, 7, none⟩ = some (.slice bX2 mx.c.ls.length bc2) ∧ w'.cell? ⟨w.heap.size, 8, none⟩ = some (.int .i64 mx.c.ex) ∧ w'.cell? ⟨w.heap.size, 9, none⟩ = some (.bool mx.a.neg) ∧ w'.cell? ⟨w.heap.size, 10, none⟩ = some (.slice bX3 mx.a.ls.length bc3) ∧ w'.cell? ⟨w.heap.size, 11, none⟩ = some (.int .i64 mx.a.ex) := by
            intro w' hw
            rw [hW] at hw
            have k5 := (kb.below hV2 kb.lt).below hw (Nat.lt_of_lt_of_le kb.lt hV2.size)
            refine ⟨?_, ?_, ?_, ?_, ?_, ?_, ?_, ?_, ?_, ?_, ?_, ?_⟩ <;> (rw [k5.cell]; rfl)
          have hWW := Below.refl W.heap.size W
          obtain ⟨b0, b1, b2, b3, b4, b5, b6, b7, b8, b9, b10, b11⟩ := SB W hWW
          have hsz2 := hb2.size
          rw [← hW]
          clear hc hW hb2' hV2 hb1' hBV kb hb1 hb2
          go_wp2_with fail
          go_region_held3 (fun w' => w'.cell? ⟨w.heap.size, 0, none⟩ = some (.bool mx.s.neg) ∧ w'.cell? ⟨w.heap.size, 1, none⟩ = some (.slice bX0 mx.s.ls.length bc0) ∧ w'.cell? ⟨w.heap.size, 2, none⟩ = some (.int .i64 mx.s.ex) ∧ w'.cell? ⟨w.heap.size, 3, none⟩ = some (.bool mx.w.neg) ∧ w'.cell? ⟨w.heap.size, 4, none⟩ = some (.slice bX1 mx.w.ls.length bc1) ∧ w'.cell? ⟨w.heap.size, 5, none⟩ = some (.int .i64 mx.w.ex) ∧ w'.cell? ⟨w.heap.size, 6, none⟩ = some (.bool mx.c.neg) ∧ w'.cell? ⟨w.heap.size, 7, none⟩ = some (.slice bX2 mx.c.ls.length bc2) ∧ w'.cell? ⟨w.heap.size, 8, none⟩ = some (.int .i64 mx.c.ex) ∧ w'.cell? ⟨w.heap.size, 9, none⟩ = some (.bool mx.a.neg) ∧ w'.cell? ⟨w.heap.size, 10, none⟩ = some (.slice bX3 mx.a.ls.length bc3) ∧ w'.cell? ⟨w.heap.size, 11, none⟩ = some (.int .i64 mx.a.ex)) ((refine SB _ ?_; (repeat first | with_reducible assumption | with_reducible exact Below.refl _ _ | with_reducible refine Below.drew ?_ | (with_reducible refine Below.alloc ?_ (by first | exact Nat.le_refl _ | (simp only [World.size_alloc, World.size_drew]; omega) | omega) _)))) (first | (go_at_call 14; (with_reducible refine (hT _ (by (repeat first | with_reducible assumption | with_reducible exact Below.refl _ _ | with_reducible refine Below.drew ?_ | (with_reducible refine Below.alloc ?_ (by first | exact Nat.le_refl _ | (simp only [World.size_alloc, World.size_drew]; omega) | omega) _)))).mono ?_); rintro en wT ⟨Ao, co, rfl, hTT⟩; have hbT := hTT.2.2.2.1; have gT := Lib.hid hTT.2.2.2.2; have gTb := Lib.hid (accE_blk hTT.2.2.2.2); clear hTT; have hbT2 : Below W.heap.size W wT := Below.trans (by (repeat first | with_reducible assumption | with_reducible exact Below.refl _ _ | with_reducible refine Below.drew ?_ | (with_reducible refine Below.alloc ?_ (by first | exact Nat.le_refl _ | (simp only [World.size_alloc, World.size_drew]; omega) | omega) _))) (hbT.mono (by first | exact Nat.le_refl _ | (simp only [World.size_alloc, World.size_drew]; omega) | omega)); have hsT : W.heap.size ≤ wT.heap.size := hbT2.size) | (go_at_call 36; (with_reducible refine (hM _ (by (repeat first | with_reducible assumption | with_reducible exact Below.refl _ _ | with_reducible refine Below.drew ?_ | (with_reducible refine Below.alloc ?_ (by first | exact Nat.le_refl _ | (simp only [World.size_alloc, World.size_drew]; omega) | omega) _)))).mono ?_); rintro en wM ⟨X0, c0, X1, c1, X2, c2, X3, c3, rfl, o0, o1, o2, o3, hbM⟩; have gM := Lib.hid (show ownE wM _ (⟨⟨N, e, 1, mx⟩, X0, c0, X1, c1, X2, c2, X3, c3⟩ : EO) from ⟨o0, o1, o2, o3⟩); clear o0 o1 o2 o3; have hbM2 : Below W.heap.size W wM := Below.trans (by (repeat first | with_reducible assumption | with_reducible exact Below.refl _ _ | with_reducible refine Below.drew ?_ | (with_reducible refine Below.alloc ?_ (by first | exact Nat.le_refl _ | (simp only [World.size_alloc, World.size_drew]; omega) | omega) _))) (hbM.mono (by first | exact Nat.le_refl _ | (simp only [World.size_alloc, World.size_drew]; omega) | omega)); have hsM : W.heap.size ≤ wM.heap.size := hbM2.size) | (go_at_call 55; (refine (hI _ Ao co _ (⟨⟨N, e, 1, mx⟩, X0, c0, X1, c1, X2, c2, X3, c3⟩ : EO) rfl (by exact (gT.out.base_le (by first | exact Nat.le_refl _ | (simp only [World.size_alloc, World.size_drew]; omega) | omega))) (by exact ((gM.out.map (fun h => h.below (((Below.refl _ _).alloc (Nat.le_refl _) _).trans (hbT.mono (by rw [World.size_alloc]; omega))))).map (fun h => h.base_le (by first | exact Nat.le_refl _ | (simp only [World.size_alloc, World.size_drew]; omega) | omega)))) (by exact ((Blk.new _ _ _).below hbT (by rw [World.size_alloc]; omega))) (by exact (fun g hg => by have := (gTb.out g hg).2; rw [World.size_alloc] at this; omega)) (by (repeat first | with_reducible assumption | with_reducible exact Below.refl _ _ | with_reducible refine Below.drew ?_ | (with_reducible refine Below.alloc ?_ (by first | exact Nat.le_refl _ | (simp only [World.size_alloc, World.size_drew]; omega) | omega) _)))).mono ?_); rintro en w6 ⟨A6, c6, rfl, g6, hb6⟩) | (go_at_call 55; (refine (hI _ Ao co _ (⟨⟨N, e, 1, mx⟩, X0, c0, X1, c1, X2, c2, X3, c3⟩ : EO) rfl (by exact ((gT.out.below ((Below.refl _ _).alloc (Nat.le_refl _) _)).base_le (by first | exact Nat.le_refl _ | (simp only [World.size_alloc, World.size_drew]; omega) | omega))) (by exact ((gM.out.map (fun h => h.below (hbT.alloc hbT.size _))).map (fun h => h.base_le (by first | exact Nat.le_refl _ | (simp only [World.size_alloc, World.size_drew]; omega) | omega)))) (by exact (Blk.new _ _ _)) (by exact (fun g hg => by have := gTb.out g hg; omega)) (by (repeat first | with_reducible assumption | with_reducible exact Below.refl _ _ | with_reducible refine Below.drew ?_ | (with_reducible refine Below.alloc ?_ (by first | exact Nat.le_refl _ | (simp only [World.size_alloc, World.size_drew]; omega) | omega) _)))).mono ?_); rintro en w6 ⟨A6, c6, rfl, g6, hb6⟩) | (go_at_call 55; (refine (hI _ Ao co _ (⟨⟨N, e, 1, mx⟩, X0, c0, X1, c1, X2, c2, X3, c3⟩ : EO) rfl (by exact ((gT.out.below (hbM.alloc hbM.size _)).base_le (by first | exact Nat.le_refl _ | (simp only [World.size_alloc, World.size_drew]; omega) | omega))) (by exact ((gM.out.map (fun h => h.below ((Below.refl _ _).alloc (Nat.le_refl _) _))).map (fun h => h.base_le (by first | exact Nat.le_refl _ | (simp only [World.size_alloc, World.size_drew]; omega) | omega)))) (by exact (Blk.new _ _ _)) (by exact (fun g hg => by have := gTb.out g hg; have h5 : wT.heap.size ≤ wM.heap.size := hbM.size; omega)) (by (repeat first | with_reducible assumption | with_reducible exact Below.refl _ _ | with_reducible refine Below.drew ?_ | (with_reducible refine Below.alloc ?_ (by first | exact Nat.le_refl _ | (simp only [World.size_alloc, World.size_drew]; omega) | omega) _)))).mono ?_); rintro en w6 ⟨A6, c6, rfl, g6, hb6⟩))
          all_goals
            have hb10 := hbW.trans (hb6.mono hbW.size)
            have gf := g6
            clear hT hM hI SB
            go_wp2
            go_ret2
            exact ⟨_, _, _, rfl, gd.out, A6, _, c6, rfl, accE_done (gf.out.base_le hbW.size) hb10⟩
end Go.Proofs.YtdmjdpaehnhdoaaDoor
