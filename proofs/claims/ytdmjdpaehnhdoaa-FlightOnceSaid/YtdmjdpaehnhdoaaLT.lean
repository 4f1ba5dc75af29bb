/- Flight: the reference's Launch -/
import Derived.Test.YtdmjdpaehnhdoaaLS
namespace Go.Proofs.Ytdmjdpaehnhdoaa
open Go.ChangeShapes Go.WideShapes Go.ChangeAt Go.RowKit
set_option linter.unusedSimpArgs false
set_option linter.unusedVariables false
/-- What Launch answers. -/
def LchF (l : List En) (N e : Int) (m : Ms) (l' : List En) (E : Int) : Prop := (ChkF l E ∧ E ≠ 0 ∧ l' = []) ∨ (ChkF l 0 ∧ ¬ (0 ≤ N ∧ N ≤ 1048575) ∧ E = 2 ∧ l' = []) ∨ (ChkF l 0 ∧ (0 ≤ N ∧ N ≤ 1048575) ∧
  ((¬ (0 ≤ e ∧ e ≤ 65535) ∧ E = 2 ∧ l' = []) ∨ ((0 ≤ e ∧ e ≤ 65535) ∧
    ((mayM m = false ∧ E = 8 ∧ l' = []) ∨ (mayM m = true ∧
      (((∃ (k : Nat) (x : En), l[k]? = some x ∧ x.nu = N) ∧ E = 12 ∧ l' = []) ∨ ((∀ (j : Nat) (x : En), l[j]? = some x → x.nu ≠ N) ∧
        ((16 ≤ l.length ∧ E = 9 ∧ l' = []) ∨ (l.length < 16 ∧ E = 0 ∧ l' = insL ⟨N, e, 1, m⟩ l)))))))))
set_option maxRecDepth 100000 in
set_option maxHeartbeats 16000000 in
theorem rlaunch_any (A : Option Addr) (n c : Nat) (l : List En) (hm : n ≤ 10000) (hs1 : ∀ x ∈ l, smM x.give) (N e : Int) (bg0 : Bool) (bX0 : Option Addr) (bn0 bc0 : Nat) (be0 : Int) (bg1 : Bool) (bX1 : Option Addr) (bn1 bc1 : Nat) (be1 : Int) (bg2 : Bool) (bX2 : Option Addr) (bn2 bc2 : Nat) (be2 : Int) (bg3 : Bool) (bX3 : Option Addr) (bn3 bc3 : Nat) (be3 : Int) (mx : Ms) (hsx : smM mx) (w : World) (h : Ens w w.heap.size A n l) (hx : RdM w w.heap.size bg0 bX0 bn0 bc0 be0 bg1 bX1 bn1 bc1 be1 bg2 bX2 bn2 bc2 be2 bg3 bX3 bn3 bc3 be3 mx) : Calls Try.prog 11 #[.slice A n c, .int .i64 N, .int .i64 e, .agg #[.bool bg0, .slice bX0 bn0 bc0, .int .i64 be0, .bool bg1, .slice bX1 bn1 bc1, .int .i64 be1, .bool bg2, .slice bX2 bn2 bc2, .int .i64 be2, .bool bg3, .slice bX3 bn3 bc3, .int .i64 be3]] w fun en w' => ∃ l' v E, en = .returned (.tuple #[v, .int .i64 E]) ∧ LchF l N e mx l' E ∧ OutE w v l' w' := by
  obtain ⟨V, hV⟩ : ∃ V, V = w.alloc (.cells #[.bool bg0, .slice bX0 bn0 bc0, .int .i64 be0, .bool bg1, .slice bX1 bn1 bc1, .int .i64 be1, .bool bg2, .slice bX2 bn2 bc2, .int .i64 be2, .bool bg3, .slice bX3 bn3 bc3, .int .i64 be3] 27) := ⟨_, rfl⟩
  have hBV : Below w.heap.size w V := by rw [hV]; exact (Below.refl _ _).alloc (Nat.le_refl _) _
  have kb : Blk V w.heap.size 27 #[.bool bg0, .slice bX0 bn0 bc0, .int .i64 be0, .bool bg1, .slice bX1 bn1 bc1, .int .i64 be1, .bool bg2, .slice bX2 bn2 bc2, .int .i64 be2, .bool bg3, .slice bX3 bn3 bc3, .int .i64 be3] := by rw [hV]; exact Blk.new w _ _
  have hf := rasked_any A n c l (by unfold maxLen; omega) V (Recs.more (Recs.below h hBV) hBV.size) N
  have gln := Lib.hid (ens_len h)
  have gh := Lib.hid h
  have gs := Lib.hid hs1
  have gx := Lib.hid hx
  clear h hs1 hx
  go_enter Try.func11, Try.ntmps11
  go_wp2_with fail
  rw [← hV]
  clear hV
  refine hf.mono ?_
  rintro en w1 ⟨E, rfl, hF, hb1'⟩
  clear hf
  have hb1 : Below w.heap.size w w1 := hBV.trans (hb1'.mono hBV.size)
  rcases hF with ⟨hE, hne⟩ | ⟨hE, hne, rfl⟩ | ⟨hE, hne, rfl⟩
  · rcases hE.has with ⟨rfl, _⟩ | ⟨rfl, _, _⟩ | ⟨rfl, _, _⟩
    · have gd : Hid (LchF l N e mx [] 4) := Lib.hid (.inl ⟨hE, hne, rfl⟩)
      clear hE hne
      go_wp2
      go_ret2
      exact ⟨_, _, _, rfl, gd.out, outE_nil hb1⟩
    · exact absurd rfl hne
    · have gd : Hid (LchF l N e mx [] 8) := Lib.hid (.inl ⟨hE, hne, rfl⟩)
      clear hE hne
      go_wp2
      go_ret2
      exact ⟨_, _, _, rfl, gd.out, outE_nil hb1⟩
  · have gd : Hid (LchF l N e mx [] 2) := Lib.hid (.inr (.inl ⟨hE, hne, rfl, rfl⟩))
    clear hE hne
    go_wp2
    go_ret2
    exact ⟨_, _, _, rfl, gd.out, outE_nil hb1⟩
  · have gE := Lib.hid hE
    have gn : Hid (∀ {l' E}, _ → LchF l N e mx l' E) := Lib.hid (fun hh => .inr (.inr ⟨hE, hne, hh⟩))
    clear hE hne
    by_cases c0 : e < 0
    · have f0 : decide (e < 0) = true := decide_eq_true c0
      have gd : Hid (LchF l N e mx [] 2) := Lib.hid (gn.out (.inl ⟨by omega, rfl, rfl⟩))
      clear c0
      go_wp2
      go_ret2
      exact ⟨_, _, _, rfl, gd.out, outE_nil hb1⟩
    have f0 : decide (e < 0) = false := decide_eq_false c0
    by_cases c1 : (65535 : Int) < e
    · have f1 : decide ((65535 : Int) < e) = true := decide_eq_true c1
      have gd : Hid (LchF l N e mx [] 2) := Lib.hid (gn.out (.inl ⟨by omega, rfl, rfl⟩))
      clear c0 c1
      go_wp2
      go_ret2
      exact ⟨_, _, _, rfl, gd.out, outE_nil hb1⟩
    have f1 : decide ((65535 : Int) < e) = false := decide_eq_false c1
    have ge : Hid (0 ≤ e ∧ e ≤ 65535) := Lib.hid (by omega)
    clear c0 c1
    obtain ⟨Q, hQ⟩ : ∃ Q, mayM mx = Q := ⟨_, rfl⟩
    have hmm := rmmay_any bg0 bX0 bn0 bc0 be0 bg1 bX1 bn1 bc1 be1 bg2 bX2 bn2 bc2 be2 bg3 bX3 bn3 bc3 be3 mx Q hQ w1 (gx.out.below hb1 hb1.size)
    have gQ := Lib.hid hQ
    clear hQ
    have b0 : w1.cell? ⟨w.heap.size, 0, none⟩ = some (.bool bg0) := by rw [(kb.below hb1' kb.lt).cell]; rfl
    have b1 : w1.cell? ⟨w.heap.size, 1, none⟩ = some (.slice bX0 bn0 bc0) := by rw [(kb.below hb1' kb.lt).cell]; rfl
    have b2 : w1.cell? ⟨w.heap.size, 2, none⟩ = some (.int .i64 be0) := by rw [(kb.below hb1' kb.lt).cell]; rfl
    have b3 : w1.cell? ⟨w.heap.size, 3, none⟩ = some (.bool bg1) := by rw [(kb.below hb1' kb.lt).cell]; rfl
    have b4 : w1.cell? ⟨w.heap.size, 4, none⟩ = some (.slice bX1 bn1 bc1) := by rw [(kb.below hb1' kb.lt).cell]; rfl
    have b5 : w1.cell? ⟨w.heap.size, 5, none⟩ = some (.int .i64 be1) := by rw [(kb.below hb1' kb.lt).cell]; rfl
    have b6 : w1.cell? ⟨w.heap.size, 6, none⟩ = some (.bool bg2) := by rw [(kb.below hb1' kb.lt).cell]; rfl
    have b7 : w1.cell? ⟨w.heap.size, 7, none⟩ = some (.slice bX2 bn2 bc2) := by rw [(kb.below hb1' kb.lt).cell]; rfl
    have b8 : w1.cell? ⟨w.heap.size, 8, none⟩ = some (.int .i64 be2) := by rw [(kb.below hb1' kb.lt).cell]; rfl
    have b9 : w1.cell? ⟨w.heap.size, 9, none⟩ = some (.bool bg3) := by rw [(kb.below hb1' kb.lt).cell]; rfl
    have b10 : w1.cell? ⟨w.heap.size, 10, none⟩ = some (.slice bX3 bn3 bc3) := by rw [(kb.below hb1' kb.lt).cell]; rfl
    have b11 : w1.cell? ⟨w.heap.size, 11, none⟩ = some (.int .i64 be3) := by rw [(kb.below hb1' kb.lt).cell]; rfl
    cases Q with
    | false =>
      have gd : Hid (LchF l N e mx [] 8) := Lib.hid (gn.out (.inr ⟨ge.out, .inl ⟨gQ.out, rfl, rfl⟩⟩))
      go_wp2_with (go_at_call 37; refine hmm.mono ?_; rintro en w2 ⟨rfl, hb2⟩)
      go_ret2
      exact ⟨_, _, _, rfl, gd.out, outE_nil (hb1.trans (hb2.mono hb1.size))⟩
    | true =>
      go_wp2_with fail
      refine hmm.mono ?_
      rintro en w2 ⟨rfl, hb2'⟩
      clear hmm b0 b1 b2 b3 b4 b5 b6 b7 b8 b9 b10 b11
      have hb2 : Below w.heap.size w w2 := hb1.trans (hb2'.mono hb1.size)
      have hn16 : n ≤ 16 := by
        rcases gE.out.has with ⟨h, _⟩ | ⟨_, h, _⟩ | ⟨h, _⟩
        · cases h
        · rw [← gln.out]; exact h
        · cases h
      have hp3 := rplace_any A n c l hn16 w2 (Recs.more (Recs.below gh.out hb2) hb2.size) N
      go_wp2_with fail
      refine hp3.mono ?_
      rintro en w3 ⟨a, rfl, hP, hb3'⟩
      clear hp3
      have hb3 : Below w.heap.size w w3 := hb2.trans (hb3'.mono hb2.size)
      have hV3 : Below V.heap.size V w3 := hb1'.trans ((hb2'.mono hb1'.size).trans (hb3'.mono (Nat.le_trans hb1'.size hb2'.size)))
      rcases hP with ⟨k, rfl, hk, hkx, hkj⟩ | ⟨rfl, hno⟩
      · have gd : Hid (LchF l N e mx [] 12) := Lib.hid (gn.out (.inr ⟨ge.out, .inr ⟨gQ.out, .inl ⟨⟨k, l[k], List.getElem?_eq_getElem hk, hkx _ (List.getElem?_eq_getElem hk)⟩, rfl, rfl⟩⟩⟩))
        have i0 : decide (0 ≤ (k : Int)) = true := decide_eq_true (by omega)
        clear hk hkx hkj
        go_wp2
        go_ret2
        exact ⟨_, _, _, rfl, gd.out, outE_nil hb3⟩
      · have gno := Lib.hid hno
        clear hno
        by_cases hc : 16 ≤ n
        · have gd : Hid (LchF l N e mx [] 9) := Lib.hid (gn.out (.inr ⟨ge.out, .inr ⟨gQ.out, .inr ⟨gno.out, .inl ⟨by rw [gln.out]; exact hc, rfl, rfl⟩⟩⟩⟩))
          have j0 : decide ((16 : Int) ≤ n) = true := decide_eq_true (by omega)
          have j1 : decide (16 ≤ n) = true := decide_eq_true hc
          clear hc
          go_wp2
          go_ret2
          exact ⟨_, _, _, rfl, gd.out, outE_nil hb3⟩
        · have gd : Hid (LchF l N e mx (insL ⟨N, e, 1, mx⟩ l) 0) := Lib.hid (gn.out (.inr ⟨ge.out, .inr ⟨gQ.out, .inr ⟨gno.out, .inr ⟨by rw [gln.out]; omega, rfl, rfl⟩⟩⟩⟩))
          have j0 : decide ((16 : Int) ≤ n) = false := decide_eq_false (by omega)
          have j1 : decide (16 ≤ n) = false := decide_eq_false hc
          have hl := rlaunched_any A n c l (by omega) gs.out N e 1 bg0 bX0 bn0 bc0 be0 bg1 bX1 bn1 bc1 be1 bg2 bX2 bn2 bc2 be2 bg3 bX3 bn3 bc3 be3 mx hsx w3 (Recs.more (Recs.below gh.out hb3) hb3.size) (gx.out.below hb3 hb3.size)
          clear hc
          have b0 : w3.cell? ⟨w.heap.size, 0, none⟩ = some (.bool bg0) := by rw [(kb.below hV3 kb.lt).cell]; rfl
          have b1 : w3.cell? ⟨w.heap.size, 1, none⟩ = some (.slice bX0 bn0 bc0) := by rw [(kb.below hV3 kb.lt).cell]; rfl
          have b2 : w3.cell? ⟨w.heap.size, 2, none⟩ = some (.int .i64 be0) := by rw [(kb.below hV3 kb.lt).cell]; rfl
          have b3 : w3.cell? ⟨w.heap.size, 3, none⟩ = some (.bool bg1) := by rw [(kb.below hV3 kb.lt).cell]; rfl
          have b4 : w3.cell? ⟨w.heap.size, 4, none⟩ = some (.slice bX1 bn1 bc1) := by rw [(kb.below hV3 kb.lt).cell]; rfl
          have b5 : w3.cell? ⟨w.heap.size, 5, none⟩ = some (.int .i64 be1) := by rw [(kb.below hV3 kb.lt).cell]; rfl
          have b6 : w3.cell? ⟨w.heap.size, 6, none⟩ = some (.bool bg2) := by rw [(kb.below hV3 kb.lt).cell]; rfl
          have b7 : w3.cell? ⟨w.heap.size, 7, none⟩ = some (.slice bX2 bn2 bc2) := by rw [(kb.below hV3 kb.lt).cell]; rfl
          have b8 : w3.cell? ⟨w.heap.size, 8, none⟩ = some (.int .i64 be2) := by rw [(kb.below hV3 kb.lt).cell]; rfl
          have b9 : w3.cell? ⟨w.heap.size, 9, none⟩ = some (.bool bg3) := by rw [(kb.below hV3 kb.lt).cell]; rfl
          have b10 : w3.cell? ⟨w.heap.size, 10, none⟩ = some (.slice bX3 bn3 bc3) := by rw [(kb.below hV3 kb.lt).cell]; rfl
          have b11 : w3.cell? ⟨w.heap.size, 11, none⟩ = some (.int .i64 be3) := by rw [(kb.below hV3 kb.lt).cell]; rfl
          go_wp2_with (go_at_call 39; refine hl.mono ?_; rintro en w4 ⟨Ao, co, rfl, hT⟩; have gT := Lib.hid hT; clear hT)
          go_ret2
          exact ⟨_, _, _, rfl, gd.out, gT.out.out hb3⟩
end Go.Proofs.Ytdmjdpaehnhdoaa
