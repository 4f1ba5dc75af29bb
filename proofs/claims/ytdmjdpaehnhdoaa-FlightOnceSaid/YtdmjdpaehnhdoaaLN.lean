/- Flight: loads that may be: the reference's answer -/
import Derived.Test.YtdmjdpaehnhdoaaLM
import Derived.Test.YtdmjdpaehnhdoaaKit9
namespace Go.Proofs.Ytdmjdpaehnhdoaa
open Go.ChangeShapes Go.WideShapes Go.ChangeAt Go.RowKit
set_option linter.unusedSimpArgs false
set_option linter.unusedVariables false
theorem lastN_ge (l : List En) : ∀ k, (∀ j x, j < k → l[j]? = some x → oneF (lastN l j) x) → -1 ≤ lastN l k
  | 0, _ => by simp [lastN]
  | k + 1, h => by
    have h1 := lastN_ge l k (fun j x hj hx => h j x (by omega) hx)
    rcases hx : l[k]? with _ | x
    · simp [lastN, hx]
    · have h2 := (h k x (by omega) hx).1
      simp only [lastN, hx]
      omega
set_option maxRecDepth 100000 in
set_option maxHeartbeats 16000000 in
theorem rfcheck_any (A : Option Addr) (n c : Nat) (l : List En) (hm : n ≤ maxLen) (w : World) (h1 : Ens w w.heap.size A n l) : Calls Try.prog 21 #[.slice A n c] w fun en w' => ∃ E, en = .returned (.int .i64 E) ∧ ChkF l E ∧ Below w.heap.size w w' := by
  have gln := Lib.hid (ens_len h1)
  by_cases hb : 16 < n
  · have d5 : decide ((16 : Int) < n) = true := decide_eq_true (by omega)
    have d6 : decide (16 < n) = true := decide_eq_true hb
    have g4 : Hid (ChkF l 4) := Lib.hid (.inl ⟨by rw [gln.out]; exact hb, rfl⟩)
    clear h1 hb hm
    go_enter Try.func21, Try.ntmps21
    go_wp2
    go_ret
    exact ⟨4, rfl, g4.out, Below.refl _ _⟩
  have gn : Hid (l.length ≤ 16) := Lib.hid (by rw [gln.out]; omega)
  have hn : n ≤ 16 := by omega
  have d5 : decide ((16 : Int) < n) = false := decide_eq_false (by omega)
  have d6 : decide (16 < n) = false := decide_eq_false hb
  have hB0 := Below.refl w.heap.size w
  have ge := Lib.hid h1
  clear hb h1
  go_enter Try.func21, Try.ntmps21
  go_wp2
  go_loopw [3] (fun t wr => ∃ (k : Nat), k ≤ n ∧ t = .int .i64 (k : Int) ∧ Hid (∀ j x, j < k → l[j]? = some x → oneF (lastN l j) x) ∧ Below w.heap.size w wr) (fun t _ => n - (intOf t).toNat)
  case atStart => exact ⟨0, Nat.zero_le _, rfl, Lib.hid (fun j x h => by omega), hB0⟩
  case round =>
    clear hB0
    obtain ⟨k, hk, rfl, h0, hB⟩ := hrel
    by_cases hlt : k < n
    · obtain ⟨ad, nu, ep, cp, ag0, aX0, an0, ac0, ae0, ag1, aX1, an1, ac1, ae1, ag2, aX2, an2, ac2, ae2, ag3, aX3, an3, ac3, ae3, m, rfl, hb1, hl1, hx1, hrel1⟩ := ens_rel ge.out hlt
      obtain ⟨a0, a1, a2, a3, a4, a5, a6, a7, a8, a9, a10, a11, a12, a13, a14⟩ := (hrel1 wr hB).2
      have i1 : (0 : Int) ≤ k := by omega
      have i2 : (k : Int) < n := by omega
      have gge : Hid (-1 ≤ lastN l k) := Lib.hid (lastN_ge l k h0.out)
      have gbad : Hid (¬ oneF (lastN l k) ⟨nu, ep, cp, m⟩ → ChkF l 8) := Lib.hid (fun h => .inr (.inr ⟨gn.out, fun hg => h (hg k _ hl1), rfl⟩))
      have ggd : Hid (oneF (lastN l k) ⟨nu, ep, cp, m⟩ → ∀ j x, j < k + 1 → l[j]? = some x → oneF (lastN l j) x) := Lib.hid (fun hh j x hj hx => by
        rcases Nat.lt_or_ge j k with h | h
        · exact h0.out j x h hx
        · obtain rfl : j = k := by omega
          rw [hl1] at hx
          injection hx with hx
          subst hx
          exact hh)
      obtain ⟨W, hW⟩ : ∃ W, W = wr.alloc (.cells #[.int .i64 nu, .int .i64 ep, .int .i64 cp, .bool ag0, .slice aX0 an0 ac0, .int .i64 ae0, .bool ag1, .slice aX1 an1 ac1, .int .i64 ae1, .bool ag2, .slice aX2 an2 ac2, .int .i64 ae2, .bool ag3, .slice aX3 an3 ac3, .int .i64 ae3] 40) := ⟨_, rfl⟩
      have hBW : Below wr.heap.size wr W := by rw [hW]; exact (Below.refl _ _).alloc (Nat.le_refl _) _
      have kb : Blk W wr.heap.size 40 #[.int .i64 nu, .int .i64 ep, .int .i64 cp, .bool ag0, .slice aX0 an0 ac0, .int .i64 ae0, .bool ag1, .slice aX1 an1 ac1, .int .i64 ae1, .bool ag2, .slice aX2 an2 ac2, .int .i64 ae2, .bool ag3, .slice aX3 an3 ac3, .int .i64 ae3] := by rw [hW]; exact Blk.new wr _ _
      have hB2 : Below w.heap.size w W := hB.trans (hBW.mono hB.size)
      have b0 : ∀ q : Bw W.heap.size W, q.w.cell? ⟨wr.heap.size, 0, none⟩ = some (.int .i64 nu) := fun q => by rw [(kb.below q.h kb.lt).cell]; rfl
      have b1 : ∀ q : Bw W.heap.size W, q.w.cell? ⟨wr.heap.size, 1, none⟩ = some (.int .i64 ep) := fun q => by rw [(kb.below q.h kb.lt).cell]; rfl
      have b2 : ∀ q : Bw W.heap.size W, q.w.cell? ⟨wr.heap.size, 2, none⟩ = some (.int .i64 cp) := fun q => by rw [(kb.below q.h kb.lt).cell]; rfl
      have b3 : ∀ q : Bw W.heap.size W, q.w.cell? ⟨wr.heap.size, 3, none⟩ = some (.bool ag0) := fun q => by rw [(kb.below q.h kb.lt).cell]; rfl
      have b4 : ∀ q : Bw W.heap.size W, q.w.cell? ⟨wr.heap.size, 4, none⟩ = some (.slice aX0 an0 ac0) := fun q => by rw [(kb.below q.h kb.lt).cell]; rfl
      have b5 : ∀ q : Bw W.heap.size W, q.w.cell? ⟨wr.heap.size, 5, none⟩ = some (.int .i64 ae0) := fun q => by rw [(kb.below q.h kb.lt).cell]; rfl
      have b6 : ∀ q : Bw W.heap.size W, q.w.cell? ⟨wr.heap.size, 6, none⟩ = some (.bool ag1) := fun q => by rw [(kb.below q.h kb.lt).cell]; rfl
      have b7 : ∀ q : Bw W.heap.size W, q.w.cell? ⟨wr.heap.size, 7, none⟩ = some (.slice aX1 an1 ac1) := fun q => by rw [(kb.below q.h kb.lt).cell]; rfl
      have b8 : ∀ q : Bw W.heap.size W, q.w.cell? ⟨wr.heap.size, 8, none⟩ = some (.int .i64 ae1) := fun q => by rw [(kb.below q.h kb.lt).cell]; rfl
      have b9 : ∀ q : Bw W.heap.size W, q.w.cell? ⟨wr.heap.size, 9, none⟩ = some (.bool ag2) := fun q => by rw [(kb.below q.h kb.lt).cell]; rfl
      have b10 : ∀ q : Bw W.heap.size W, q.w.cell? ⟨wr.heap.size, 10, none⟩ = some (.slice aX2 an2 ac2) := fun q => by rw [(kb.below q.h kb.lt).cell]; rfl
      have b11 : ∀ q : Bw W.heap.size W, q.w.cell? ⟨wr.heap.size, 11, none⟩ = some (.int .i64 ae2) := fun q => by rw [(kb.below q.h kb.lt).cell]; rfl
      have b12 : ∀ q : Bw W.heap.size W, q.w.cell? ⟨wr.heap.size, 12, none⟩ = some (.bool ag3) := fun q => by rw [(kb.below q.h kb.lt).cell]; rfl
      have b13 : ∀ q : Bw W.heap.size W, q.w.cell? ⟨wr.heap.size, 13, none⟩ = some (.slice aX3 an3 ac3) := fun q => by rw [(kb.below q.h kb.lt).cell]; rfl
      have b14 : ∀ q : Bw W.heap.size W, q.w.cell? ⟨wr.heap.size, 14, none⟩ = some (.int .i64 ae3) := fun q => by rw [(kb.below q.h kb.lt).cell]; rfl
      have hBr := Below.refl W.heap.size W
      have gw : Hid (∀ q : Bw W.heap.size W, Below w.heap.size w q.w) := Lib.hid (fun q => hB2.trans (q.h.mono hB2.size))
      obtain ⟨Q, hQ⟩ : ∃ Q, mayM m = Q := ⟨_, rfl⟩
      have hcm : ∀ q : Bw W.heap.size W, Calls Try.prog 37 #[.agg #[.bool ag0, .slice aX0 an0 ac0, .int .i64 ae0, .bool ag1, .slice aX1 an1 ac1, .int .i64 ae1, .bool ag2, .slice aX2 an2 ac2, .int .i64 ae2, .bool ag3, .slice aX3 an3 ac3, .int .i64 ae3]] q.w fun en w' => en = .returned (.bool Q) ∧ ∃ q' : Bw W.heap.size W, w' = q'.w := fun q => Calls.bw (rmmay_any ag0 aX0 an0 ac0 ae0 ag1 aX1 an1 ac1 ae1 ag2 aX2 an2 ac2 ae2 ag3 aX3 an3 ac3 ae3 m Q hQ q.w (hrel1 q.w (gw.out q)).1) (Nat.le_refl _)
      have gQ := Lib.hid hQ
      have gl1 := Lib.hid hl1
      clear hrel1 hx1 hl1 hb1 h0 hB hB2 hBW kb hQ
      by_cases c0 : nu < 0
      · have f0 : decide (nu < 0) = true := decide_eq_true c0
        have gd := Lib.hid (gbad.out (by have := gge.out; unfold oneF; simp only; omega))
        clear c0 gbad ggd gge gQ gl1
        go_wp2_with fail
        rw [← hW]
        clear hW
        refine wp_region_wq W.heap.size W hBr (by kernel_rfl) (by kernel_rfl) ?_
        repeat (first | (refine WQ.yes (by rfl) (fun K hK => ?_); go_simp; first | (refine hK _ ?_; clear hK K) | (apply Exists.intro; refine ⟨fun _ => ?_, hK _ ?_⟩; (exact hcm _); clear hK K)) | (refine WQ.no (by rfl) ?_; (try simp only [Act.put, List.setIfInBounds_toArray, List.set_cons_zero, List.set_cons_succ])))
        refine WQ.nil ?_
        intro pq
        go_wp2
        go_ret
        exact ⟨8, rfl, gd.out, gw.out pq⟩
      have f0 : decide (nu < 0) = false := decide_eq_false c0
      by_cases c1 : (1048575 : Int) < nu
      · have f1 : decide ((1048575 : Int) < nu) = true := decide_eq_true c1
        have gd := Lib.hid (gbad.out (by have := gge.out; unfold oneF; simp only; omega))
        clear c1 gbad ggd gge gQ gl1
        go_wp2_with fail
        rw [← hW]
        clear hW
        refine wp_region_wq W.heap.size W hBr (by kernel_rfl) (by kernel_rfl) ?_
        repeat (first | (refine WQ.yes (by rfl) (fun K hK => ?_); go_simp; first | (refine hK _ ?_; clear hK K) | (apply Exists.intro; refine ⟨fun _ => ?_, hK _ ?_⟩; (exact hcm _); clear hK K)) | (refine WQ.no (by rfl) ?_; (try simp only [Act.put, List.setIfInBounds_toArray, List.set_cons_zero, List.set_cons_succ])))
        refine WQ.nil ?_
        intro pq
        go_wp2
        go_ret
        exact ⟨8, rfl, gd.out, gw.out pq⟩
      have f1 : decide ((1048575 : Int) < nu) = false := decide_eq_false c1
      by_cases c2 : ep < 0
      · have f2 : decide (ep < 0) = true := decide_eq_true c2
        have gd := Lib.hid (gbad.out (by have := gge.out; unfold oneF; simp only; omega))
        clear c2 gbad ggd gge gQ gl1
        go_wp2_with fail
        rw [← hW]
        clear hW
        refine wp_region_wq W.heap.size W hBr (by kernel_rfl) (by kernel_rfl) ?_
        repeat (first | (refine WQ.yes (by rfl) (fun K hK => ?_); go_simp; first | (refine hK _ ?_; clear hK K) | (apply Exists.intro; refine ⟨fun _ => ?_, hK _ ?_⟩; (exact hcm _); clear hK K)) | (refine WQ.no (by rfl) ?_; (try simp only [Act.put, List.setIfInBounds_toArray, List.set_cons_zero, List.set_cons_succ])))
        refine WQ.nil ?_
        intro pq
        go_wp2
        go_ret
        exact ⟨8, rfl, gd.out, gw.out pq⟩
      have f2 : decide (ep < 0) = false := decide_eq_false c2
      by_cases c3 : (65535 : Int) < ep
      · have f3 : decide ((65535 : Int) < ep) = true := decide_eq_true c3
        have gd := Lib.hid (gbad.out (by have := gge.out; unfold oneF; simp only; omega))
        clear c3 gbad ggd gge gQ gl1
        go_wp2_with fail
        rw [← hW]
        clear hW
        refine wp_region_wq W.heap.size W hBr (by kernel_rfl) (by kernel_rfl) ?_
        repeat (first | (refine WQ.yes (by rfl) (fun K hK => ?_); go_simp; first | (refine hK _ ?_; clear hK K) | (apply Exists.intro; refine ⟨fun _ => ?_, hK _ ?_⟩; (exact hcm _); clear hK K)) | (refine WQ.no (by rfl) ?_; (try simp only [Act.put, List.setIfInBounds_toArray, List.set_cons_zero, List.set_cons_succ])))
        refine WQ.nil ?_
        intro pq
        go_wp2
        go_ret
        exact ⟨8, rfl, gd.out, gw.out pq⟩
      have f3 : decide ((65535 : Int) < ep) = false := decide_eq_false c3
      by_cases c4 : cp < 1
      · have f4 : decide (cp < 1) = true := decide_eq_true c4
        have gd := Lib.hid (gbad.out (by have := gge.out; unfold oneF; simp only; omega))
        clear c4 gbad ggd gge gQ gl1
        go_wp2_with fail
        rw [← hW]
        clear hW
        refine wp_region_wq W.heap.size W hBr (by kernel_rfl) (by kernel_rfl) ?_
        repeat (first | (refine WQ.yes (by rfl) (fun K hK => ?_); go_simp; first | (refine hK _ ?_; clear hK K) | (apply Exists.intro; refine ⟨fun _ => ?_, hK _ ?_⟩; (exact hcm _); clear hK K)) | (refine WQ.no (by rfl) ?_; (try simp only [Act.put, List.setIfInBounds_toArray, List.set_cons_zero, List.set_cons_succ])))
        refine WQ.nil ?_
        intro pq
        go_wp2
        go_ret
        exact ⟨8, rfl, gd.out, gw.out pq⟩
      have f4 : decide (cp < 1) = false := decide_eq_false c4
      by_cases c5 : (16 : Int) < cp
      · have f5 : decide ((16 : Int) < cp) = true := decide_eq_true c5
        have gd := Lib.hid (gbad.out (by have := gge.out; unfold oneF; simp only; omega))
        clear c5 gbad ggd gge gQ gl1
        go_wp2_with fail
        rw [← hW]
        clear hW
        refine wp_region_wq W.heap.size W hBr (by kernel_rfl) (by kernel_rfl) ?_
        repeat (first | (refine WQ.yes (by rfl) (fun K hK => ?_); go_simp; first | (refine hK _ ?_; clear hK K) | (apply Exists.intro; refine ⟨fun _ => ?_, hK _ ?_⟩; (exact hcm _); clear hK K)) | (refine WQ.no (by rfl) ?_; (try simp only [Act.put, List.setIfInBounds_toArray, List.set_cons_zero, List.set_cons_succ])))
        refine WQ.nil ?_
        intro pq
        go_wp2
        go_ret
        exact ⟨8, rfl, gd.out, gw.out pq⟩
      have f5 : decide ((16 : Int) < cp) = false := decide_eq_false c5
      cases Q with
      | false =>
        have gd := Lib.hid (gbad.out (by unfold oneF; simp only [gQ.out]; simp))
        clear c0 c1 c2 c3 c4 c5 gbad ggd gge gQ gl1
        go_wp2_with fail
        rw [← hW]
        clear hW
        refine wp_region_wq W.heap.size W hBr (by kernel_rfl) (by kernel_rfl) ?_
        repeat (first | (refine WQ.yes (by rfl) (fun K hK => ?_); go_simp; first | (refine hK _ ?_; clear hK K) | (apply Exists.intro; refine ⟨fun _ => ?_, hK _ ?_⟩; (exact hcm _); clear hK K)) | (refine WQ.no (by rfl) ?_; (try simp only [Act.put, List.setIfInBounds_toArray, List.set_cons_zero, List.set_cons_succ])))
        refine WQ.nil ?_
        intro pq
        go_wp2
        go_ret
        exact ⟨8, rfl, gd.out, gw.out pq⟩
      | true =>
        rcases Nat.eq_zero_or_pos k with h0 | h0
        · have kz : decide ((0 : Int) < k) = false := decide_eq_false (by omega)
          have kz2 : decide (0 < k) = false := decide_eq_false (by omega)
          have gI := Lib.hid (ggd.out (by subst h0; exact ⟨by simp only [lastN]; omega, by simp only; omega, by simp only; omega, by simp only; omega, by simp only; omega, by simp only; omega, gQ.out⟩))
          clear c0 c1 c2 c3 c4 c5 gbad ggd gge gQ gl1 h0
          go_wp2_with fail
          rw [← hW]
          clear hW
          refine wp_region_wq W.heap.size W hBr (by kernel_rfl) (by kernel_rfl) ?_
          repeat (first | (refine WQ.yes (by rfl) (fun K hK => ?_); go_simp; first | (refine hK _ ?_; clear hK K) | (apply Exists.intro; refine ⟨fun _ => ?_, hK _ ?_⟩; (exact hcm _); clear hK K)) | (refine WQ.no (by rfl) ?_; (try simp only [Act.put, List.setIfInBounds_toArray, List.set_cons_zero, List.set_cons_succ])))
          refine WQ.nil ?_
          intro pq
          go_wp2
          go_roundw
          case rel => exact ⟨k + 1, by omega, by go_num, gI, gw.out pq⟩
          case measure => simp [intOf]; omega
        · obtain ⟨j, hkj⟩ : ∃ j, k = j + 1 := ⟨k - 1, by omega⟩
          obtain ⟨ad2, pn, pe, pc, pag0, paX0, pan0, pac0, pae0, pag1, paX1, pan1, pac1, pae1, pag2, paX2, pan2, pac2, pae2, pag3, paX3, pan3, pac3, pae3, pm, e2, hb2, hl2, hx2, hrel2⟩ := ens_rel ge.out (show j < n by omega)
          injection e2 with e2
          subst e2
          have f9 : ∀ q : Bw W.heap.size W, q.w.cell? (ad.add (j * 15)) = some (.int .i64 pn) := fun q => (hrel2 q.w (gw.out q)).2.1
          have gla : Hid (lastN l k = pn) := Lib.hid (by rw [hkj]; simp [lastN, hl2])
          have k1 : (0 : Int) ≤ j := by omega
          have k2 : (j : Int) < n := by omega
          have k3 : decide ((0 : Int) < (k : Int)) = true := decide_eq_true (by omega)
          have k6 : decide (0 < k) = true := decide_eq_true h0
          have k4 : IntKind.i64.wrap ((k : Int) - 1) = j := by rw [hkj]; simp [IntKind.wrap, IntKind.bits, IntKind.signed]; omega
          clear hrel2 hx2 hl2 hb2 hkj h0
          by_cases c7 : nu ≤ pn
          · have f7 : decide (nu ≤ pn) = true := decide_eq_true c7
            have gd := Lib.hid (gbad.out (by have := gla.out; unfold oneF; simp only; omega))
            clear c0 c1 c2 c3 c4 c5 c7 gbad ggd gge gQ gl1 gla
            go_wp2_with fail
            rw [← hW]
            clear hW
            refine wp_region_wq W.heap.size W hBr (by kernel_rfl) (by kernel_rfl) ?_
            repeat (first | (refine WQ.yes (by rfl) (fun K hK => ?_); go_simp; first | (refine hK _ ?_; clear hK K) | (apply Exists.intro; refine ⟨fun _ => ?_, hK _ ?_⟩; (exact hcm _); clear hK K)) | (refine WQ.no (by rfl) ?_; (try simp only [Act.put, List.setIfInBounds_toArray, List.set_cons_zero, List.set_cons_succ])))
            refine WQ.nil ?_
            intro pq
            go_wp2
            go_ret
            exact ⟨8, rfl, gd.out, gw.out pq⟩
          · have f7 : decide (nu ≤ pn) = false := decide_eq_false c7
            have gI := Lib.hid (ggd.out ⟨by simp only; have := gla.out; omega, by simp only; omega, by simp only; omega, by simp only; omega, by simp only; omega, by simp only; omega, gQ.out⟩)
            clear c0 c1 c2 c3 c4 c5 c7 gbad ggd gge gQ gl1 gla
            go_wp2_with fail
            rw [← hW]
            clear hW
            refine wp_region_wq W.heap.size W hBr (by kernel_rfl) (by kernel_rfl) ?_
            repeat (first | (refine WQ.yes (by rfl) (fun K hK => ?_); go_simp; first | (refine hK _ ?_; clear hK K) | (apply Exists.intro; refine ⟨fun _ => ?_, hK _ ?_⟩; (exact hcm _); clear hK K)) | (refine WQ.no (by rfl) ?_; (try simp only [Act.put, List.setIfInBounds_toArray, List.set_cons_zero, List.set_cons_succ])))
            refine WQ.nil ?_
            intro pq
            go_wp2
            go_roundw
            case rel => exact ⟨k + 1, by omega, by go_num, gI, gw.out pq⟩
            case measure => simp [intOf]; omega
    · obtain rfl : k = n := by omega
      have gd : Hid (ChkF l 0) := Lib.hid (.inr (.inl ⟨gn.out, fun j x hx => h0.out j x (by rw [← gln.out]; exact (List.getElem?_eq_some_iff.1 hx).1) hx, rfl⟩))
      clear h0 ge
      go_wp2
      go_ret
      exact ⟨0, rfl, gd.out, hB⟩
end Go.Proofs.Ytdmjdpaehnhdoaa
