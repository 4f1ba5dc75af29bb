/- Frame: the walk of the law FrameTells. -/
import Derived.Test.YtceggbbichfjnaaTellsP
import Derived.Lib.Hide
namespace Go.Proofs.Ytceggbbichfjnaa.FrameTells
open Go.ChangeShapes Go.WideShapes Go.ChangeAt Go.RowKit
set_option linter.unusedSimpArgs false
set_option linter.unusedVariables false
theorem bytes_set (l : List Nat) (i b : Nat) : (bytes l).set i (.int .u8 (b : Int)) = bytes (l.set i b) := by simp [bytes, List.map_set]
theorem bytes_at {l : List Nat} {i : Nat} (h : i < l.length) : (bytes l)[i]? = some (.int .u8 ((l.getD i 0 : Nat) : Int)) := by simp [List.getElem?_eq_getElem h]
theorem below_grown {w w' : World} (hb : Below w.heap.size w w') : w.grownBy w' none := ⟨hb.os, hb.tape, hb.output, hb.size, fun k hk _ => hb.block k hk⟩
theorem row_apart {w : World} {base g n : Nat} {v : Value} {xs : List Value} (h : w.ownsRow base 5 1 v n xs) (hg : g < base) : v.ownBlock = none ∨ v.ownBlock ≠ some g := by
  rcases h.2 with ⟨hv, _⟩ | ⟨g', cap, cur, hv, hb, _⟩
  · left; rw [hv]; rfl
  · right
    rw [hv]
    simp [Value.ownBlock]
    omega
theorem row_later {w w' : World} {base n : Nat} {v : Value} {xs : List Value} (h : w.ownsRow base 5 1 v n xs) (hb : Below w.heap.size w w') : w'.ownsRow base 5 1 v n xs := by
  refine h.kept (below_grown hb) ?_
  rcases h.2 with ⟨hv, _⟩ | ⟨g', cap, cur, hv, _⟩
  · left; rw [hv]; rfl
  · right; rw [hv]; simp [Value.ownBlock]
theorem row_reads {w : World} {base n c : Nat} {A : Option Addr} {l : List Nat} (h : w.ownsRow base 5 1 (.slice A n c) n (bytes l)) : Reads w w.heap.size 1 A n (bytes l) := Reads.of_own h
theorem str_same (l : List Nat) : ((strOf l).toList == (strOf l).toList) = true := by simp
theorem putS_len (kind : Nat) (l : List Nat) : (putS kind l).length ≤ 5000 := by
  unfold putS
  split
  · rw [framed_len]; omega
  · simp
theorem takeC_len (l : List Nat) : (takeC l).length ≤ 5000 := by
  unfold takeC
  split
  · rename_i h
    have := h.2.2.2.2.2
    simp [content]
    omega
  · simp
theorem out (kind : Int) (A : Option Addr) (n c : Nat) (hm : 5000 < n) (w : World) :
    Calls Try.prog 5 #[.int .u8 kind, .slice A n c] w fun en w' => en = .returned (.bool true) ∧ Below w.heap.size w w' := by
  have hd : decide ((5000 : Int) < n) = true := by simp; omega
  go_enter Try.func5, Try.ntmps5
  go_wp2
  go_ret
  exact ⟨rfl, Below.refl _ _⟩
theorem own_slice {w : World} {base n : Nat} {v : Value} {l : List Nat} (hl : l.length = n) (h : w.ownsRow base 5 1 v n (bytes l)) : ∃ A c, v = .slice A n c ∧ n ≤ c ∧ Reads w w.heap.size 1 A n (bytes l) := by
  have h' := h
  rcases h'.2 with ⟨hv, hx⟩ | ⟨g, cap, cur, hv, _, _, hnc, _⟩
  · subst hv
    have h0 : n = 0 := by have := h.1; simp_all
    subst h0
    exact ⟨none, 0, rfl, Nat.le_refl _, by
      have e : l = [] := List.eq_nil_of_length_eq_zero hl
      subst e
      exact Reads.none_⟩
  · subst hv
    exact ⟨_, _, rfl, by omega, Reads.of_own h⟩
set_option maxHeartbeats 8000000 in
set_option maxRecDepth 100000 in
theorem main (kind : Nat) (hk : kind < 256) (A : Option Addr) (n c : Nat) (l : List Nat) (hn : l.length = n) (hl : ∀ b ∈ l, b < 256) (hc : n ≤ c) (hm : n ≤ 5000) (w : World) (hR : Reads w w.heap.size 1 A n (bytes l)) :
    Calls Try.prog 5 #[.int .u8 (kind : Int), .slice A n c] w fun en w' => en = .returned (.bool true) ∧ Below w.heap.size w w' := by
  obtain ⟨i0, hi0, hz0, hz1, hz2⟩ := info_parts info5
  have hd : decide ((5000 : Int) < n) = false := by simp; omega
  go_enter Try.func5, Try.ntmps5
  go_wp2_with (first | (at_builtin; refine wpList_append_any _ rfl (.tmp 22) (.tmp 23) _ rfl w.heap.size 5 i0 _ 1 1 Try.underlying22 hi0 hz0 hz1 hz2 rfl (by omega) (.slice (some ⟨w.heap.size, 0, none⟩) 0 0) 0 [] rfl (owns_new w w.heap.size (Nat.le_refl _) [] 5 0 rfl (by unfold maxLen; omega)) w.heap.size A n c (bytes l) rfl (hR.alloc (Nat.le_refl _) _) (bytes_one l) (by unfold maxLen; omega) (by omega) (by simp) ?_; intro v2 w2 hown2 hg2 hat2; simp only [Nat.zero_add, List.nil_append] at hown2; have hB2 : Below w.heap.size w w2 := ((Below.refl _ w).alloc (Nat.le_refl _) _).grown hg2 (by simp) (by intro q hq; simp [Value.ownBlock] at hq; omega); obtain ⟨A2, c2, rfl, hc2, hR2⟩ := own_slice hn hown2; clear hown2 hg2 hat2))
  refine (put_u kind hk A2 n c2 l hn hl _ hR2).mono ?_
  rintro en w3 ⟨Ax, cx, rfl, hx3, hb3⟩
  obtain ⟨X, hX⟩ : ∃ X, putS kind l = X := ⟨_, rfl⟩
  obtain ⟨e1, he1⟩ : ∃ e, putE l = e := ⟨_, rfl⟩
  have hXb := putS_lt hk hl
  have hXm := putS_len kind l
  rw [hX] at hXb hx3 hXm ⊢
  rw [he1]
  obtain ⟨nx, hXl⟩ : ∃ nx, X.length = nx := ⟨_, rfl⟩
  rw [hXl] at hx3 hXm ⊢
  have hgx3 : ∀ g, Ax = some ⟨g, 0, none⟩ → 0 < nx → g < w3.heap.size := fun g he h0 => by
    obtain ⟨g', cap', hAe, _, hgl⟩ := hx3.form h0
    injection hAe with hA1 _ hA2
    rw [he] at hA1
    injection hA1 with hA1
    injection hA1 with hA1
    omega
  have hB3 := hB2.trans (hb3.mono hB2.size)
  go_wp2_with fail
  refine (rput_u kind hk A n c l hn hl _ ((hR.below hB3).more hB3.size)).mono ?_
  rintro en w4 ⟨Ay, cy, rfl, hy4, hb4⟩
  rw [hX] at hy4 ⊢
  rw [he1]
  rw [hXl] at hy4 ⊢
  have hB4 := hB3.trans (hb4.mono hB3.size)
  have hB24 := hb3.trans (hb4.mono hb3.size)
  go_wp2_with fail
  refine (take_u A2 n c2 l hn (by omega) hc2 hl _ ((hR2.below hB24).more hB24.size)).mono ?_
  rintro en w5 ⟨Ac, cc, rfl, hc5, hb5⟩
  obtain ⟨C, hC⟩ : ∃ C, takeC l = C := ⟨_, rfl⟩
  obtain ⟨e2, he2⟩ : ∃ e, takeE l = e := ⟨_, rfl⟩
  obtain ⟨kk, hkk⟩ : ∃ e, takeK l = e := ⟨_, rfl⟩
  have hCb := takeC_lt hl
  have hCm := takeC_len l
  rw [hC] at hCb hc5 hCm ⊢
  rw [he2, hkk]
  obtain ⟨m, hCl⟩ : ∃ m, C.length = m := ⟨_, rfl⟩
  rw [hCl] at hc5 hCm ⊢
  have hB5 := hB4.trans (hb5.mono hB4.size)
  have hB25 := hB24.trans (hb5.mono hB24.size)
  go_wp2_with fail
  refine (rtake_u A n c l hn (by omega) hc hl _ ((hR.below hB5).more hB5.size)).mono ?_
  rintro en w6 ⟨Ad, cd, rfl, hd6, hb6⟩
  rw [hC] at hd6 ⊢
  rw [he2, hkk]
  rw [hCl] at hd6 ⊢
  have hB6 := hB5.trans (hb6.mono hB5.size)
  have hB26 := hB25.trans (hb6.mono hB25.size)
  have hx6 := row_later (row_later (row_later hx3 hb4) hb5) hb6
  have hc6 := row_later hc5 hb6
  have hy6 := (hy4.below hb5).below (hb6.mono hb5.size)
  have ha1 : (convert 22 9 (.slice Ax nx cx)).run Try.prog w6 = .ok (.string (strOf X)) w6 := conv_str hXl hXb (row_reads hx6)
  have ha2 : (convert 22 9 (.slice Ay nx cy)).run Try.prog w6 = .ok (.string (strOf X)) w6 := conv_str hXl hXb hy6
  have ha3 : (convert 22 9 (.slice Ac m cc)).run Try.prog w6 = .ok (.string (strOf C)) w6 := conv_str hCl hCb (row_reads hc6)
  have ha4 : (convert 22 9 (.slice Ad m cd)).run Try.prog w6 = .ok (.string (strOf C)) w6 := conv_str hCl hCb hd6
  have hs1 := str_same X
  have hs2 := str_same C
  have hgx : ∀ g, Ax = some ⟨g, 0, none⟩ → 0 < nx → g < w4.heap.size := fun g he h0 => Nat.lt_of_lt_of_le (hgx3 g he h0) hb4.size
  have hw24 : w2.heap.size ≤ w4.heap.size := hB24.size
  clear hgx3 hx3 hc5 hy4 hy6 hd6 hb3 hb4 hb5 hX hC he1 he2 hkk hB3 hB4 hB5 hB24 hB25
  go_wp2_with fail
  refine (sum_n A2 n c2 w2.heap.size l hn hl (by omega) _ (hR2.below hB26)).mono ?_
  rintro en w7 ⟨rfl, rfl⟩
  go_wp2_with fail
  refine (rsum_n A n c w.heap.size l hn hl (by omega) _ (hR.below hB6)).mono ?_
  rintro en w7 ⟨rfl, rfl⟩
  have hcs : ((crc l : Int) == (crc l : Int)) = true := by simp
  have hL := Lib.hid hn
  have hBw := hB6
  go_wp2
  go_loopw [17] (fun i wr => ∃ (k : Nat) (X : List Nat), k ≤ nx ∧ i = .int .i64 k ∧ X.length = nx ∧ (∀ b ∈ X, b < 256) ∧ wr.ownsRow w2.heap.size 5 1 (.slice Ax nx cx) nx (bytes X) ∧ wr.ownsRow w4.heap.size 5 1 (.slice Ac m cc) m (bytes C) ∧ Below w2.heap.size w2 wr) (fun i _ => nx - (intOf i).toNat)
  case atStart => exact ⟨0, X, by omega, rfl, hXl, hXb, hx6, hc6, hB26⟩
  case round =>
    obtain ⟨k, Z, hk, rfl, hZl, hZb, hrow, hrc, hBr⟩ := hrel
    by_cases hlt : k < nx
    · obtain ⟨g, cap', hAe, hgb, hgl⟩ := hrow.form (by omega)
      injection hAe with hA1 _ hA2
      subst hA1
      obtain ⟨z, hz⟩ : ∃ z, z = Z.getD k 0 := ⟨_, rfl⟩
      have hzb : z < 256 := by rw [hz, List.getD_eq_getElem?_getD, List.getElem?_eq_getElem (by omega)]; exact hZb _ (List.getElem_mem _)
      have ck : wr.cell? ⟨g, k, none⟩ = some (.int .u8 (z : Int)) := (hrow.cellAt k (by omega)).trans (by rw [hz]; exact bytes_at (by omega))
      have fk := hrow.frozenAt
      have j1 : (0 : Int) ≤ k := by omega
      have j2 : (k : Int) < nx := by omega
      have hst := (hrow.stored k (.int .u8 (((z + 1) % 256 : Nat) : Int))).1
      rw [bytes_set] at hst
      have hgg := (hrow.stored k (.int .u8 (((z + 1) % 256 : Nat) : Int))).2
      have hcast : (((z + 1) % 256 : Nat) : Int) = ((z : Int) + 1) % 256 := by omega
      rw [hcast] at hst hgg
      have hZl2 : (Z.set k ((z + 1) % 256)).length = nx := by rw [List.length_set]; exact hZl
      have hZb2 : ∀ b ∈ Z.set k ((z + 1) % 256), b < 256 := fun y hy => by
        rcases List.mem_or_eq_of_mem_set hy with h | h
        · exact hZb y h
        · rw [h]; omega
      clear hz
      go_wp2
      go_roundw
      case rel => exact ⟨k + 1, Z.set k ((z + 1) % 256), by omega, by go_num, hZl2, hZb2, hst, hrc.kept hgg (row_apart hrc (hgx g rfl (by omega))), hBr.setCell (p := ⟨g, k, none⟩) (by exact hgb) _⟩
      case measure => simp [intOf]; omega
    · obtain rfl : k = nx := by omega
      go_wp2
      go_loopw [18] (fun i wr => ∃ (k : Nat) (X : List Nat), k ≤ m ∧ i = .int .i64 k ∧ X.length = m ∧ (∀ b ∈ X, b < 256) ∧ wr.ownsRow w4.heap.size 5 1 (.slice Ac m cc) m (bytes X) ∧ Below w2.heap.size w2 wr) (fun i _ => m - (intOf i).toNat)
      case atStart => exact ⟨0, C, by omega, rfl, hCl, hCb, hrc, hBr⟩
      case round =>
        obtain ⟨k, Z, hk, rfl, hZl, hZb, hrow, hBr⟩ := hrel
        by_cases hlt : k < m
        · obtain ⟨g, cap', hAe, hgb, hgl⟩ := hrow.form (by omega)
          injection hAe with hA1 _ hA2
          subst hA1
          obtain ⟨z, hz⟩ : ∃ z, z = Z.getD k 0 := ⟨_, rfl⟩
          have hzb : z < 256 := by rw [hz, List.getD_eq_getElem?_getD, List.getElem?_eq_getElem (by omega)]; exact hZb _ (List.getElem_mem _)
          have ck : wr.cell? ⟨g, k, none⟩ = some (.int .u8 (z : Int)) := (hrow.cellAt k (by omega)).trans (by rw [hz]; exact bytes_at (by omega))
          have fk := hrow.frozenAt
          have j1 : (0 : Int) ≤ k := by omega
          have j2 : (k : Int) < m := by omega
          have hst := (hrow.stored k (.int .u8 (((z + 1) % 256 : Nat) : Int))).1
          rw [bytes_set] at hst
          have hgg := (hrow.stored k (.int .u8 (((z + 1) % 256 : Nat) : Int))).2
          have hcast : (((z + 1) % 256 : Nat) : Int) = ((z : Int) + 1) % 256 := by omega
          rw [hcast] at hst hgg
          have hZl2 : (Z.set k ((z + 1) % 256)).length = m := by rw [List.length_set]; exact hZl
          have hZb2 : ∀ b ∈ Z.set k ((z + 1) % 256), b < 256 := fun y hy => by
            rcases List.mem_or_eq_of_mem_set hy with h | h
            · exact hZb y h
            · rw [h]; omega
          clear hz
          go_wp2
          go_roundw
          case rel => exact ⟨k + 1, Z.set k ((z + 1) % 256), by omega, by go_num, hZl2, hZb2, hst, hBr.setCell (p := ⟨g, k, none⟩) (by show w2.heap.size ≤ g; omega) _⟩
          case measure => simp [intOf]; omega
        · obtain rfl : k = m := by omega
          have ko : (convert 22 9 (.slice A2 n c2)).run Try.prog wr = .ok (.string (strOf l)) wr := conv_str hn hl (hR2.below hBr)
          have kb : (convert 22 9 (.slice A n c)).run Try.prog wr = .ok (.string (strOf l)) wr := conv_str hn hl (hR.below (hB2.trans (hBr.mono hB2.size)))
          have ks := str_same l
          have hfin := hB2.trans (hBr.mono hB2.size)
          clear hrow hBr hR hR2
          go_wp2
          go_ret
          exact ⟨rfl, hfin⟩
theorem walk (kind : Nat) (hk : kind < 256) (A : Option Addr) (n c : Nat) (l : List Nat) (hn : l.length = n) (hl : ∀ b ∈ l, b < 256) (hc : n ≤ c) (w : World) (hR : Reads w w.heap.size 1 A n (bytes l)) :
    Calls Try.prog 5 #[.int .u8 (kind : Int), .slice A n c] w fun en w' => en = .returned (.bool true) ∧ Below w.heap.size w w' := by
  rcases Nat.lt_or_ge 5000 n with h | h
  · exact out kind A n c h w
  · exact main kind hk A n c l hn hl hc h w hR
end Go.Proofs.Ytceggbbichfjnaa.FrameTells
