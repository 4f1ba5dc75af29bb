/- Edge: the walk of the law EdgeAll. -/
import Derived.Test.YtdibchmhigcaaaaT
import Derived.Test.YtdibchmhigcaaaaKit4
import Derived.StillTailTactics
import Derived.Deep.QuietTactic
import Derived.BigQuiet
namespace Go.Proofs.Ytdibchmhigcaaaa.EdgeAll
open Go.ChangeShapes Go.WideShapes Go.ChangeAt Go.RowKit
set_option linter.unusedSimpArgs false
set_option linter.unusedVariables false
theorem info3 : (Try.prog.info? 3).map (fun i => (i.zero, i.size, i.bytes)) = some (some (.int .i64 0), 1, 8) := by kernel_rfl
theorem ints_one (l : List Int) : ∀ u ∈ ints l, u.oneCell' = true := by
  intro u hu
  simp only [List.mem_map] at hu
  obtain ⟨x, _, rfl⟩ := hu
  rfl
theorem own_slice {w : World} {base n : Nat} {v : Value} {l : List Int} (hl : l.length = n) (h : w.ownsRow base 3 1 v n (ints l)) : ∃ A c, v = .slice A n c ∧ n ≤ c ∧ Reads w w.heap.size 1 A n (ints l) := by
  have h' := h
  rcases h'.2 with ⟨hv, hx⟩ | ⟨g, cap, cur, hv, _, _, hnc, _⟩
  · subst hv
    have h0 : n = 0 := by have := h.1; simp_all
    subst h0
    exact ⟨none, 0, rfl, Nat.le_refl _, by
      have e : l = [] := List.eq_nil_of_length_eq_zero hl
      subst e
      exact Reads.none_⟩
  · subst hv
    exact ⟨_, _, rfl, by omega, Reads.of_own h⟩
theorem out (A : Option Addr) (n c : Nat) (hm : 300 < n) (w : World) :
    Calls Try.prog 3 #[.slice A n c] w fun en w' => en = .returned (.bool true) ∧ Below w.heap.size w w' := by
  have hd : decide ((300 : Int) < n) = true := by simp; omega
  go_enter Try.func3, Try.ntmps3
  go_wp2
  go_ret
  exact ⟨rfl, Below.refl _ _⟩
set_option maxHeartbeats 8000000 in
theorem main (A : Option Addr) (n c : Nat) (zs : List Int) (hn : zs.length = n) (hc : n ≤ c) (hm : n ≤ 300) (w : World) (hR : Reads w w.heap.size 1 A n (ints zs)) :
    Calls Try.prog 3 #[.slice A n c] w fun en w' => en = .returned (.bool true) ∧ Below w.heap.size w w' := by
  obtain ⟨i0, hi0, hz0, hz1, hz2⟩ := info_parts info3
  have hd : decide ((300 : Int) < n) = false := by simp; omega
  go_enter Try.func3, Try.ntmps3
  go_wp2_with (first | (at_builtin; refine wpList_append_any _ rfl (.tmp 12) (.tmp 13) _ rfl w.heap.size 3 i0 _ 1 8 Try.underlying22 hi0 hz0 hz1 hz2 rfl (by omega) (.slice (some ⟨w.heap.size, 0, none⟩) 0 0) 0 [] rfl (owns_new w w.heap.size (Nat.le_refl _) [] 3 0 rfl (by unfold maxLen; omega)) w.heap.size A n c (ints zs) rfl (hR.alloc (Nat.le_refl _) _) (ints_one zs) (by unfold maxLen; omega) (by omega) (by simp) ?_; intro v2 w2 hown2 hg2 hat2; simp only [Nat.zero_add, List.nil_append] at hown2; have hB2 : Below w.heap.size w w2 := ((Below.refl _ w).alloc (Nat.le_refl _) _).grown hg2 (by simp) (by intro q hq; simp [Value.ownBlock] at hq; omega); obtain ⟨A2, c2, rfl, hc2, hR2⟩ := own_slice hn hown2; clear hown2 hg2 hat2))
  refine (all_any A2 n c2 zs hn (by omega) _ hR2).mono ?_
  rintro en w3 ⟨rfl, hb3⟩
  have hB3 := hB2.trans (hb3.mono hB2.size)
  have hR3 := hR2.below hb3
  have hn2 := hb3.size
  obtain ⟨p, hp⟩ : ∃ p, allS zs = p := ⟨_, rfl⟩
  obtain ⟨e, he⟩ : ∃ e, allE zs = e := ⟨_, rfl⟩
  rw [hp, he]
  have hB3a := hB3.alloc hB3.size (.cells #[.bool p.1, .int .i64 p.2.1, .int .i64 p.2.2] 24)
  have P3 := Blk.new w3 24 #[.bool p.1, .int .i64 p.2.1, .int .i64 p.2.2]
  go_wp2_with fail
  refine (rall_any A n c zs hn (by omega) _ ((hR.below hB3a).more hB3a.size)).mono ?_
  rintro en w4 ⟨rfl, hb4⟩
  rw [hp, he]
  have hz4 := hb4.size
  simp at hz4
  have hB4 := hB3a.trans (hb4.mono hB3a.size)
  have P4 := (P3.below hb4 (by simp)).alloc (.cells #[.bool p.1, .int .i64 p.2.1, .int .i64 p.2.2] 24)
  have N4 := Blk.new w4 24 #[.bool p.1, .int .i64 p.2.1, .int .i64 p.2.2]
  have hR4 := ((hR3.more (B' := w3.heap.size) hn2).below (hb4.mono (by simp) |> fun h => ((Below.refl _ w3).alloc (Nat.le_refl _) _).trans h)).below ((Below.refl w3.heap.size w4).alloc (by omega) (.cells #[.bool p.1, .int .i64 p.2.1, .int .i64 p.2.2] 24))
  have hB5 := hB4.alloc hB4.size (.cells #[.bool p.1, .int .i64 p.2.1, .int .i64 p.2.2] 24)
  have hR5 := hR.below hB5
  generalize hWL : w4.alloc (.cells #[.bool p.1, .int .i64 p.2.1, .int .i64 p.2.2] 24) = WL at *
  have a0 := P4.cell 0
  have a1 := P4.cell 1
  have a2 := P4.cell 2
  have b0 := N4.cell 0
  have b1 := N4.cell 1
  have b2 := N4.cell 2
  simp at a0 a1 a2 b0 b1 b2
  clear hR hR2 hR3 hb3 hb4 hB2 hB3 hB3a hB4 P3 hp he
  go_wp2
  go_loopw [8] (fun i wr => ∃ k m : Nat, k ≤ n ∧ i = .int .i64 k ∧ wr = WL.drewN m) (fun i wr => n - (intOf i).toNat)
  case atStart => exact ⟨0, 0, by omega, rfl, rfl⟩
  case round =>
    obtain ⟨k, m, hk, rfl, rfl⟩ := hrel
    by_cases hlt : k < n
    · obtain ⟨ad, u, rfl, hab, hu, cA⟩ := hR5.at_ (k := k) hlt
      obtain ⟨ad2, u2, rfl, hab2, hu2, cA2⟩ := hR4.at_ (k := k) hlt
      obtain ⟨x, hx⟩ : ∃ x, x = zs[k]'(by omega) := ⟨_, rfl⟩
      have hu' : u = .int .i64 x := by
        rw [List.getElem?_map, List.getElem?_eq_getElem (by omega)] at hu
        simp only [Option.map_some, Option.some.injEq] at hu
        rw [← hu, hx]
      have hu2' : u2 = .int .i64 x := by
        rw [List.getElem?_map, List.getElem?_eq_getElem (by omega)] at hu2
        simp only [Option.map_some, Option.some.injEq] at hu2
        rw [← hu2, hx]
      subst hu' hu2'
      have i1 : (0 : Int) ≤ k := by omega
      have i2 : (k : Int) < n := by omega
      clear hu hu2 hx
      go_wp2_with fail
      go_quiet (fail)
      go_wp2
      go_roundw
      case rel => exact ⟨k + 1, _, by omega, by go_num, rfl⟩
      case measure => simp [intOf]; omega
    · obtain rfl : k = n := by omega
      go_wp2
      go_ret
      exact ⟨by simp, below_drewN hB5 _⟩
theorem walk (A : Option Addr) (n c : Nat) (zs : List Int) (hn : zs.length = n) (hc : n ≤ c) (w : World) (hR : Reads w w.heap.size 1 A n (ints zs)) :
    Calls Try.prog 3 #[.slice A n c] w fun en w' => en = .returned (.bool true) ∧ Below w.heap.size w w' := by
  rcases Nat.lt_or_ge 300 n with h | h
  · exact out A n c h w
  · exact main A n c zs hn hc h w hR
end Go.Proofs.Ytdibchmhigcaaaa.EdgeAll
