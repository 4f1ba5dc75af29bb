/- Frame: the walk of the law FrameMoves. -/
import Derived.Test.YtceggbbichfjnaaAliveW
import Derived.Test.YtceggbbichfjnaaMoves
namespace Go.Proofs.Ytceggbbichfjnaa.FrameMoves
open Go.ChangeShapes Go.WideShapes Go.ChangeAt Go.RowKit
set_option linter.unusedSimpArgs false
set_option linter.unusedVariables false

theorem out1 (A : Option Addr) (n c : Nat) (at_ x y : Int) (h : 4096 < n) (w : World) :
    Calls Try.prog 3 #[.slice A n c, .int .i64 at_, .int .u8 x, .int .u8 y] w fun en w' => en = .returned (.bool true) ∧ Below w.heap.size w w' := by
  have hd : decide ((4096 : Int) < n) = true := by simp; omega
  go_enter Try.func3, Try.ntmps3
  go_wp2_with fail
  refine (alive_any _).mono ?_
  rintro en w1 ⟨rfl, hb1⟩
  go_wp2
  go_ret
  exact ⟨rfl, hb1⟩
theorem out2 (A : Option Addr) (n c : Nat) (at_ x y : Int) (h : n ≤ 4096) (h1 : at_ < 0) (w : World) :
    Calls Try.prog 3 #[.slice A n c, .int .i64 at_, .int .u8 x, .int .u8 y] w fun en w' => en = .returned (.bool true) ∧ Below w.heap.size w w' := by
  have hd : decide ((4096 : Int) < n) = false := by simp; omega
  have hd1 : decide (at_ < 0) = true := by simpa using h1
  go_enter Try.func3, Try.ntmps3
  go_wp2_with fail
  refine (alive_any _).mono ?_
  rintro en w1 ⟨rfl, hb1⟩
  go_wp2
  go_ret
  exact ⟨rfl, hb1⟩
theorem out3 (A : Option Addr) (n c : Nat) (at_ x y : Int) (h : n ≤ 4096) (h0 : 0 ≤ at_) (h1 : n ≤ at_) (w : World) :
    Calls Try.prog 3 #[.slice A n c, .int .i64 at_, .int .u8 x, .int .u8 y] w fun en w' => en = .returned (.bool true) ∧ Below w.heap.size w w' := by
  have hd : decide ((4096 : Int) < n) = false := by simp; omega
  have hd1 : decide (at_ < 0) = false := by simpa using h0
  have hd2 : decide ((n : Int) ≤ at_) = true := by simpa using h1
  go_enter Try.func3, Try.ntmps3
  go_wp2_with fail
  refine (alive_any _).mono ?_
  rintro en w1 ⟨rfl, hb1⟩
  go_wp2
  go_ret
  exact ⟨rfl, hb1⟩
theorem bytes_set (l : List Nat) (i b : Nat) : (bytes l).set i (.int .u8 (b : Int)) = bytes (l.set i b) := by simp [bytes, List.map_set]
theorem bytes_at {l : List Nat} {i : Nat} (h : i < l.length) : (bytes l)[i]? = some (.int .u8 ((l.getD i 0 : Nat) : Int)) := by simp [List.getElem?_eq_getElem h]
set_option maxHeartbeats 8000000 in
theorem good0 (A : Option Addr) (c : Nat) (l : List Nat) (hl : ∀ b ∈ l, b < 256) (n : Nat) (hnl : l.length = n) (hpos : 0 < n) (hm : n ≤ 4096) (x y : Nat) (hx : x < 256) (hy : y < 256) (w : World) (hR : Reads w w.heap.size 1 A n (bytes l)) :
    Calls Try.prog 3 #[.slice A n c, .int .i64 0, .int .u8 (x : Int), .int .u8 (y : Int)] w fun en w' => en = .returned (.bool true) ∧ Below w.heap.size w w' := by
  obtain ⟨i0, hi0, hz0, hz1, hz2⟩ := info_parts info5
  have hd : decide ((4096 : Int) < n) = false := by simp; omega
  have hd2 : decide ((n : Int) ≤ 0) = false := decide_eq_false (by omega)
  have hkl : (0 : Int) < n := by omega
  have hm2 : (n : Int) ≤ 4096 := by omega
  obtain ⟨b0, hb0⟩ : ∃ b, b = l.getD 0 0 := ⟨_, rfl⟩
  have hgd : ∀ i, l.getD i 0 < 256 := fun i => by
    rw [List.getD_eq_getElem?_getD]
    rcases Nat.lt_or_ge i l.length with h | h
    · rw [List.getElem?_eq_getElem h]; exact hl _ (List.getElem_mem h)
    · rw [List.getElem?_eq_none h]; simp
  have hb0' : b0 < 256 := hb0 ▸ hgd 0
  have e0 := u8_xor_nat b0 x hb0' hx
  have hmv := moves (by omega) hl hx hy (k := 0)
  have hml := (moved_len l 0 x y).trans hnl
  have hmt := moved_lt (k := 0) hl hx hy
  have hd4 : ((0 : Int) == 0) = true := rfl
  have hmoved : moved l 0 x y = l.set 0 (b0 ^^^ x) := by unfold moved; rw [if_pos rfl, hb0]
  have HN := Lib.hid hnl
  have HM := Lib.hid hmv
  have HL := Lib.hid hml
  have HT := Lib.hid hmt
  have HD := Lib.hid hmoved
  have HB0 := Lib.hid hb0
  clear hnl hmv hml hmt hmoved
  clear hb0
  have hbx : ((x : Int) == 0) = true ∨ ((x : Int) == 0) = false := by cases h : ((x : Int) == 0) <;> simp
  have hby : ((y : Int) == 0) = true ∨ ((y : Int) == 0) = false := by cases h : ((y : Int) == 0) <;> simp
  rcases hbx with hbx | hbx <;> rcases hby with hby | hby
  all_goals
    have hc : ((crc (moved l 0 x y) : Int) == (crc l : Int)) = (((x : Int) == 0) && (((y : Int) == 0) || ((0 : Int) == 0))) := by
      rw [Bool.eq_iff_iff]
      simp only [beq_iff_eq, Bool.and_eq_true, Bool.or_eq_true, or_true, and_true]
      have := HM.out
      simp only [or_true, and_true] at this
      omega
    rw [hbx, hby, hd4] at hc
    simp only [Bool.and_true, Bool.and_false, Bool.or_true, Bool.or_false, Bool.true_and, Bool.false_and, Bool.true_or, Bool.false_or, Bool.and_self, Bool.or_self] at hc
    go_enter Try.func3, Try.ntmps3
    go_wp2_with fail
    refine (alive_any _).mono ?_
    rintro en w1 ⟨rfl, hb1⟩
    go_wp2_with (at_builtin; refine wpList_append_any _ rfl (.tmp 31) (.tmp 32) _ rfl w.heap.size 5 i0 _ 1 1 Try.underlying22 hi0 hz0 hz1 hz2 rfl (by omega) (.slice (some ⟨w1.heap.size, 0, none⟩) 0 0) 0 [] rfl (owns_new w1 w.heap.size hb1.size [] 5 0 rfl (by unfold maxLen; omega)) w.heap.size A n c (bytes l) rfl ((hR.below hb1).alloc hb1.size _) (bytes_one l) (by unfold maxLen; omega) (by omega) (by have := hb1.size; simp; omega) ?_; intro v2 w2 hown2 hg2 hat2; simp only [Nat.zero_add, List.nil_append] at hown2; obtain ⟨g, cap, rfl, hgb, hgl⟩ := hown2.form hpos; have hBel2 : Below w.heap.size w w2 := (hb1.alloc hb1.size _).grown hg2 (by have := hb1.size; simp; omega) (by intro q hq; simp [Value.ownBlock] at hq; have := hb1.size; omega); have fr := hown2.frozenAt; have ck : w2.cell? ⟨g, 0, none⟩ = some (.int .u8 (b0 : Int)) := (hown2.cellAt 0 (by omega)).trans (by rw [HB0.out]; exact bytes_at (by have := HN.out; omega)))
    refine (sum_n (some ⟨g, 0, none⟩) n cap w2.heap.size (moved l 0 x y) HL.out HT.out (by omega) _ (Reads.more (Reads.of_own (base := w.heap.size) (e := 5) (c := cap) (w := (w2.setCell ⟨g, 0, none⟩ (.int .u8 ((b0 ^^^ x : Nat) : Int)))) (by rw [HD.out, ← bytes_set]; exact (hown2.stored 0 _).1)) (by simp))).mono ?_
    rintro en w3 ⟨rfl, rfl⟩
    go_wp2_with fail
    refine (sum_n A n c w.heap.size l HN.out hl (by omega) _ (hR.below (hBel2.setCell (p := ⟨g, 0, none⟩) hgb _))).mono ?_
    rintro en w3 ⟨rfl, rfl⟩
    go_wp2
    go_ret
    exact ⟨rfl, (hBel2.setCell (p := ⟨g, 0, none⟩) hgb _)⟩
set_option maxHeartbeats 8000000 in
theorem good1 (A : Option Addr) (c : Nat) (l : List Nat) (hl : ∀ b ∈ l, b < 256) (k : Nat) (hk : k < l.length) (hk0 : 0 < k) (hm : l.length ≤ 4096) (x y : Nat) (hx : x < 256) (hy : y < 256) (w : World) (hR : Reads w w.heap.size 1 A l.length (bytes l)) :
    Calls Try.prog 3 #[.slice A l.length c, .int .i64 (k : Int), .int .u8 (x : Int), .int .u8 (y : Int)] w fun en w' => en = .returned (.bool true) ∧ Below w.heap.size w w' := by
  obtain ⟨i0, hi0, hz0, hz1, hz2⟩ := info_parts info5
  have hpos : 0 < l.length := by omega
  have hd : decide ((4096 : Int) < l.length) = false := by simp; omega
  have hd1 : decide ((k : Int) < 0) = false := by simp
  have hd2 : decide ((l.length : Int) ≤ k) = false := by simp; omega
  have hkl : (k : Int) < l.length := by omega
  have hm2 : (l.length : Int) ≤ 4096 := by omega
  obtain ⟨b0, hb0⟩ : ∃ b, b = l.getD k 0 := ⟨_, rfl⟩
  have hgd : ∀ i, l.getD i 0 < 256 := fun i => by
    rw [List.getD_eq_getElem?_getD]
    rcases Nat.lt_or_ge i l.length with h | h
    · rw [List.getElem?_eq_getElem h]; exact hl _ (List.getElem_mem h)
    · rw [List.getElem?_eq_none h]; simp
  have hb0' : b0 < 256 := hb0 ▸ hgd k
  have e0 := u8_xor_nat b0 x hb0' hx
  have hmv := moves hk hl hx hy
  have hml := moved_len l k x y
  have hmt := moved_lt (k := k) hl hx hy
  obtain ⟨b1, hb1'⟩ : ∃ b, b = l.getD (k - 1) 0 := ⟨_, rfl⟩
  have hb1'' : b1 < 256 := hb1' ▸ hgd (k - 1)
  have e1 := u8_xor_nat b1 y hb1'' hy
  have hd3 : decide ((0 : Int) < k) = true := by simp; omega
  have hk1 : (1 : Int) ≤ k := by omega
  have hd4 : ((k : Int) == 0) = false := by simp; omega
  have hmoved : moved l k x y = (l.set k (b0 ^^^ x)).set (k - 1) (b1 ^^^ y) := by unfold moved; rw [if_neg (by omega), hb0, hb1']
  have HM := Lib.hid hmv
  have HL := Lib.hid hml
  have HT := Lib.hid hmt
  have HD := Lib.hid hmoved
  have HB0 := Lib.hid hb0
  clear hmv hml hmt hmoved
  have HB1 := Lib.hid hb1'
  clear hb1'
  clear hb0
  have hbx : ((x : Int) == 0) = true ∨ ((x : Int) == 0) = false := by cases h : ((x : Int) == 0) <;> simp
  have hby : ((y : Int) == 0) = true ∨ ((y : Int) == 0) = false := by cases h : ((y : Int) == 0) <;> simp
  rcases hbx with hbx | hbx <;> rcases hby with hby | hby
  all_goals
    have hc : ((crc (moved l k x y) : Int) == (crc l : Int)) = (((x : Int) == 0) && (((y : Int) == 0) || ((k : Int) == 0))) := by
      rw [Bool.eq_iff_iff]
      simp only [beq_iff_eq, Bool.and_eq_true, Bool.or_eq_true]
      have := HM.out
      omega
    rw [hbx, hby, hd4] at hc
    simp only [Bool.and_true, Bool.and_false, Bool.or_true, Bool.or_false, Bool.true_and, Bool.false_and, Bool.true_or, Bool.false_or, Bool.and_self, Bool.or_self] at hc
    go_enter Try.func3, Try.ntmps3
    go_wp2_with fail
    refine (alive_any _).mono ?_
    rintro en w1 ⟨rfl, hb1⟩
    go_wp2_with (at_builtin; refine wpList_append_any _ rfl (.tmp 31) (.tmp 32) _ rfl w.heap.size 5 i0 _ 1 1 Try.underlying22 hi0 hz0 hz1 hz2 rfl (by omega) (.slice (some ⟨w1.heap.size, 0, none⟩) 0 0) 0 [] rfl (owns_new w1 w.heap.size hb1.size [] 5 0 rfl (by unfold maxLen; omega)) w.heap.size A l.length c (bytes l) rfl ((hR.below hb1).alloc hb1.size _) (bytes_one l) (by unfold maxLen; omega) (by omega) (by have := hb1.size; simp; omega) ?_; intro v2 w2 hown2 hg2 hat2; simp only [Nat.zero_add, List.nil_append] at hown2; obtain ⟨g, cap, rfl, hgb, hgl⟩ := hown2.form hpos; have hBel2 : Below w.heap.size w w2 := (hb1.alloc hb1.size _).grown hg2 (by have := hb1.size; simp; omega) (by intro q hq; simp [Value.ownBlock] at hq; have := hb1.size; omega); have fr := hown2.frozenAt; have ck : w2.cell? ⟨g, k, none⟩ = some (.int .u8 (b0 : Int)) := (hown2.cellAt k (by omega)).trans (by rw [HB0.out]; exact bytes_at hk); have ck1 : ∀ u, (w2.setCell ⟨g, k, none⟩ u).cell? ⟨g, k - 1, none⟩ = some (.int .u8 (b1 : Int)) := fun u => (World.cell?_setCell_other w2 _ _ u (by intro h; simp only [Addr.mk.injEq] at h; omega)).trans ((hown2.cellAt (k - 1) (by omega)).trans (by rw [HB1.out]; exact bytes_at (by omega))))
    refine (sum_n (some ⟨g, 0, none⟩) l.length cap w2.heap.size (moved l k x y) HL.out HT.out (by omega) _ (Reads.more (Reads.of_own (base := w.heap.size) (e := 5) (c := cap) (w := ((w2.setCell ⟨g, k, none⟩ (.int .u8 ((b0 ^^^ x : Nat) : Int))).setCell ⟨g, k - 1, none⟩ (.int .u8 ((b1 ^^^ y : Nat) : Int)))) (by rw [HD.out, ← bytes_set, ← bytes_set]; exact ((hown2.stored k _).1.stored (k - 1) _).1)) (by simp))).mono ?_
    rintro en w3 ⟨rfl, rfl⟩
    go_wp2_with fail
    refine (sum_n A l.length c w.heap.size l rfl hl (by omega) _ (hR.below ((hBel2.setCell (p := ⟨g, k, none⟩) hgb _).setCell (p := ⟨g, k - 1, none⟩) hgb _))).mono ?_
    rintro en w3 ⟨rfl, rfl⟩
    go_wp2
    go_ret
    exact ⟨rfl, ((hBel2.setCell (p := ⟨g, k, none⟩) hgb _).setCell (p := ⟨g, k - 1, none⟩) hgb _)⟩
theorem walk (A : Option Addr) (n c : Nat) (l : List Nat) (hn : l.length = n) (hl : ∀ b ∈ l, b < 256) (at_ : Int) (x y : Nat) (hx : x < 256) (hy : y < 256) (w : World) (hR : Reads w w.heap.size 1 A n (bytes l)) :
    Calls Try.prog 3 #[.slice A n c, .int .i64 at_, .int .u8 (x : Int), .int .u8 (y : Int)] w fun en w' => en = .returned (.bool true) ∧ Below w.heap.size w w' := by
  subst hn
  by_cases h : l.length ≤ 4096
  · by_cases h0 : 0 ≤ at_
    · by_cases h1 : at_ < l.length
      · obtain ⟨k, rfl⟩ := Int.eq_ofNat_of_zero_le h0
        by_cases hk : k = 0
        · subst hk; exact good0 A c l hl _ rfl (by omega) h x y hx hy w hR
        · exact good1 A c l hl k (by omega) (by omega) h x y hx hy w hR
      · exact out3 A _ c at_ x y h h0 (by omega) w
    · exact out2 A _ c at_ x y h (by omega) w
  · exact out1 A _ c at_ x y (by omega) w
end Go.Proofs.Ytceggbbichfjnaa.FrameMoves
