/- Frame: the walk of the law FrameBursts. -/
import Derived.Test.YtceggbbichfjnaaAliveW
import Derived.Test.YtceggbbichfjnaaBackW
import Derived.Test.YtceggbbichfjnaaBurstsP
import Derived.Lib.Hide
import Derived.IntWalk
namespace Go.Proofs.Ytceggbbichfjnaa.FrameBursts
open Go.ChangeShapes Go.WideShapes Go.ChangeAt Go.RowKit
open FrameBack (framed_lt)
set_option linter.unusedSimpArgs false
set_option linter.unusedVariables false
theorem bytes_set (l : List Nat) (i b : Nat) : (bytes l).set i (.int .u8 (b : Int)) = bytes (l.set i b) := by simp [bytes, List.map_set]
theorem put_own (kind : Nat) (hk : kind < 256) (A : Option Addr) (n c : Nat) (l : List Nat) (hn : l.length = n) (hl : ∀ b ∈ l, b < 256) (hm : n ≤ 4096) (w : World) (hR : Reads w w.heap.size 1 A n (bytes l)) :
    Calls Try.prog 10 #[.int .u8 (kind : Int), .slice A n c] w fun en w' => ∃ g cap, en = .returned (.tuple #[.slice (some ⟨g, 0, none⟩) (n + 9) cap, .int .i64 0]) ∧ n + 9 ≤ cap ∧ w'.ownsRow w.heap.size 5 1 (.slice (some ⟨g, 0, none⟩) (n + 9) cap) (n + 9) (bytes (framed kind l)) ∧ w.heap.size ≤ g ∧ g < w'.heap.size ∧ Below w.heap.size w w' := by
  subst hn
  refine (put_ok kind hk A c l hl hm w hR).mono ?_
  rintro en w' ⟨v, rfl, ho, hb⟩
  obtain ⟨g, cap, rfl, h0, h1⟩ := ho.form (by rw [framed_len]; omega)
  have hc := ho.le
  have e : (framed kind l).length = l.length + 9 := by rw [framed_len]; omega
  unfold Owns at ho
  rw [e] at ho hc ⊢
  exact ⟨g, cap, rfl, hc, ho, h0, h1, hb⟩
theorem bytes_at {l : List Nat} {i : Nat} (h : i < l.length) : (bytes l)[i]? = some (.int .u8 ((l.getD i 0 : Nat) : Int)) := by simp [List.getElem?_eq_getElem h]
set_option maxHeartbeats 8000000 in
theorem out1 (kind : Nat) (A : Option Addr) (n c : Nat) (at_ mask : Int) (h : 4096 < n) (h5 : 5000 < n) (w : World) :
    Calls Try.prog 7 #[.int .u8 (kind : Int), .slice A n c, .int .i64 at_, .int .u32 mask] w fun en w' => en = .returned (.bool true) ∧ Below w.heap.size w w' := by
  have d1 : decide ((5000 : Int) < n) = true := by simp; omega
  go_enter Try.func7, Try.ntmps7
  go_wp2_with fail
  refine (alive_any _).mono ?_
  rintro en w1 ⟨rfl, hb1⟩
  go_wp2_with fail
  refine (put_many kind A n c h _).mono ?_
  rintro en w2 ⟨rfl, rfl⟩
  go_wp2
  go_ret
  exact ⟨rfl, hb1⟩
set_option maxHeartbeats 8000000 in
theorem out2 (kind : Nat) (A : Option Addr) (n c : Nat) (at_ mask : Int) (h : 4096 < n) (h5 : n ≤ 5000) (w : World) :
    Calls Try.prog 7 #[.int .u8 (kind : Int), .slice A n c, .int .i64 at_, .int .u32 mask] w fun en w' => en = .returned (.bool true) ∧ Below w.heap.size w w' := by
  have d1 : decide ((5000 : Int) < n) = false := by simp; omega
  go_enter Try.func7, Try.ntmps7
  go_wp2_with fail
  refine (alive_any _).mono ?_
  rintro en w1 ⟨rfl, hb1⟩
  go_wp2_with fail
  refine (put_many kind A n c h _).mono ?_
  rintro en w2 ⟨rfl, rfl⟩
  go_wp2
  go_ret
  exact ⟨rfl, hb1⟩
set_option maxHeartbeats 8000000 in
theorem out3 (kind : Nat) (hk : kind < 256) (A : Option Addr) (n c : Nat) (l : List Nat) (hn : l.length = n) (hl : ∀ b ∈ l, b < 256) (h : n ≤ 4096) (at_ mask : Int) (h1 : at_ < 0) (w : World) (hR : Reads w w.heap.size 1 A n (bytes l)) :
    Calls Try.prog 7 #[.int .u8 (kind : Int), .slice A n c, .int .i64 at_, .int .u32 mask] w fun en w' => en = .returned (.bool true) ∧ Below w.heap.size w w' := by
  have d1 : decide ((5000 : Int) < n) = false := by simp; omega
  have d2 : decide (at_ < 0) = true := by simpa using h1
  go_enter Try.func7, Try.ntmps7
  go_wp2_with fail
  refine (alive_any _).mono ?_
  rintro en w1 ⟨rfl, hb1⟩
  go_wp2_with fail
  refine (put_own kind hk A n c l hn hl h _ ((hR.below hb1).more hb1.size)).mono ?_
  rintro en w2 ⟨g, cap, rfl, hcap, hown, hg0, hg1, hb2⟩
  have hB2 := hb1.trans (hb2.mono hb1.size)
  have hfl : (framed kind l).length = n + 9 := by rw [framed_len]; omega
  clear hb2 hR
  clear hown hfl hn hl
  go_wp2
  go_ret
  exact ⟨rfl, hB2⟩
set_option maxHeartbeats 8000000 in
theorem out4 (kind : Nat) (hk : kind < 256) (A : Option Addr) (n c : Nat) (l : List Nat) (hn : l.length = n) (hl : ∀ b ∈ l, b < 256) (h : n ≤ 4096) (at_ mask : Int) (h1 : 0 ≤ at_) (h2 : 8 * ((n : Int) + 9) ≤ at_) (w : World) (hR : Reads w w.heap.size 1 A n (bytes l)) :
    Calls Try.prog 7 #[.int .u8 (kind : Int), .slice A n c, .int .i64 at_, .int .u32 mask] w fun en w' => en = .returned (.bool true) ∧ Below w.heap.size w w' := by
  have d1 : decide ((5000 : Int) < n) = false := by simp; omega
  have d2 : decide (at_ < 0) = false := by simpa using h1
  have d3 : IntKind.i64.wrap (8 * ((n : Int) + 9)) = 8 * ((n : Int) + 9) := IntWalk.i64_in _ (by omega)
  have d4 : decide (8 * ((n : Int) + 9) ≤ at_) = true := by simpa using h2
  go_enter Try.func7, Try.ntmps7
  go_wp2_with fail
  refine (alive_any _).mono ?_
  rintro en w1 ⟨rfl, hb1⟩
  go_wp2_with fail
  refine (put_own kind hk A n c l hn hl h _ ((hR.below hb1).more hb1.size)).mono ?_
  rintro en w2 ⟨g, cap, rfl, hcap, hown, hg0, hg1, hb2⟩
  have hB2 := hb1.trans (hb2.mono hb1.size)
  have hfl : (framed kind l).length = n + 9 := by rw [framed_len]; omega
  clear hb2 hR
  clear hown hfl hn hl
  go_wp2
  go_ret
  exact ⟨rfl, hB2⟩
set_option maxHeartbeats 8000000 in
set_option maxRecDepth 100000 in
theorem main (kind : Nat) (hk : kind < 256) (A : Option Addr) (n c : Nat) (l : List Nat) (hn : l.length = n) (hl : ∀ b ∈ l, b < 256) (h : n ≤ 4096) (k mask : Nat) (hmk : mask < 4294967296) (h2 : k < 8 * (n + 9)) (w : World) (hR : Reads w w.heap.size 1 A n (bytes l)) :
    Calls Try.prog 7 #[.int .u8 (kind : Int), .slice A n c, .int .i64 (k : Int), .int .u32 (mask : Int)] w fun en w' => en = .returned (.bool true) ∧ Below w.heap.size w w' := by
  have d1 : decide ((5000 : Int) < n) = false := by simp; omega
  have d2 : decide ((k : Int) < 0) = false := by simp
  have d3 : IntKind.i64.wrap (8 * ((n : Int) + 9)) = 8 * ((n : Int) + 9) := IntWalk.i64_in _ (by omega)
  have d4 : decide (8 * ((n : Int) + 9) ≤ k) = false := by simp; omega
  have d5 : IntKind.i64.wrap (8 * ((n : Int) + 9) - k) = 8 * ((n : Int) + 9) - k := IntWalk.i64_in _ (by omega)
  have hfl0 := framed_lt (kind := kind) hk (by omega) hl
  have hok := framed_ok (kind := kind) (l := l) (by omega)
  go_enter Try.func7, Try.ntmps7
  go_wp2_with fail
  refine (alive_any _).mono ?_
  rintro en w1 ⟨rfl, hb1⟩
  go_wp2_with fail
  refine (put_own kind hk A n c l hn hl h _ ((hR.below hb1).more hb1.size)).mono ?_
  rintro en w2 ⟨g, cap, rfl, hcap, hown, hg0, hg1, hb2⟩
  have hB2 := hb1.trans (hb2.mono hb1.size)
  have hfl : (framed kind l).length = n + 9 := by rw [framed_len]; omega
  clear hb2 hR
  obtain ⟨F, hF⟩ : ∃ F, framed kind l = F := ⟨_, rfl⟩
  rw [hF] at hfl0 hok hfl hown
  clear hF hn hl
  go_wp2
  go_loopw [12, 13] (fun t i wr => ∃ (j : Nat) (cur : List Nat), j ≤ 32 ∧ j ≤ 8 * (n + 9) - k ∧ i = .int .i64 j ∧ t = .bool (decide (mask % 2 ^ j ≠ 0)) ∧ wr.ownsRow w1.heap.size 5 1 (.slice (some ⟨g, 0, none⟩) (n + 9) cap) (n + 9) (bytes cur) ∧ cur.length = n + 9 ∧ (∀ b ∈ cur, b < 256) ∧ val cur = val F ^^^ ((mask % 2 ^ j) * 2 ^ k) ∧ Below w.heap.size w wr) (fun _ i _ => 32 - (intOf i).toNat)
  case atStart => exact ⟨0, F, by omega, by omega, rfl, by simp [Nat.mod_one], hown, hfl, hfl0, by simp [Nat.mod_one], hB2⟩
  case round =>
    obtain ⟨j, cur, hj, hj2, rfl, rfl, how, hcl, hcb, hcv, hBr⟩ := hrel
    by_cases hlt : j < 32 ∧ j < 8 * (n + 9) - k
    · have x1 : decide ((j : Int) < 32) = true := by simp; omega
      have x2 : decide ((j : Int) < 8 * ((n : Int) + 9) - k) = true := by simp; omega
      have hmn : ((mask : Int) / 2 ^ j) = ((mask / 2 ^ j : Nat) : Int) := by simp
      by_cases hbit : mask / 2 ^ j % 2 = 1
      · have x3 : ((((mask : Int) / 2 ^ j).tmod 2) == 1) = true := by
          have hbq := hbit
          generalize mask / 2 ^ j = q at hmn hbq
          rw [hmn, Int.tmod_eq_emod_of_nonneg (Int.natCast_nonneg _)]
          simp
          omega
        have hq : (k + j) / 8 < cur.length := by omega
        obtain ⟨b0, hb0⟩ : ∃ b, b = cur.getD ((k + j) / 8) 0 := ⟨_, rfl⟩
        have hb0' : b0 < 256 := by rw [hb0, List.getD_eq_getElem?_getD, List.getElem?_eq_getElem hq]; exact hcb _ (List.getElem_mem _)
        have ck : wr.cell? ⟨g, (k + j) / 8, none⟩ = some (.int .u8 (b0 : Int)) := (how.cellAt ((k + j) / 8) (by omega)).trans (by rw [hb0]; exact bytes_at hq)
        have fk := how.frozenAt
        have x5 : (0 : Int) ≤ ((k : Int) + j) / 8 := by omega
        have x6 : ((k : Int) + j) / 8 < (n : Int) + 9 := by omega
        have hp : 2 ^ ((k + j) % 8) < 256 := Nat.pow_lt_pow_right (by omega) (Nat.mod_lt (k + j) (show 8 > 0 by omega))
        have x7 : bits .xor .u8 (b0 : Int) ((2 : Int) ^ ((k + j) % 8) % 256) = ((b0 ^^^ 2 ^ ((k + j) % 8) : Nat) : Int) := by
          have e : ((2 : Int) ^ ((k + j) % 8) % 256) = ((2 ^ ((k + j) % 8) : Nat) : Int) := by
            have e2 : ((2 ^ ((k + j) % 8) : Nat) : Int) = (2 : Int) ^ ((k + j) % 8) := by simp
            rw [← e2]
            exact Int.emod_eq_of_lt (Int.natCast_nonneg _) (by exact_mod_cast hp)
          rw [e]
          exact u8_xor_nat b0 _ hb0' hp
        have hval := val_flip (r := (k + j) % 8) hq (Nat.mod_lt _ (by omega)) hcb
        rw [← hb0, hcv, Nat.div_add_mod, Nat.xor_assoc, ← mask_more mask j k hbit] at hval
        have hflt := flip_lt hb0' (Nat.mod_lt (k + j) (show 8 > 0 by omega))
        have hset := mask_set mask j hbit
        have hst := (how.stored ((k + j) / 8) (.int .u8 ((b0 ^^^ 2 ^ ((k + j) % 8) : Nat) : Int))).1
        rw [bytes_set] at hst
        have hgw : w.heap.size ≤ g := by have := hb1.size; omega
        have HV := Lib.hid hval
        have HST := Lib.hid hset
        clear hmn hb0 hval hset hp hcv
        go_wp2
        go_roundw
        case rel => exact ⟨j + 1, cur.set ((k + j) / 8) (b0 ^^^ 2 ^ ((k + j) % 8)), by omega, by omega, by go_num, by rw [decide_eq_true HST.out], by first | exact hst | (rw [x7]; exact hst), by rw [List.length_set]; exact hcl, fun y hy => by
          rcases List.mem_or_eq_of_mem_set hy with h | h
          · exact hcb y h
          · rw [h]; exact hflt, HV.out, hBr.setCell (p := ⟨g, (k + j) / 8, none⟩) hgw _⟩
        case measure => simp [intOf]; omega
      · have x3 : ((((mask : Int) / 2 ^ j).tmod 2) == 1) = false := by
          have hbq := hbit
          generalize mask / 2 ^ j = q at hmn hbq
          rw [hmn, Int.tmod_eq_emod_of_nonneg (Int.natCast_nonneg _)]
          simp
          omega
        clear hmn
        have hsame := mask_same mask j hbit
        go_wp2
        go_roundw
        case rel => exact ⟨j + 1, cur, by omega, by omega, by go_num, by rw [hsame], how, hcl, hcb, by rw [hsame]; exact hcv, hBr⟩
        case measure => simp [intOf]; omega
    · obtain ⟨hlen, hfin⟩ : (mask % 2 ^ j < 4294967296) ∧ (j = 32 ∨ (j < 32 ∧ j = 8 * (n + 9) - k)) := ⟨Nat.lt_of_le_of_lt (Nat.mod_le _ _) hmk, by omega⟩
      have hRc : Reads wr wr.heap.size 1 (some ⟨g, 0, none⟩) (n + 9) (bytes cur) := Reads.of_own how
      have hb9 : 9 ≤ n + 9 := by omega
      by_cases hz : mask % 2 ^ j = 0
      · have hcF : cur = F := val_inj (by omega) hcb hfl0 (by rw [hcv, hz, Nat.zero_mul, Nat.xor_zero])
        rw [hcF] at hRc
        have hdz : decide (mask % 2 ^ j ≠ 0) = false := decide_eq_false (fun h => h hz)
        rw [hdz]
        clear hdz hz hcv how hcb hcl hlen
        rcases hfin with rfl | ⟨h32, rfl⟩
        · go_wp2_with fail
          refine (take_any (some ⟨g, 0, none⟩) (n + 9) cap F hfl (by omega) hcap hfl0 _ hRc).mono ?_
          rintro en w4 ⟨⟨e, he, he', rfl, hno⟩ | ⟨hOk', gc, cc, rfl, hcc, hRc'⟩, hb4⟩
          · exact absurd hok hno
          have hB4 := hBr.trans (hb4.mono hBr.size)
          clear hb4 hRc' hRc
          go_wp2
          go_ret
          exact ⟨rfl, hB4⟩
        · have x1 : decide (((8 * (n + 9) - k : Nat) : Int) < 32) = true := by simp; omega
          have x2 : decide (((8 * (n + 9) - k : Nat) : Int) < 8 * ((n : Int) + 9) - k) = false := by simp; omega
          generalize 8 * (n + 9) - k = j at *
          go_wp2_with fail
          refine (take_any (some ⟨g, 0, none⟩) (n + 9) cap F hfl (by omega) hcap hfl0 _ hRc).mono ?_
          rintro en w4 ⟨⟨e, he, he', rfl, hno⟩ | ⟨hOk', gc, cc, rfl, hcc, hRc'⟩, hb4⟩
          · exact absurd hok hno
          have hB4 := hBr.trans (hb4.mono hBr.size)
          clear hb4 hRc' hRc
          go_wp2
          go_ret
          exact ⟨rfl, hB4⟩
      · have hns : cur.drop (n + 9 - 4) ≠ told (crc (cur.take (n + 9 - 4))) := fun hs => hz (burst (l := F) (m := cur) (at_ := k) (by omega) hfl0 hcb (by omega) hok.2.1 (by unfold SumOK; rw [hcl]; exact hs) hlen (by omega) hcv)
        have hdz : decide (mask % 2 ^ j ≠ 0) = true := decide_eq_true hz
        rw [hdz]
        clear hdz hz hcv how hlen
        rcases hfin with rfl | ⟨h32, rfl⟩
        · go_wp2_with fail
          refine (take_sum ⟨g, 0, none⟩ (n + 9) cap cur hcl hb9 (by omega) hcap hcb _ hRc hns).mono ?_
          rintro en w4 ⟨rfl, hb4⟩
          have hB4 := hBr.trans (hb4.mono hBr.size)
          clear hb4 hRc hns
          go_wp2
          go_ret
          exact ⟨rfl, hB4⟩
        · have x1 : decide (((8 * (n + 9) - k : Nat) : Int) < 32) = true := by simp; omega
          have x2 : decide (((8 * (n + 9) - k : Nat) : Int) < 8 * ((n : Int) + 9) - k) = false := by simp; omega
          generalize 8 * (n + 9) - k = j at *
          go_wp2_with fail
          refine (take_sum ⟨g, 0, none⟩ (n + 9) cap cur hcl hb9 (by omega) hcap hcb _ hRc hns).mono ?_
          rintro en w4 ⟨rfl, hb4⟩
          have hB4 := hBr.trans (hb4.mono hBr.size)
          clear hb4 hRc hns
          go_wp2
          go_ret
          exact ⟨rfl, hB4⟩
theorem walk (kind : Nat) (hk : kind < 256) (A : Option Addr) (n c : Nat) (l : List Nat) (hn : l.length = n) (hl : ∀ b ∈ l, b < 256) (at_ : Int) (mask : Nat) (hmk : mask < 4294967296) (w : World) (hR : Reads w w.heap.size 1 A n (bytes l)) :
    Calls Try.prog 7 #[.int .u8 (kind : Int), .slice A n c, .int .i64 at_, .int .u32 (mask : Int)] w fun en w' => en = .returned (.bool true) ∧ Below w.heap.size w w' := by
  rcases Nat.lt_or_ge 4096 n with h | h
  · rcases Nat.lt_or_ge 5000 n with h5 | h5
    · exact out1 kind A n c at_ mask h h5 w
    · exact out2 kind A n c at_ mask h h5 w
  · by_cases h1 : at_ < 0
    · exact out3 kind hk A n c l hn hl h at_ mask h1 w hR
    · by_cases h2 : 8 * ((n : Int) + 9) ≤ at_
      · exact out4 kind hk A n c l hn hl h at_ mask (by omega) h2 w hR
      · obtain ⟨k, rfl⟩ : ∃ k : Nat, at_ = k := ⟨at_.toNat, by omega⟩
        exact main kind hk A n c l hn hl h k mask hmk (by omega) w hR
end Go.Proofs.Ytceggbbichfjnaa.FrameBursts
