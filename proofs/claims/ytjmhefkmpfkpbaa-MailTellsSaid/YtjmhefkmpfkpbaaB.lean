/- Field: the digits of a number, of lists; the program's put. -/
import Derived.Test.YtjmhefkmpfkpbaaA
import Derived.Test.YtjmhefkmpfkpbaaKA
import Derived.OwnWalk
namespace Go.Proofs.Ytjmhefkmpfkpbaa
open Go.ChangeShapes Go.WideShapes Go.ChangeAt Go.RowKit
set_option linter.unusedSimpArgs false
set_option linter.unusedVariables false
/-- The s digits of n in base 256, the highest first. -/
def digs : Nat → Nat → List Int
  | _, 0 => []
  | n, s + 1 => digs (n / 256) s ++ [((n % 256 : Nat) : Int)]
theorem digs_len (s : Nat) : ∀ n, (digs n s).length = s := by
  induction s with
  | zero => intro n; rfl
  | succ s ih => intro n; simp [digs, ih]
theorem digs_next (n j s : Nat) (h : j < s) : digs (n / 256 ^ (j + 1)) (s - (j + 1)) ++ [((n / 256 ^ j % 256 : Nat) : Int)] = digs (n / 256 ^ j) (s - j) := by
  rw [show s - j = (s - (j + 1)) + 1 by omega, digs, Nat.div_div_eq_div_mul, Nat.pow_succ]
/-- Numbers, and how many bytes they have: all their digits. -/
def flat : List (Nat × Nat) → List Int
  | [] => []
  | p :: r => digs p.1 p.2 ++ flat r
def total : List (Nat × Nat) → Nat
  | [] => 0
  | p :: r => p.2 + total r
theorem flat_len : ∀ ps, (flat ps).length = total ps
  | [] => rfl
  | p :: r => by rw [flat, total, List.length_append, digs_len, flat_len r]
theorem flat_app : ∀ ps qs, flat (ps ++ qs) = flat ps ++ flat qs
  | [], qs => rfl
  | p :: r, qs => by rw [List.cons_append, flat, flat_app r, flat, List.append_assoc]
theorem total_app : ∀ ps qs, total (ps ++ qs) = total ps + total qs
  | [], qs => by simp [total]
  | p :: r, qs => by rw [List.cons_append, total, total_app r, total, Nat.add_assoc]
def partCells : List (Nat × Nat) → List Value
  | [] => []
  | p :: r => .int .u64 p.1 :: .int .i64 p.2 :: partCells r
theorem parts_app : ∀ ps qs, partCells (ps ++ qs) = partCells ps ++ partCells qs
  | [], qs => rfl
  | p :: r, qs => by simp [partCells, parts_app r]
theorem parts_at : ∀ (ps : List (Nat × Nat)) (k : Nat) (p : Nat × Nat), ps[k]? = some p → (partCells ps)[k * 2]? = some (.int .u64 p.1) ∧ (partCells ps)[k * 2 + 1]? = some (.int .i64 p.2)
  | [], k, p, h => by simp at h
  | q :: r, 0, p, h => by simp at h; subst h; simp [partCells]
  | q :: r, k + 1, p, h => by
    have := parts_at r k p (by simpa using h)
    rw [partCells, show (k + 1) * 2 = k * 2 + 2 by omega, show k * 2 + 2 + 1 = (k * 2 + 1) + 2 by omega]
    simpa using this
theorem reads_part {w : World} {B m : Nat} {A : Option Addr} {ps : List (Nat × Nat)} (hn : ps.length = m) (hR : Reads w B 2 A m (partCells ps)) {k : Nat} (hk : k < m) : ∃ ad p, A = some ad ∧ ps[k]? = some p ∧ w.cell? (ad.add (k * 2)) = some (.int .u64 p.1) ∧ w.cell? ⟨(ad.add (k * 2)).block, (ad.add (k * 2)).off + 1, none⟩ = some (.int .i64 p.2) := by
  obtain ⟨ad, e, _, hc⟩ := hR.2 (by omega)
  have hp : ps[k]? = some ps[k] := List.getElem?_eq_getElem (by omega)
  have := parts_at ps k _ hp
  exact ⟨ad, _, e, hp, hc _ _ this.1, by rw [show (⟨(ad.add (k * 2)).block, (ad.add (k * 2)).off + 1, none⟩ : Addr) = (ad.add (k * 2)).add 1 from rfl, add_of_add]; exact hc _ _ this.2⟩
theorem total_take {ps : List (Nat × Nat)} {k : Nat} {p : Nat × Nat} (h : ps[k]? = some p) : total (ps.take (k + 1)) = total (ps.take k) + p.2 := by
  have hk : k < ps.length := by
    rcases Nat.lt_or_ge k ps.length with h1 | h1
    · exact h1
    · rw [List.getElem?_eq_none h1] at h; cases h
  rw [List.take_succ_eq_append_getElem hk, total_app]
  rw [List.getElem?_eq_getElem hk] at h
  injection h with h
  rw [h]
  simp [total]
theorem total_le {ps : List (Nat × Nat)} (h8 : ∀ p ∈ ps, p.2 ≤ 8) : total ps ≤ 8 * ps.length := by
  induction ps with
  | nil => simp [total]
  | cons p r ih =>
    have h1 := h8 p (by simp)
    have h2 := ih (fun q hq => h8 q (by simp [hq]))
    simp only [total, List.length_cons]
    omega
set_option maxRecDepth 100000 in
set_option maxHeartbeats 4000000 in
theorem put_many (A : Option Addr) (n c : Nat) (l : List Int) (hn : l.length = n) (hm : n ≤ 10000) (P : Option Addr) (m pc : Nat) (ps : List (Nat × Nat)) (hpl : ps.length = m) (hm2 : m ≤ 100) (h8 : ∀ p ∈ ps, p.2 ≤ 8) (h64 : ∀ p ∈ ps, p.1 < 18446744073709551616) (w : World) (hR : Reads w w.heap.size 1 A n (u8s l)) (hP : Reads w w.heap.size 2 P m (partCells ps)) (hq : 3900 < n + total ps) :
    Calls Try.prog 99 #[.slice A n c, .slice P m pc] w fun en w' => en = .returned (.tuple #[.slice none 0 0, .int .i64 4]) ∧ Below w.heap.size w w' := by
  go_enter Try.func99, Try.ntmps99
  go_wp2
  go_loopw [6, 17] (fun s i wr => ∃ k : Nat, k ≤ m ∧ i = .int .i64 k ∧ s = .int .i64 ((n + total (ps.take k) : Nat) : Int) ∧ Below w.heap.size w wr) (fun _ i _ => m - (intOf i).toNat)
  case atStart => exact ⟨0, by omega, rfl, rfl, Below.refl _ _⟩
  case round =>
    obtain ⟨k, hk, rfl, rfl, hB⟩ := hrel
    by_cases hlt : k < m
    · obtain ⟨ad, p, hA, hp, c1, c2⟩ := reads_part hpl (hP.below hB) hlt
      subst hA
      have ht := Lib.hid (total_take hp)
      have htl := total_le (ps := ps.take k) (fun q hq => h8 q (List.mem_of_mem_take hq))
      have hp8 : p.2 ≤ 8 := h8 p (List.mem_of_getElem? hp)
      rw [List.length_take] at htl
      obtain ⟨T, hT⟩ : ∃ T, total (ps.take k) = T := ⟨_, rfl⟩
      rw [hT] at ht htl
      rw [hT]
      have i1 : (0 : Int) ≤ k := by omega
      have i2 : (k : Int) < m := by omega
      have hB' := hB.alloc hB.size (.cells #[.int .u64 p.1, .int .i64 p.2] 146)
      clear hp h8 hR hP hT hB
      obtain ⟨x, s⟩ := p
      go_wp2
      go_roundw
      case rel => exact ⟨k + 1, by omega, by go_num, by rw [ht.out]; go_num, hB'⟩
      case measure => simp [intOf]; omega
    · obtain rfl : k = m := by omega
      rw [List.take_of_length_le (by omega)]
      have htl := total_le (ps := ps) h8
      have d : decide ((3900 : Int) < (n : Int) + (total ps : Int)) = true := decide_eq_true (by omega)
      obtain ⟨T, hT⟩ : ∃ T, total ps = T := ⟨_, rfl⟩
      rw [hT] at d
      rw [hT]
      clear hR hP h8 hT hq htl
      go_wp2
      go_ret2
      exact ⟨rfl, hB⟩
theorem info5 : (Try.prog.info? 5).map (fun i => (i.zero, i.size, i.bytes)) = some (some (.int .u8 0), 1, 1) := by kernel_rfl
theorem u8s_snoc (l : List Int) (x : Int) : u8s l ++ [.int .u8 x] = u8s (l ++ [x]) := by simp [u8s]
theorem u8s_one (l : List Int) : ∀ u ∈ u8s l, u.oneCell' = true := by
  intro u hu
  simp only [List.mem_map] at hu
  obtain ⟨x, _, rfl⟩ := hu
  rfl
theorem flat_take {ps : List (Nat × Nat)} {k : Nat} {p : Nat × Nat} (h : ps[k]? = some p) : flat (ps.take (k + 1)) = flat (ps.take k) ++ digs p.1 p.2 := by
  have hk : k < ps.length := by
    rcases Nat.lt_or_ge k ps.length with h1 | h1
    · exact h1
    · rw [List.getElem?_eq_none h1] at h; cases h
  rw [List.take_succ_eq_append_getElem hk, flat_app]
  rw [List.getElem?_eq_getElem hk] at h
  injection h with h
  rw [h]
  simp [flat]
set_option maxRecDepth 100000 in
set_option maxHeartbeats 4000000 in
theorem put_ok (A : Option Addr) (n c : Nat) (l : List Int) (hn : l.length = n) (hm : n ≤ 10000) (P : Option Addr) (m pc : Nat) (ps : List (Nat × Nat)) (hpl : ps.length = m) (hm2 : m ≤ 100) (h8 : ∀ p ∈ ps, p.2 ≤ 8) (h64 : ∀ p ∈ ps, p.1 < 18446744073709551616) (w : World) (hR : Reads w w.heap.size 1 A n (u8s l)) (hP : Reads w w.heap.size 2 P m (partCells ps)) (hq : n + total ps ≤ 3900) :
    Calls Try.prog 99 #[.slice A n c, .slice P m pc] w fun en w' => ∃ v, en = .returned (.tuple #[v, .int .i64 0]) ∧ w'.ownsRow w.heap.size 5 1 v (n + total ps) (u8s (l ++ flat ps)) ∧ Below w.heap.size w w' := by
  obtain ⟨i0, hi0, hz0, hz1, hz2⟩ := info_parts info5
  go_enter Try.func99, Try.ntmps99
  go_wp2
  go_loopw [6, 17] (fun s i wr => ∃ k : Nat, k ≤ m ∧ i = .int .i64 k ∧ s = .int .i64 ((n + total (ps.take k) : Nat) : Int) ∧ Below w.heap.size w wr) (fun _ i _ => m - (intOf i).toNat)
  case atStart => exact ⟨0, by omega, rfl, rfl, Below.refl _ _⟩
  case round =>
    obtain ⟨k, hk, rfl, rfl, hB⟩ := hrel
    by_cases hlt : k < m
    · obtain ⟨ad, p, hA, hp, c1, c2⟩ := reads_part hpl (hP.below hB) hlt
      subst hA
      have ht := Lib.hid (total_take hp)
      have htl := total_le (ps := ps.take k) (fun q hq => h8 q (List.mem_of_mem_take hq))
      have hp8 : p.2 ≤ 8 := h8 p (List.mem_of_getElem? hp)
      rw [List.length_take] at htl
      obtain ⟨T, hT⟩ : ∃ T, total (ps.take k) = T := ⟨_, rfl⟩
      rw [hT] at ht htl
      rw [hT]
      have i1 : (0 : Int) ≤ k := by omega
      have i2 : (k : Int) < m := by omega
      have hB' := hB.alloc hB.size (.cells #[.int .u64 p.1, .int .i64 p.2] 146)
      clear hp h8 hR hP hT hB
      obtain ⟨x, s⟩ := p
      go_wp2
      go_roundw
      case rel => exact ⟨k + 1, by omega, by go_num, by rw [ht.out]; go_num, hB'⟩
      case measure => simp [intOf]; omega
    · obtain rfl : k = m := by omega
      rw [List.take_of_length_le (by omega)]
      have htl := total_le (ps := ps) h8
      have d : decide ((3900 : Int) < (n : Int) + (total ps : Int)) = false := decide_eq_false (by omega)
      have hR1 := hR.below hB
      have hP1 := hP.below hB
      have hW := hB
      have hu8 := u8s_one l
      obtain ⟨T, hT⟩ : ∃ T, total ps = T := ⟨_, rfl⟩
      rw [hT] at d hq
      rw [hT]
      have HT := Lib.hid hT
      have HP := Lib.hid hP
      have HL := Lib.hid hpl
      have HN := Lib.hid hn
      clear hR hP hP1 hT htl hB hpl hn
      go_wp2_with (first
        | (at_make; refine wpList_make_own _ rfl _ _ 34 rfl w.heap.size 5 i0 _ 1 Try.underlying34 hi0 hz0 hz1 .i64 .i64 _ (n + T) rfl rfl (by first | rfl | (simp; done) | (simp; omega) | omega) (by rw [hz2]; omega) (by unfold maxLen; omega) hW.size ?_; intro w0 ho0 hg0; have hB0 : Below w.heap.size w w0 := hW.grown hg0 hW.size (by intro k hk; cases hk))
        | (at_builtin; refine wpList_append_any _ rfl (.tmp 29) (.tmp 30) _ rfl w.heap.size 5 i0 _ 1 1 Try.underlying34 hi0 hz0 hz1 hz2 rfl (by omega) (.slice (some ⟨wr.heap.size, 0, none⟩) 0 (n + T)) 0 [] rfl ho0 w.heap.size A n c (u8s l) rfl (hR1.grown hg0 hW.size (by intro k hk; cases hk)) hu8 (by unfold maxLen; omega) (by omega) hB0.size ?_; intro v1 w1 ho1 hg1 _; have hB1 : Below w.heap.size w w1 := hB0.grown hg1 hB0.size (by intro k hk; exact own_base ho0 hk); simp only [Nat.zero_add, List.nil_append] at ho1))
      clear hR1 hu8 d hW hB0 ho0 hg0 hg1
      go_loopw [9, 34] (fun o i wr2 => ∃ (q r : Nat) (Ao : Option Addr) (co : Nat), q ≤ k ∧ i = .int .i64 q ∧ o = .slice Ao r co ∧ r = n + total (ps.take q) ∧ wr2.ownsRow w.heap.size 5 1 (.slice Ao r co) r (u8s (l ++ flat (ps.take q))) ∧ Below w.heap.size w wr2) (fun _ i _ => k - (intOf i).toNat)
      case atStart =>
        obtain ⟨A1, c1, rfl, _, _⟩ := own_slice ho1
        exact ⟨0, n, A1, c1, by omega, rfl, rfl, rfl, by simpa [flat] using ho1, hB1⟩
      case round =>
        clear hB1 ho1
        obtain ⟨q, r, Ao, co, hq1, rfl, rfl, hr, ho, hB⟩ := hrel
        generalize hWW : wr = W2 at *
        clear hWW
        by_cases hlt : q < k
        · obtain ⟨ad, p, hA, hp, c1, c2⟩ := reads_part HL.out (HP.out.below hB) hlt
          subst hA
          have ht := Lib.hid (total_take hp)
          have hf := Lib.hid (flat_take hp)
          have htl := total_le (ps := ps.take q) (fun q hq => h8 q (List.mem_of_mem_take hq))
          have hp8 : p.2 ≤ 8 := h8 p (List.mem_of_getElem? hp)
          have hx8 : p.1 < 18446744073709551616 := h64 p (List.mem_of_getElem? hp)
          rw [List.length_take] at htl
          have hr1 : r ≤ 11000 := by omega
          replace hr := Lib.hid hr
          have i1 : (0 : Int) ≤ q := by omega
          have i2 : (q : Int) < k := by omega
          obtain ⟨F, hF⟩ : ∃ F, l ++ flat (ps.take q) = F := ⟨_, rfl⟩
          rw [hF] at ho
          have HF := Lib.hid hF
          have hBk := Blk.new W2 146 #[.int .u64 p.1, .int .i64 p.2]
          have hne : ∀ g, (Value.slice Ao r co).ownBlock = some g → g < W2.heap.size := fun g hg => own_lt ho hg
          have hB' := hB.alloc hB.size (.cells #[.int .u64 p.1, .int .i64 p.2] 146)
          have ho' := ho.alloc (.cells #[.int .u64 p.1, .int .i64 p.2] 146)
          obtain ⟨x, s⟩ := p
          clear hp h8 hF hB ho h64
          have hs1 : IntKind.i64.wrap ((s : Int) - 1) = (s : Int) - 1 := IntWalk.i64_in _ (by omega)
          go_wp2
          go_loopw [9, 12] (fun o i wr => ∃ (j r2 : Nat) (z : Int) (Ai : Option Addr) (ci : Nat), j ≤ s ∧ z = (j : Int) - 1 ∧ i = .int .i64 z ∧ o = .slice Ai r2 ci ∧ r2 = r + (s - j) ∧ wr.ownsRow w.heap.size 5 1 (.slice Ai r2 ci) r2 (u8s (F ++ digs (x / 256 ^ j) (s - j))) ∧ Blk wr W2.heap.size 146 #[.int .u64 x, .int .i64 s] ∧ (Value.slice Ai r2 ci).ownBlock ≠ some W2.heap.size ∧ Below w.heap.size w wr) (fun _ i _ => (intOf i + 1).toNat)
          case atStart => exact ⟨s, r, _, Ao, co, Nat.le_refl _, rfl, rfl, rfl, by omega, by simpa [digs] using ho', hBk, fun h => by have := hne _ h; omega, hB'⟩
          case round =>
            clear hBk hB' ho' hne c1 c2
            obtain ⟨j, r2, z, Ai, ci, hj, hz, rfl, rfl, hr2, ho, hBk, hne, hB⟩ := hrel
            rcases Nat.eq_zero_or_pos j with h0 | h0
            · subst h0
              obtain rfl : z = -1 := by omega
              have hr3 : r2 = n + total (ps.take (q + 1)) := by rw [hr2, hr.out, ht.out]; omega
              have ho2 : wr.ownsRow w.heap.size 5 1 (.slice Ai r2 ci) r2 (u8s (l ++ flat (ps.take (q + 1)))) := by
                rw [hf.out, ← List.append_assoc, HF.out]
                simpa using ho
              replace hr3 := Lib.hid hr3
              clear ho hBk hne hz hr2
              go_wp2
              go_roundw
              case rel => exact ⟨q + 1, r2, Ai, ci, by omega, by go_num, rfl, hr3.out, ho2, hB⟩
              case measure => simp [intOf]; omega
            · obtain ⟨jj, rfl⟩ : ∃ jj, j = jj + 1 := ⟨j - 1, by omega⟩
              obtain rfl : z = (jj : Int) := by omega
              have hd := Lib.hid (digs_next x jj s (by omega))
              have hr3 : r2 ≤ 12000 := by omega
              replace hr2 := Lib.hid hr2
              obtain ⟨D, hD⟩ : ∃ D, F ++ digs (x / 256 ^ (jj + 1)) (s - (jj + 1)) = D := ⟨_, rfl⟩
              rw [hD] at ho
              replace hD := Lib.hid hD
              have k1 := hBk.cell 0
              have k2 := hBk.frozen 0
              have hjj : jj ≤ 7 := by omega
              have hc : jj = 0 ∨ jj = 1 ∨ jj = 2 ∨ jj = 3 ∨ jj = 4 ∨ jj = 5 ∨ jj = 6 ∨ jj = 7 := by omega
              clear hz hjj h0
              rcases hc with rfl | rfl | rfl | rfl | rfl | rfl | rfl | rfl
              · have hx : ((x : Int) % 256) = ((x / 256 ^ 0 % 256 : Nat) : Int) := by omega
                replace hx := Lib.hid hx
                go_wp2_with (at_builtin; refine wpList_push2 rfl (.tmp 45) (.tmp 52) _ rfl w.heap.size 5 i0 _ 1 1 Try.underlying34 hi0 hz0 hz1 hz2 rfl (by omega) hB (Nat.le_refl _) (.slice Ai (r2) ci) (r2) (u8s D) rfl ho [.int .u8 ((x : Int) % 256)] rfl (by simp [Value.oneCell']) rfl (by unfold maxLen; omega) (by omega) ?_; intro v' w' ho' hB' hk'; rw [u8s_snoc] at ho')
                rw [hx.out, ← hD.out, List.append_assoc, hd.out] at ho'
                obtain ⟨ne', kp'⟩ := hk' _ hBk.lt hne
                obtain ⟨A3, c3, rfl, _, _⟩ := own_slice ho'
                have hBk' := kp' _ _ hBk
                clear hBk hk' kp'
                go_wp2
                go_roundw
                case rel => exact ⟨0, r2 + 1, _, A3, c3, by omega, rfl, by go_num, rfl, by rw [hr2.out]; omega, ho', hBk', ne', hB'⟩
                case measure => simp [intOf] <;> omega
              · have hx : ((x : Int) / 256 % 256) = ((x / 256 ^ 1 % 256 : Nat) : Int) := by omega
                replace hx := Lib.hid hx
                go_wp2_with (at_builtin; refine wpList_push2 rfl (.tmp 45) (.tmp 52) _ rfl w.heap.size 5 i0 _ 1 1 Try.underlying34 hi0 hz0 hz1 hz2 rfl (by omega) hB (Nat.le_refl _) (.slice Ai (r2) ci) (r2) (u8s D) rfl ho [.int .u8 ((x : Int) / 256 % 256)] rfl (by simp [Value.oneCell']) rfl (by unfold maxLen; omega) (by omega) ?_; intro v' w' ho' hB' hk'; rw [u8s_snoc] at ho')
                rw [hx.out, ← hD.out, List.append_assoc, hd.out] at ho'
                obtain ⟨ne', kp'⟩ := hk' _ hBk.lt hne
                obtain ⟨A3, c3, rfl, _, _⟩ := own_slice ho'
                have hBk' := kp' _ _ hBk
                clear hBk hk' kp'
                go_wp2
                go_roundw
                case rel => exact ⟨1, r2 + 1, _, A3, c3, by omega, rfl, by go_num, rfl, by rw [hr2.out]; omega, ho', hBk', ne', hB'⟩
                case measure => simp [intOf] <;> omega
              · have hx : ((x : Int) / 65536 % 256) = ((x / 256 ^ 2 % 256 : Nat) : Int) := by omega
                replace hx := Lib.hid hx
                go_wp2_with (at_builtin; refine wpList_push2 rfl (.tmp 45) (.tmp 52) _ rfl w.heap.size 5 i0 _ 1 1 Try.underlying34 hi0 hz0 hz1 hz2 rfl (by omega) hB (Nat.le_refl _) (.slice Ai (r2) ci) (r2) (u8s D) rfl ho [.int .u8 ((x : Int) / 65536 % 256)] rfl (by simp [Value.oneCell']) rfl (by unfold maxLen; omega) (by omega) ?_; intro v' w' ho' hB' hk'; rw [u8s_snoc] at ho')
                rw [hx.out, ← hD.out, List.append_assoc, hd.out] at ho'
                obtain ⟨ne', kp'⟩ := hk' _ hBk.lt hne
                obtain ⟨A3, c3, rfl, _, _⟩ := own_slice ho'
                have hBk' := kp' _ _ hBk
                clear hBk hk' kp'
                go_wp2
                go_roundw
                case rel => exact ⟨2, r2 + 1, _, A3, c3, by omega, rfl, by go_num, rfl, by rw [hr2.out]; omega, ho', hBk', ne', hB'⟩
                case measure => simp [intOf] <;> omega
              · have hx : ((x : Int) / 16777216 % 256) = ((x / 256 ^ 3 % 256 : Nat) : Int) := by omega
                replace hx := Lib.hid hx
                go_wp2_with (at_builtin; refine wpList_push2 rfl (.tmp 45) (.tmp 52) _ rfl w.heap.size 5 i0 _ 1 1 Try.underlying34 hi0 hz0 hz1 hz2 rfl (by omega) hB (Nat.le_refl _) (.slice Ai (r2) ci) (r2) (u8s D) rfl ho [.int .u8 ((x : Int) / 16777216 % 256)] rfl (by simp [Value.oneCell']) rfl (by unfold maxLen; omega) (by omega) ?_; intro v' w' ho' hB' hk'; rw [u8s_snoc] at ho')
                rw [hx.out, ← hD.out, List.append_assoc, hd.out] at ho'
                obtain ⟨ne', kp'⟩ := hk' _ hBk.lt hne
                obtain ⟨A3, c3, rfl, _, _⟩ := own_slice ho'
                have hBk' := kp' _ _ hBk
                clear hBk hk' kp'
                go_wp2
                go_roundw
                case rel => exact ⟨3, r2 + 1, _, A3, c3, by omega, rfl, by go_num, rfl, by rw [hr2.out]; omega, ho', hBk', ne', hB'⟩
                case measure => simp [intOf] <;> omega
              · have hx : ((x : Int) / 4294967296 % 256) = ((x / 256 ^ 4 % 256 : Nat) : Int) := by omega
                replace hx := Lib.hid hx
                go_wp2_with (at_builtin; refine wpList_push2 rfl (.tmp 45) (.tmp 52) _ rfl w.heap.size 5 i0 _ 1 1 Try.underlying34 hi0 hz0 hz1 hz2 rfl (by omega) hB (Nat.le_refl _) (.slice Ai (r2) ci) (r2) (u8s D) rfl ho [.int .u8 ((x : Int) / 4294967296 % 256)] rfl (by simp [Value.oneCell']) rfl (by unfold maxLen; omega) (by omega) ?_; intro v' w' ho' hB' hk'; rw [u8s_snoc] at ho')
                rw [hx.out, ← hD.out, List.append_assoc, hd.out] at ho'
                obtain ⟨ne', kp'⟩ := hk' _ hBk.lt hne
                obtain ⟨A3, c3, rfl, _, _⟩ := own_slice ho'
                have hBk' := kp' _ _ hBk
                clear hBk hk' kp'
                go_wp2
                go_roundw
                case rel => exact ⟨4, r2 + 1, _, A3, c3, by omega, rfl, by go_num, rfl, by rw [hr2.out]; omega, ho', hBk', ne', hB'⟩
                case measure => simp [intOf] <;> omega
              · have hx : ((x : Int) / 1099511627776 % 256) = ((x / 256 ^ 5 % 256 : Nat) : Int) := by omega
                replace hx := Lib.hid hx
                go_wp2_with (at_builtin; refine wpList_push2 rfl (.tmp 45) (.tmp 52) _ rfl w.heap.size 5 i0 _ 1 1 Try.underlying34 hi0 hz0 hz1 hz2 rfl (by omega) hB (Nat.le_refl _) (.slice Ai (r2) ci) (r2) (u8s D) rfl ho [.int .u8 ((x : Int) / 1099511627776 % 256)] rfl (by simp [Value.oneCell']) rfl (by unfold maxLen; omega) (by omega) ?_; intro v' w' ho' hB' hk'; rw [u8s_snoc] at ho')
                rw [hx.out, ← hD.out, List.append_assoc, hd.out] at ho'
                obtain ⟨ne', kp'⟩ := hk' _ hBk.lt hne
                obtain ⟨A3, c3, rfl, _, _⟩ := own_slice ho'
                have hBk' := kp' _ _ hBk
                clear hBk hk' kp'
                go_wp2
                go_roundw
                case rel => exact ⟨5, r2 + 1, _, A3, c3, by omega, rfl, by go_num, rfl, by rw [hr2.out]; omega, ho', hBk', ne', hB'⟩
                case measure => simp [intOf] <;> omega
              · have hx : ((x : Int) / 281474976710656 % 256) = ((x / 256 ^ 6 % 256 : Nat) : Int) := by omega
                replace hx := Lib.hid hx
                go_wp2_with (at_builtin; refine wpList_push2 rfl (.tmp 45) (.tmp 52) _ rfl w.heap.size 5 i0 _ 1 1 Try.underlying34 hi0 hz0 hz1 hz2 rfl (by omega) hB (Nat.le_refl _) (.slice Ai (r2) ci) (r2) (u8s D) rfl ho [.int .u8 ((x : Int) / 281474976710656 % 256)] rfl (by simp [Value.oneCell']) rfl (by unfold maxLen; omega) (by omega) ?_; intro v' w' ho' hB' hk'; rw [u8s_snoc] at ho')
                rw [hx.out, ← hD.out, List.append_assoc, hd.out] at ho'
                obtain ⟨ne', kp'⟩ := hk' _ hBk.lt hne
                obtain ⟨A3, c3, rfl, _, _⟩ := own_slice ho'
                have hBk' := kp' _ _ hBk
                clear hBk hk' kp'
                go_wp2
                go_roundw
                case rel => exact ⟨6, r2 + 1, _, A3, c3, by omega, rfl, by go_num, rfl, by rw [hr2.out]; omega, ho', hBk', ne', hB'⟩
                case measure => simp [intOf] <;> omega
              · have hx : ((x : Int) / 72057594037927936) = ((x / 256 ^ 7 % 256 : Nat) : Int) := by omega
                replace hx := Lib.hid hx
                go_wp2_with (at_builtin; refine wpList_push2 rfl (.tmp 45) (.tmp 52) _ rfl w.heap.size 5 i0 _ 1 1 Try.underlying34 hi0 hz0 hz1 hz2 rfl (by omega) hB (Nat.le_refl _) (.slice Ai (r2) ci) (r2) (u8s D) rfl ho [.int .u8 ((x : Int) / 72057594037927936)] rfl (by simp [Value.oneCell']) rfl (by unfold maxLen; omega) (by omega) ?_; intro v' w' ho' hB' hk'; rw [u8s_snoc] at ho')
                rw [hx.out, ← hD.out, List.append_assoc, hd.out] at ho'
                obtain ⟨ne', kp'⟩ := hk' _ hBk.lt hne
                obtain ⟨A3, c3, rfl, _, _⟩ := own_slice ho'
                have hBk' := kp' _ _ hBk
                clear hBk hk' kp'
                go_wp2
                go_roundw
                case rel => exact ⟨7, r2 + 1, _, A3, c3, by omega, rfl, by go_num, rfl, by rw [hr2.out]; omega, ho', hBk', ne', hB'⟩
                case measure => simp [intOf] <;> omega
        · obtain rfl : q = k := by omega
          have ho2 : W2.ownsRow w.heap.size 5 1 (.slice Ao r co) r (u8s (l ++ flat ps)) := by
            rw [List.take_of_length_le (by rw [HL.out]; exact Nat.le_refl _)] at ho
            exact ho
          have hr2 : r = n + T := by rw [hr, List.take_of_length_le (by rw [HL.out]; exact Nat.le_refl _), HT.out]
          replace hr2 := Lib.hid hr2
          clear ho h8 h64 hr
          go_wp2
          go_ret2
          have e := hr2.out
          subst e
          exact ⟨.slice Ao (n + T) co, rfl, by rw [HT.out]; exact ho2, hB⟩
end Go.Proofs.Ytjmhefkmpfkpbaa
