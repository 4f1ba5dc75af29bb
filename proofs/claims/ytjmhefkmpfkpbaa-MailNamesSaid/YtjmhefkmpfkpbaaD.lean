/- Field: bytes that are read: the reader, and a number taken. -/
import Derived.Test.YtjmhefkmpfkpbaaR
import Derived.Laws.BitsAllLaws
import Derived.Laws.BitsLemmas
import Derived.BigRegion
namespace Go.Proofs.Ytjmhefkmpfkpbaa
open Go.ChangeShapes Go.WideShapes Go.ChangeAt Go.RowKit
set_option linter.unusedSimpArgs false
set_option linter.unusedVariables false
abbrev rst (A : Option Addr) (n c : Nat) (at_ : Int) : Value := .agg #[.slice A n c, .int .i64 at_]
def rdrE (n : Nat) (p : Int) : Int := if 0 ≤ p ∧ p ≤ n then 0 else 8
/-- A reader of bytes stands at block g. -/
abbrev Rdr (w : World) (g : Nat) (A : Option Addr) (n c : Nat) (p e : Int) : Prop := Blk w g 135 #[.slice A n c, .int .i64 p, .int .i64 e]
set_option maxHeartbeats 4000000 in
theorem of_any (A : Option Addr) (n c : Nat) (p : Int) (w : World) :
    Calls Try.prog 91 #[rst A n c p] w fun en w' => ∃ g, en = .returned (.pointer (some ⟨g, 0, none⟩)) ∧ w.heap.size ≤ g ∧ Rdr w' g A n c p (rdrE n p) ∧ Below w.heap.size w w' := by
  have h1 : p < 0 ∨ (0 ≤ p ∧ p ≤ n) ∨ (0 ≤ p ∧ n < p) := by omega
  have hB := ((Below.refl w.heap.size w).alloc (Nat.le_refl _) (.cells #[.slice A n c, .int .i64 p] 67)).alloc (by rw [World.size_alloc]; omega) (.cells #[.slice A n c, .int .i64 p, .int .i64 0] 135)
  have hk := Blk.new (w.alloc (.cells #[.slice A n c, .int .i64 p] 67)) 135 #[.slice A n c, .int .i64 p, .int .i64 0]
  have hB8 := ((Below.refl w.heap.size w).alloc (Nat.le_refl _) (.cells #[.slice A n c, .int .i64 p] 67)).alloc (by rw [World.size_alloc]; omega) (.cells #[.slice A n c, .int .i64 p, .int .i64 8] 135)
  have hk8 := Blk.new (w.alloc (.cells #[.slice A n c, .int .i64 p] 67)) 135 #[.slice A n c, .int .i64 p, .int .i64 8]
  rw [World.size_alloc] at hk hk8
  rcases h1 with h1 | ⟨h1, h2⟩ | ⟨h1, h2⟩
  · have d1 : decide (p < 0) = true := decide_eq_true h1
    have e1 : rdrE n p = 8 := if_neg (by omega)
    rw [e1]
    go_enter Try.func91, Try.ntmps91
    go_wp2
    go_ret
    exact ⟨_, rfl, by omega, hk8, hB8⟩
  · have d1 : decide (p < 0) = false := decide_eq_false (by omega)
    have d2 : decide ((n : Int) < p) = false := decide_eq_false (by omega)
    have e1 : rdrE n p = 0 := if_pos ⟨h1, h2⟩
    rw [e1]
    go_enter Try.func91, Try.ntmps91
    go_wp2
    go_ret
    exact ⟨_, rfl, by omega, hk, hB⟩
  · have d1 : decide (p < 0) = false := decide_eq_false (by omega)
    have d2 : decide ((n : Int) < p) = true := decide_eq_true h2
    have e1 : rdrE n p = 8 := if_neg (by omega)
    rw [e1]
    go_enter Try.func91, Try.ntmps91
    go_wp2
    go_ret
    exact ⟨_, rfl, by omega, hk8, hB8⟩
set_option maxHeartbeats 4000000 in
theorem number_err (g : Nat) (A : Option Addr) (n c : Nat) (p e s : Int) (he : (e != 0) = true) (w : World) (hk : Rdr w g A n c p e) :
    Calls Try.prog 92 #[.pointer (some ⟨g, 0, none⟩), .int .i64 s] w fun en w' => en = .returned (.int .u64 0) ∧ w = w' := by
  have a0 := hk.cell 0
  have a1 := hk.cell 1
  have a2 := hk.cell 2
  go_enter Try.func92, Try.ntmps92
  go_wp2
  go_ret
  exact ⟨rfl, rfl⟩
set_option maxHeartbeats 4000000 in
theorem number_short (g : Nat) (A : Option Addr) (n c : Nat) (p s : Int) (hp0 : 0 ≤ p) (hp1 : p ≤ n) (hm : n ≤ 100000) (hs : (n : Int) - p < s) (w : World) (hk : Rdr w g A n c p 0) :
    Calls Try.prog 92 #[.pointer (some ⟨g, 0, none⟩), .int .i64 s] w fun en w' => en = .returned (.int .u64 0) ∧ Rdr w' g A n c p 40 ∧ ∃ m, w' = (w.drewN m).setCell ⟨g, 2, none⟩ (.int .i64 40) := by
  have a0 := hk.cell 0
  have a1 := hk.cell 1
  have a2 := hk.cell 2
  have f2 := hk.frozen 2
  have w0 : IntKind.i64.wrap ((n : Int) - p) = (n : Int) - p := IntWalk.i64_in _ (by omega)
  have d1 : decide ((n : Int) - p < s) = true := decide_eq_true hs
  go_enter Try.func92, Try.ntmps92
  go_wp2_with fail
  go_quiet (fail)
  go_wp2
  go_ret
  exact ⟨rfl, by simpa using (hk.drewN nq).set_ 2 (.int .i64 40), _, rfl⟩
theorem or_bytes {y x : Int} (hy0 : 0 ≤ y) (hy : y < 72057594037927936) (hx0 : 0 ≤ x) (hx : x < 256) : bits .or .u64 (y * 256) x = 256 * y + x := by
  obtain ⟨a, rfl⟩ : ∃ a : Nat, y = (a : Int) := ⟨y.toNat, (Int.toNat_of_nonneg hy0).symm⟩
  obtain ⟨b, rfl⟩ : ∃ b : Nat, x = (b : Int) := ⟨x.toNat, (Int.toNat_of_nonneg hx0).symm⟩
  have h1 : a * 256 ||| b = 256 * a + b := by
    have := Nat.shiftLeft_add_eq_or_of_lt (i := 8) (show b < 2 ^ 8 by omega) a
    rw [Nat.shiftLeft_eq, show (2 : Nat) ^ 8 = 256 from rfl] at this
    omega
  have e : ((a : Int) * 256) = ((a * 256 : Nat) : Int) := by omega
  show IntKind.u64.wrap ((BitVec.ofInt 64 ((a : Int) * 256) ||| BitVec.ofInt 64 (b : Int)).toNat : Int) = _
  rw [e, BitVec.toNat_or, BitVec.ofInt_natCast, BitVec.ofInt_natCast, BitVec.toNat_ofNat, BitVec.toNat_ofNat, Nat.mod_eq_of_lt (by omega), Nat.mod_eq_of_lt (by omega), h1]
  exact (IntWalk.u64_in _ (by omega)).trans (by omega)
theorem Reads.part {w : World} {B n k s : Nat} {ad : Addr} {l : List Int} (hn : l.length = n) (h : Reads w B 1 (some ad) n (u8s l)) (hk : k + s ≤ n) (hs : 0 < s) : Reads w B 1 (some (ad.add k)) s (u8s ((l.drop k).take s)) := by
  obtain ⟨ad', e, hb, hc⟩ := h.2 (by omega)
  injection e with e
  subst e
  refine ⟨by simp; omega, fun _ => ⟨_, rfl, by rw [block_of_add]; exact hb, fun j u hu => ?_⟩⟩
  rw [add_of_add]
  refine hc _ u ?_
  rw [List.getElem?_map, List.getElem?_take] at hu
  split at hu
  · rw [List.getElem?_map, ← hu, List.getElem?_drop]
  · cases hu
set_option maxHeartbeats 4000000 in
theorem number_ok (g : Nat) (A : Option Addr) (n c : Nat) (l : List Int) (hn : l.length = n) (hb : ∀ b ∈ l, 0 ≤ b ∧ b < 256) (hm : n ≤ 100000) (hnc : n ≤ c) (p s : Nat) (hs0 : 0 < s) (hs8 : s ≤ 8) (hps : p + s ≤ n) (w : World) (hk : Rdr w g A n c p 0) (hR : Reads w g 1 A n (u8s l)) :
    Calls Try.prog 92 #[.pointer (some ⟨g, 0, none⟩), .int .i64 s] w fun en w' => en = .returned (.int .u64 (numI ((l.drop p).take s))) ∧ Rdr w' g A n c ((p + s : Nat) : Int) 0 ∧ ∃ m, w' = (w.drewN m).setCell ⟨g, 1, none⟩ (.int .i64 ((p + s : Nat) : Int)) := by
  obtain ⟨ad, _, rfl, hbl, _, _⟩ := hR.at_ (show 0 < n by omega)
  have hP := hR.part (k := p) (s := s) hn hps hs0
  have a0 := hk.cell 0
  have a1 := hk.cell 1
  have a2 := hk.cell 2
  have f1 := hk.frozen 1
  have w0 : IntKind.i64.wrap ((n : Int) - p) = (n : Int) - p := IntWalk.i64_in _ (by omega)
  have w1 : IntKind.i64.wrap ((p : Int) + s) = (p : Int) + s := IntWalk.i64_in _ (by omega)
  have d1 : decide ((n : Int) - p < s) = false := decide_eq_false (by omega)
  have e1 : (0 : Int) ≤ p := by omega
  have e2 : (p : Int) ≤ (p : Int) + s := by omega
  have e3 : (p : Int) + s ≤ c := by omega
  have e4 : (p : Int) + s ≤ n := by omega
  have e5 : ¬ c = p := by omega
  have e6 : c ≠ p := by omega
  have e7 : p ≤ c := by omega
  have e8 : p + s - p = s := by omega
  have e9 : ((p : Int) + s).toNat = p + s := by omega
  have e10 : (p : Int) ≤ c := by omega
  have hlen : ((l.drop p).take s).length = s := by rw [List.length_take, List.length_drop]; omega
  have hb2 : ∀ x ∈ (l.drop p).take s, 0 ≤ x ∧ x < 256 := fun x hx => hb x (List.mem_of_mem_drop (List.mem_of_mem_take hx))
  obtain ⟨X, hX⟩ : ∃ X, (l.drop p).take s = X := ⟨_, rfl⟩
  rw [hX] at hP hlen hb2
  rw [hX]
  have hk' := Lib.hid hk
  clear hn hb hR hX hk
  go_enter Try.func92, Try.ntmps92
  go_wp2_with fail
  go_quiet (fail)
  have hq1 : ∃ m, w.drewN nq = w.drewN m := ⟨_, rfl⟩
  have hkA : Rdr (w.drewN nq) g (some ad) n c (p : Int) 0 := hk'.out
  have hPA := hP.drewN nq
  clear a0 a1 a2 f1 hP
  generalize w.drewN nq = W1 at hq1 hkA hPA ⊢
  replace hq1 := Lib.hid hq1
  have a0 := hkA.cell 0
  have a1 := hkA.cell 1
  have a2 := hkA.cell 2
  replace hkA := Lib.hid hkA
  go_wp2_with fail
  go_quiet (fail)
  go_wp2_with fail
  have hW : ∃ m, W1.drewN nq = w.drewN m := by
    obtain ⟨m, hm⟩ := hq1.out
    exact ⟨m + nq, by rw [hm, World.drewN_drewN]⟩
  have hk2 : Rdr (W1.drewN nq) g (some ad) n c (p : Int) 0 := hkA.out.drewN nq
  have hP2 : Reads (W1.drewN nq) g 1 (some (ad.add p)) s (u8s X) := hPA.drewN nq
  generalize W1.drewN nq = W at hW hk2 hP2 ⊢
  generalize ad.add p = aq at hP2 ⊢
  clear a0 a1 a2 hPA
  go_loop [4, 48] (fun t i => ∃ k : Nat, k ≤ s ∧ i = .int .i64 k ∧ t = .int .u64 (numI (X.take k))) (fun _ i => s - (intOf i).toNat)
  case atStart => exact ⟨0, by omega, rfl, rfl⟩
  case round =>
    obtain ⟨k, hk, rfl, rfl⟩ := hrel
    by_cases hlt : k < s
    · obtain ⟨ad2, hA2, _, cA⟩ := at_u8 hlen hP2 hlt
      injection hA2 with hA2
      subst hA2
      have ht := Lib.hid (numI_take (l := X) (k := k) (by omega))
      have hlt2 := numI_lt hb2 k (by omega)
      have hb1 := hb2 _ (show X.getD k 0 ∈ X by rw [List.getD_eq_getElem?_getD, List.getElem?_eq_getElem (by omega)]; exact List.getElem_mem _)
      have h7 : 256 ^ k ≤ 256 ^ 7 := Nat.pow_le_pow_right (by omega) (by omega)
      obtain ⟨x, hx⟩ : ∃ x, X.getD k 0 = x := ⟨_, rfl⟩
      obtain ⟨y, hy⟩ : ∃ y, numI (X.take k) = y := ⟨_, rfl⟩
      rw [hx] at cA ht hb1
      rw [hy] at ht hlt2
      rw [hy]
      obtain ⟨y0, y1⟩ := hlt2
      have y2 : y < 72057594037927936 := by omega
      obtain ⟨x0, x1⟩ := hb1
      have v1 : IntKind.u64.wrap (y * 256) = y * 256 := IntWalk.u64_in _ (by omega)
      have v2 := or_bytes y0 y2 x0 x1
      have v3 : IntKind.u64.wrap x = x := IntWalk.u64_in _ (by omega)
      have i1 : (0 : Int) ≤ k := by omega
      have i2 : (k : Int) < s := by omega
      clear hx hy h7 hk2 hW hP2 y1 hlen hb2
      go_wp2
      go_round
      case rel => exact ⟨k + 1, by omega, by go_num, by rw [ht.out]⟩
      case measure => simp [intOf]; omega
    · obtain rfl : k = s := by omega
      rw [List.take_of_length_le (by omega)]
      have a0 := hk2.cell 0
      have a1 := hk2.cell 1
      have a2 := hk2.cell 2
      have f1 := hk2.frozen 1
      have hR2 := Lib.hid (show Rdr (W.setCell ⟨g, 1, none⟩ (.int .i64 ((p + k : Nat) : Int))) g (some ad) n c ((p + k : Nat) : Int) 0 by simpa using hk2.set_ 1 (.int .i64 ((p + k : Nat) : Int)))
      replace hW := Lib.hid hW
      clear hk2 hP2 hlen hb2
      go_wp2
      go_ret
      obtain ⟨m, hm⟩ := hW.out
      exact ⟨rfl, by simpa using hR2.out, m, by rw [hm]⟩
end Go.Proofs.Ytjmhefkmpfkpbaa
