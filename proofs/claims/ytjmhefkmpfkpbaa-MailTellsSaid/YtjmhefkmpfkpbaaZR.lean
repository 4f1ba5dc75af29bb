/- Field: the reference's digits, numbers and puts. | Field: bytes that are read: the reader, and a number taken. | Field: the contract of Number. | Mass: limbs: whether two are the same, and copies of them | Mail: rows of descriptors; whether a descriptor, an edge may be | Mail: a text that is written | Mail: mail's reader: a number taken -/
import Derived.Laws.BitsAllLaws
import Derived.Laws.BitsLemmas
import Derived.BigRegion
import Derived.Lib.BufferRead
import Derived.WalkSpells
import Derived.RegionTactic
import Derived.WalkMore
import Derived.IntWalk
import Derived.Lib.Hide
import Derived.Test.YtjmhefkmpfkpbaaC
import Derived.Test.YtjmhefkmpfkpbaaProg
import Derived.Test.YtjmhefkmpfkpbaaKA
namespace Go.Proofs.Ytjmhefkmpfkpbaa
open Go.ChangeShapes Go.WideShapes Go.ChangeAt Go.RowKit
set_option linter.unusedSimpArgs false
set_option linter.unusedVariables false
def numI : List Int → Int := List.foldl (fun a b => 256 * a + b) 0
theorem numI_snoc (l : List Int) (b : Int) : numI (l ++ [b]) = 256 * numI l + b := by simp [numI]
theorem numI_take {l : List Int} {k : Nat} (h : k < l.length) : numI (l.take (k + 1)) = 256 * numI (l.take k) + l.getD k 0 := by
  rw [List.take_succ_eq_append_getElem h, numI_snoc, List.getD_eq_getElem?_getD, List.getElem?_eq_getElem h]
  rfl
theorem numI_lt {l : List Int} (hb : ∀ b ∈ l, 0 ≤ b ∧ b < 256) : ∀ k, k ≤ l.length → 0 ≤ numI (l.take k) ∧ numI (l.take k) < ((256 ^ k : Nat) : Int) := by
  intro k
  induction k with
  | zero => intro _; simp [numI]
  | succ k ih =>
    intro hk
    have h1 := ih (by omega)
    have hb1 := hb _ (show l.getD k 0 ∈ l by rw [List.getD_eq_getElem?_getD, List.getElem?_eq_getElem (by omega)]; exact List.getElem_mem _)
    rw [numI_take (by omega), Nat.pow_succ]
    omega
theorem digs_byte (s : Nat) : ∀ x, ∀ b ∈ digs x s, 0 ≤ b ∧ b < 256 := by
  induction s with
  | zero => intro x b hb; simp [digs] at hb
  | succ s ih =>
    intro x b hb
    rw [digs] at hb
    rcases List.mem_append.mp hb with h | h
    · exact ih _ b h
    · simp at h; omega
end Go.Proofs.Ytjmhefkmpfkpbaa
namespace Go.Proofs.Ytjmhefkmpfkpbaa
open Go.ChangeShapes Go.WideShapes Go.ChangeAt Go.RowKit
set_option linter.unusedSimpArgs false
set_option linter.unusedVariables false
abbrev rst (A : Option Addr) (n c : Nat) (at_ : Int) : Value := .agg #[.slice A n c, .int .i64 at_]
def rdrE (n : Nat) (p : Int) : Int := if 0 ≤ p ∧ p ≤ n then 0 else 8
/-- A reader of bytes stands at block g. -/
abbrev Rdr (w : World) (g : Nat) (A : Option Addr) (n c : Nat) (p e : Int) : Prop := Blk w g 135 #[.slice A n c, .int .i64 p, .int .i64 e]
set_option maxHeartbeats 4000000 in
theorem of_any (A : Option Addr) (n c : Nat) (p : Int) (w : World) :
    Calls Try.prog 91 #[rst A n c p] w fun en w' => ∃ g, en = .returned (.pointer (some ⟨g, 0, none⟩)) ∧ w.heap.size ≤ g ∧ Rdr w' g A n c p (rdrE n p) ∧ Below w.heap.size w w' := by
  have h1 : p < 0 ∨ (0 ≤ p ∧ p ≤ n) ∨ (0 ≤ p ∧ n < p) := by omega
  have hB := ((Below.refl w.heap.size w).alloc (Nat.le_refl _) (.cells #[.slice A n c, .int .i64 p] 67)).alloc (by rw [World.size_alloc]; omega) (.cells #[.slice A n c, .int .i64 p, .int .i64 0] 135)
  have hk := Blk.new (w.alloc (.cells #[.slice A n c, .int .i64 p] 67)) 135 #[.slice A n c, .int .i64 p, .int .i64 0]
  have hB8 := ((Below.refl w.heap.size w).alloc (Nat.le_refl _) (.cells #[.slice A n c, .int .i64 p] 67)).alloc (by rw [World.size_alloc]; omega) (.cells #[.slice A n c, .int .i64 p, .int .i64 8] 135)
  have hk8 := Blk.new (w.alloc (.cells #[.slice A n c, .int .i64 p] 67)) 135 #[.slice A n c, .int .i64 p, .int .i64 8]
  rw [World.size_alloc] at hk hk8
  rcases h1 with h1 | ⟨h1, h2⟩ | ⟨h1, h2⟩
  · have d1 : decide (p < 0) = true := decide_eq_true h1
    have e1 : rdrE n p = 8 := if_neg (by omega)
    rw [e1]
    go_enter Try.func91, Try.ntmps91
    go_wp2
    go_ret
    exact ⟨_, rfl, by omega, hk8, hB8⟩
  · have d1 : decide (p < 0) = false := decide_eq_false (by omega)
    have d2 : decide ((n : Int) < p) = false := decide_eq_false (by omega)
    have e1 : rdrE n p = 0 := if_pos ⟨h1, h2⟩
    rw [e1]
    go_enter Try.func91, Try.ntmps91
    go_wp2
    go_ret
    exact ⟨_, rfl, by omega, hk, hB⟩
  · have d1 : decide (p < 0) = false := decide_eq_false (by omega)
    have d2 : decide ((n : Int) < p) = true := decide_eq_true h2
    have e1 : rdrE n p = 8 := if_neg (by omega)
    rw [e1]
    go_enter Try.func91, Try.ntmps91
    go_wp2
    go_ret
    exact ⟨_, rfl, by omega, hk8, hB8⟩
set_option maxHeartbeats 4000000 in
theorem number_err (g : Nat) (A : Option Addr) (n c : Nat) (p e s : Int) (he : (e != 0) = true) (w : World) (hk : Rdr w g A n c p e) :
    Calls Try.prog 92 #[.pointer (some ⟨g, 0, none⟩), .int .i64 s] w fun en w' => en = .returned (.int .u64 0) ∧ w = w' := by
  have a0 := hk.cell 0
  have a1 := hk.cell 1
  have a2 := hk.cell 2
  go_enter Try.func92, Try.ntmps92
  go_wp2
  go_ret
  exact ⟨rfl, rfl⟩
set_option maxHeartbeats 4000000 in
theorem number_short (g : Nat) (A : Option Addr) (n c : Nat) (p s : Int) (hp0 : 0 ≤ p) (hp1 : p ≤ n) (hm : n ≤ 100000) (hs : (n : Int) - p < s) (w : World) (hk : Rdr w g A n c p 0) :
    Calls Try.prog 92 #[.pointer (some ⟨g, 0, none⟩), .int .i64 s] w fun en w' => en = .returned (.int .u64 0) ∧ Rdr w' g A n c p 40 ∧ ∃ m, w' = (w.drewN m).setCell ⟨g, 2, none⟩ (.int .i64 40) := by
  have a0 := hk.cell 0
  have a1 := hk.cell 1
  have a2 := hk.cell 2
  have f2 := hk.frozen 2
  have w0 : IntKind.i64.wrap ((n : Int) - p) = (n : Int) - p := IntWalk.i64_in _ (by omega)
  have d1 : decide ((n : Int) - p < s) = true := decide_eq_true hs
  go_enter Try.func92, Try.ntmps92
  go_wp2_with fail
  go_quiet (fail)
  go_wp2
  go_ret
  exact ⟨rfl, by simpa using (hk.drewN nq).set_ 2 (.int .i64 40), _, rfl⟩
theorem or_bytes {y x : Int} (hy0 : 0 ≤ y) (hy : y < 72057594037927936) (hx0 : 0 ≤ x) (hx : x < 256) : bits .or .u64 (y * 256) x = 256 * y + x := by
  obtain ⟨a, rfl⟩ : ∃ a : Nat, y = (a : Int) := ⟨y.toNat, (Int.toNat_of_nonneg hy0).symm⟩
  obtain ⟨b, rfl⟩ : ∃ b : Nat, x = (b : Int) := ⟨x.toNat, (Int.toNat_of_nonneg hx0).symm⟩
  have h1 : a * 256 ||| b = 256 * a + b := by
    have := Nat.shiftLeft_add_eq_or_of_lt (i := 8) (show b < 2 ^ 8 by omega) a
    rw [Nat.shiftLeft_eq, show (2 : Nat) ^ 8 = 256 from rfl] at this
    omega
  have e : ((a : Int) * 256) = ((a * 256 : Nat) : Int) := by omega
  show IntKind.u64.wrap ((BitVec.ofInt 64 ((a : Int) * 256) ||| BitVec.ofInt 64 (b : Int)).toNat : Int) = _
  rw [e, BitVec.toNat_or, BitVec.ofInt_natCast, BitVec.ofInt_natCast, BitVec.toNat_ofNat, BitVec.toNat_ofNat, Nat.mod_eq_of_lt (by omega), Nat.mod_eq_of_lt (by omega), h1]
  exact (IntWalk.u64_in _ (by omega)).trans (by omega)
theorem Reads.part {w : World} {B n k s : Nat} {ad : Addr} {l : List Int} (hn : l.length = n) (h : Reads w B 1 (some ad) n (u8s l)) (hk : k + s ≤ n) (hs : 0 < s) : Reads w B 1 (some (ad.add k)) s (u8s ((l.drop k).take s)) := by
  obtain ⟨ad', e, hb, hc⟩ := h.2 (by omega)
  injection e with e
  subst e
  refine ⟨by simp; omega, fun _ => ⟨_, rfl, by rw [block_of_add]; exact hb, fun j u hu => ?_⟩⟩
  rw [add_of_add]
  refine hc _ u ?_
  rw [List.getElem?_map, List.getElem?_take] at hu
  split at hu
  · rw [List.getElem?_map, ← hu, List.getElem?_drop]
  · cases hu
set_option maxHeartbeats 4000000 in
theorem number_ok (g : Nat) (A : Option Addr) (n c : Nat) (l : List Int) (hn : l.length = n) (hb : ∀ b ∈ l, 0 ≤ b ∧ b < 256) (hm : n ≤ 100000) (hnc : n ≤ c) (p s : Nat) (hs0 : 0 < s) (hs8 : s ≤ 8) (hps : p + s ≤ n) (w : World) (hk : Rdr w g A n c p 0) (hR : Reads w g 1 A n (u8s l)) :
    Calls Try.prog 92 #[.pointer (some ⟨g, 0, none⟩), .int .i64 s] w fun en w' => en = .returned (.int .u64 (numI ((l.drop p).take s))) ∧ Rdr w' g A n c ((p + s : Nat) : Int) 0 ∧ ∃ m, w' = (w.drewN m).setCell ⟨g, 1, none⟩ (.int .i64 ((p + s : Nat) : Int)) := by
  obtain ⟨ad, _, rfl, hbl, _, _⟩ := hR.at_ (show 0 < n by omega)
  have hP := hR.part (k := p) (s := s) hn hps hs0
  have a0 := hk.cell 0
  have a1 := hk.cell 1
  have a2 := hk.cell 2
  have f1 := hk.frozen 1
  have w0 : IntKind.i64.wrap ((n : Int) - p) = (n : Int) - p := IntWalk.i64_in _ (by omega)
  have w1 : IntKind.i64.wrap ((p : Int) + s) = (p : Int) + s := IntWalk.i64_in _ (by omega)
  have d1 : decide ((n : Int) - p < s) = false := decide_eq_false (by omega)
  have e1 : (0 : Int) ≤ p := by omega
  have e2 : (p : Int) ≤ (p : Int) + s := by omega
  have e3 : (p : Int) + s ≤ c := by omega
  have e4 : (p : Int) + s ≤ n := by omega
  have e5 : ¬ c = p := by omega
  have e6 : c ≠ p := by omega
  have e7 : p ≤ c := by omega
  have e8 : p + s - p = s := by omega
  have e9 : ((p : Int) + s).toNat = p + s := by omega
  have e10 : (p : Int) ≤ c := by omega
  have hlen : ((l.drop p).take s).length = s := by rw [List.length_take, List.length_drop]; omega
  have hb2 : ∀ x ∈ (l.drop p).take s, 0 ≤ x ∧ x < 256 := fun x hx => hb x (List.mem_of_mem_drop (List.mem_of_mem_take hx))
  obtain ⟨X, hX⟩ : ∃ X, (l.drop p).take s = X := ⟨_, rfl⟩
  rw [hX] at hP hlen hb2
  rw [hX]
  have hk' := Lib.hid hk
  clear hn hb hR hX hk
  go_enter Try.func92, Try.ntmps92
  go_wp2_with fail
  go_quiet (fail)
  have hq1 : ∃ m, w.drewN nq = w.drewN m := ⟨_, rfl⟩
  have hkA : Rdr (w.drewN nq) g (some ad) n c (p : Int) 0 := hk'.out
  have hPA := hP.drewN nq
  clear a0 a1 a2 f1 hP
  generalize w.drewN nq = W1 at hq1 hkA hPA ⊢
  replace hq1 := Lib.hid hq1
  have a0 := hkA.cell 0
  have a1 := hkA.cell 1
  have a2 := hkA.cell 2
  replace hkA := Lib.hid hkA
  go_wp2_with fail
  go_quiet (fail)
  go_wp2_with fail
  have hW : ∃ m, W1.drewN nq = w.drewN m := by
    obtain ⟨m, hm⟩ := hq1.out
    exact ⟨m + nq, by rw [hm, World.drewN_drewN]⟩
  have hk2 : Rdr (W1.drewN nq) g (some ad) n c (p : Int) 0 := hkA.out.drewN nq
  have hP2 : Reads (W1.drewN nq) g 1 (some (ad.add p)) s (u8s X) := hPA.drewN nq
  generalize W1.drewN nq = W at hW hk2 hP2 ⊢
  generalize ad.add p = aq at hP2 ⊢
  clear a0 a1 a2 hPA
  go_loop [4, 48] (fun t i => ∃ k : Nat, k ≤ s ∧ i = .int .i64 k ∧ t = .int .u64 (numI (X.take k))) (fun _ i => s - (intOf i).toNat)
  case atStart => exact ⟨0, by omega, rfl, rfl⟩
  case round =>
    obtain ⟨k, hk, rfl, rfl⟩ := hrel
    by_cases hlt : k < s
    · obtain ⟨ad2, hA2, _, cA⟩ := at_u8 hlen hP2 hlt
      injection hA2 with hA2
      subst hA2
      have ht := Lib.hid (numI_take (l := X) (k := k) (by omega))
      have hlt2 := numI_lt hb2 k (by omega)
      have hb1 := hb2 _ (show X.getD k 0 ∈ X by rw [List.getD_eq_getElem?_getD, List.getElem?_eq_getElem (by omega)]; exact List.getElem_mem _)
      have h7 : 256 ^ k ≤ 256 ^ 7 := Nat.pow_le_pow_right (by omega) (by omega)
      obtain ⟨x, hx⟩ : ∃ x, X.getD k 0 = x := ⟨_, rfl⟩
      obtain ⟨y, hy⟩ : ∃ y, numI (X.take k) = y := ⟨_, rfl⟩
      rw [hx] at cA ht hb1
      rw [hy] at ht hlt2
      rw [hy]
      obtain ⟨y0, y1⟩ := hlt2
      have y2 : y < 72057594037927936 := by omega
      obtain ⟨x0, x1⟩ := hb1
      have v1 : IntKind.u64.wrap (y * 256) = y * 256 := IntWalk.u64_in _ (by omega)
      have v2 := or_bytes y0 y2 x0 x1
      have v3 : IntKind.u64.wrap x = x := IntWalk.u64_in _ (by omega)
      have i1 : (0 : Int) ≤ k := by omega
      have i2 : (k : Int) < s := by omega
      clear hx hy h7 hk2 hW hP2 y1 hlen hb2
      go_wp2
      go_round
      case rel => exact ⟨k + 1, by omega, by go_num, by rw [ht.out]⟩
      case measure => simp [intOf]; omega
    · obtain rfl : k = s := by omega
      rw [List.take_of_length_le (by omega)]
      have a0 := hk2.cell 0
      have a1 := hk2.cell 1
      have a2 := hk2.cell 2
      have f1 := hk2.frozen 1
      have hR2 := Lib.hid (show Rdr (W.setCell ⟨g, 1, none⟩ (.int .i64 ((p + k : Nat) : Int))) g (some ad) n c ((p + k : Nat) : Int) 0 by simpa using hk2.set_ 1 (.int .i64 ((p + k : Nat) : Int)))
      replace hW := Lib.hid hW
      clear hk2 hP2 hlen hb2
      go_wp2
      go_ret
      obtain ⟨m, hm⟩ := hW.out
      exact ⟨rfl, by simpa using hR2.out, m, by rw [hm]⟩
end Go.Proofs.Ytjmhefkmpfkpbaa
namespace Go.Proofs.Ytjmhefkmpfkpbaa
open Go.ChangeShapes Go.WideShapes Go.ChangeAt Go.RowKit
set_option linter.unusedSimpArgs false
set_option linter.unusedVariables false
theorem below_num {w w1 w2 : World} {g i : Nat} {u : Value} (h : Below w.heap.size w w1) (hg : w.heap.size ≤ g) (h2 : ∃ m, w2 = (w1.drewN m).setCell ⟨g, i, none⟩ u) : Below w.heap.size w w2 := by
  obtain ⟨m, rfl⟩ := h2
  exact (below_drewN h m).setCell hg _
theorem blk_num {w1 w2 : World} {g i b : Nat} {t : TypeId} {cs : Array Value} {u : Value} (h : Blk w1 b t cs) (hg : b ≠ g) (h2 : ∃ m, w2 = (w1.drewN m).setCell ⟨g, i, none⟩ u) : Blk w2 b t cs := by
  obtain ⟨m, rfl⟩ := h2
  exact (h.drewN m).far hg u
set_option maxRecDepth 100000 in
set_option maxHeartbeats 8000000 in
theorem num_short (A : Option Addr) (n c : Nat) (hm : n ≤ 100000) (p s : Nat) (h1 : 1 ≤ s) (h8 : s ≤ 8) (hpn : p ≤ n) (hs : n < p + s) (w : World) :
    Calls Try.prog 67 #[rst A n c (p : Int), .int .i64 (s : Int)] w fun en w' => en = .returned (.tuple #[rst none 0 0 0, .int .u64 0, .int .i64 40]) ∧ Below w.heap.size w w' := by
  have d1 : decide ((s : Int) < 1) = false := decide_eq_false (by omega)
  have d2 : decide ((8 : Int) < (s : Int)) = false := decide_eq_false (by omega)
  have hp : rdrE n (p : Int) = 0 := if_pos ⟨by omega, by omega⟩
  have hB0 := ((Below.refl w.heap.size w).alloc (Nat.le_refl _) (.cells #[.slice A n c, .int .i64 p] 67)).alloc (by rw [World.size_alloc]; omega) (.cells #[.slice none 0 0, .int .i64 0] 67)
  have hr0 := Blk.new (w.alloc (.cells #[.slice A n c, .int .i64 p] 67)) 67 #[.slice none 0 0, .int .i64 0]
  rw [World.size_alloc] at hr0
  go_enter Try.func67, Try.ntmps67
  go_wp2_with fail
  refine (of_any A n c p _).mono ?_
  rintro en w1 ⟨g, rfl, hg, hk, hb1⟩
  have hB1 := hB0.trans (hb1.mono hB0.size)
  have hr1 := hr0.below hb1 hr0.lt
  have hgr : w.heap.size + 1 < g := Nat.lt_of_lt_of_le hr0.lt hg
  have hgw : w.heap.size ≤ g := by omega
  clear hb1 hr0 hB0 hg
  rw [hp] at hk
  clear hp
  have a0 := hk.cell 0
  have a1 := hk.cell 1
  have a2 := hk.cell 2
  go_wp2_with fail
  refine (number_short g A n c p s (by omega) (by omega) hm (by omega) _ hk).mono ?_
  rintro en w2 ⟨rfl, hk2, hm2⟩
  have hr2 := blk_num hr1 (by omega) hm2
  have hB2 := below_num hB1 hgw hm2
  clear hm2 a0 a1 a2 hk hr1 hB1
  have a0 := hk2.cell 0
  have a1 := hk2.cell 1
  have a2 := hk2.cell 2
  have r0 := hr2.cell 0
  have r1 := hr2.cell 1
  have rf0 := hr2.frozen 0
  have rf1 := hr2.frozen 1
  have hl1 := hr2.lt
  go_wp2_with fail
  go_region
  go_wp2
  have K := ((hr2).set_ 0 (.slice none 0 0)).set_ 1 (.int .i64 0)
  have q0 := K.cell 0
  have q1 := K.cell 1
  simp at q0 q1
  refine bodyPost_ret (v := .tuple #[rst none 0 0 0, .int .u64 0, .int .i64 40]) (by simp [results, Try.results15, go_sem, q0, q1]) rfl ⟨rfl, ?_⟩
  exact (((hB2).setCell (p := ⟨w.heap.size + 1, 0, none⟩) (by show w.heap.size ≤ w.heap.size + 1; omega) _).setCell (p := ⟨w.heap.size + 1, 1, none⟩) (by show w.heap.size ≤ w.heap.size + 1; omega) _).drew
set_option maxRecDepth 100000 in
set_option maxHeartbeats 8000000 in
theorem num_ok (A : Option Addr) (n c : Nat) (l : List Int) (hn : l.length = n) (hb : ∀ b ∈ l, 0 ≤ b ∧ b < 256) (hm : n ≤ 100000) (hnc : n ≤ c) (p s : Nat) (h1 : 1 ≤ s) (h8 : s ≤ 8) (hps : p + s ≤ n) (w : World) (hR : Reads w w.heap.size 1 A n (u8s l)) :
    Calls Try.prog 67 #[rst A n c (p : Int), .int .i64 (s : Int)] w fun en w' => en = .returned (.tuple #[rst A n c ((p + s : Nat) : Int), .int .u64 (numI ((l.drop p).take s)), .int .i64 0]) ∧ Below w.heap.size w w' := by
  have d1 : decide ((s : Int) < 1) = false := decide_eq_false (by omega)
  have d2 : decide ((8 : Int) < (s : Int)) = false := decide_eq_false (by omega)
  have hp : rdrE n (p : Int) = 0 := if_pos ⟨by omega, by omega⟩
  have hB0 := ((Below.refl w.heap.size w).alloc (Nat.le_refl _) (.cells #[.slice A n c, .int .i64 p] 67)).alloc (by rw [World.size_alloc]; omega) (.cells #[.slice none 0 0, .int .i64 0] 67)
  have hr0 := Blk.new (w.alloc (.cells #[.slice A n c, .int .i64 p] 67)) 67 #[.slice none 0 0, .int .i64 0]
  rw [World.size_alloc] at hr0
  go_enter Try.func67, Try.ntmps67
  go_wp2_with fail
  refine (of_any A n c p _).mono ?_
  rintro en w1 ⟨g, rfl, hg, hk, hb1⟩
  have hB1 := hB0.trans (hb1.mono hB0.size)
  have hr1 := hr0.below hb1 hr0.lt
  have hgr : w.heap.size + 1 < g := Nat.lt_of_lt_of_le hr0.lt hg
  have hgw : w.heap.size ≤ g := by omega
  have hRg := (hR.below hB1).more hgw
  clear hb1 hr0 hB0 hg
  rw [hp] at hk
  clear hp
  have a0 := hk.cell 0
  have a1 := hk.cell 1
  have a2 := hk.cell 2
  go_wp2_with fail
  refine (number_ok g A n c l hn hb hm hnc p s h1 h8 hps _ hk hRg).mono ?_
  rintro en w2 ⟨rfl, hk2, hm2⟩
  have hr2 := blk_num hr1 (by omega) hm2
  have hB2 := below_num hB1 hgw hm2
  clear hm2 a0 a1 a2 hk hr1 hB1 hR hRg hn hb
  obtain ⟨N, hN⟩ : ∃ N, numI ((l.drop p).take s) = N := ⟨_, rfl⟩
  rw [hN]
  obtain ⟨q, hq⟩ : ∃ q : Int, ((p + s : Nat) : Int) = q := ⟨_, rfl⟩
  rw [hq] at hk2
  replace hN := Lib.hid hN
  replace hq := Lib.hid hq
  have a0 := hk2.cell 0
  have a1 := hk2.cell 1
  have a2 := hk2.cell 2
  have r0 := hr2.cell 0
  have r1 := hr2.cell 1
  have rf0 := hr2.frozen 0
  have rf1 := hr2.frozen 1
  have hl1 := hr2.lt
  go_wp2
  have e1 := hN.out
  have e2 := hq.out
  subst e1
  subst e2
  have K := ((hr2).set_ 0 (.slice A n c)).set_ 1 (.int .i64 ((p + s : Nat) : Int))
  have q0 := K.cell 0
  have q1 := K.cell 1
  simp at q0 q1
  refine bodyPost_ret (v := .tuple #[rst A n c ((p + s : Nat) : Int), .int .u64 (numI ((l.drop p).take s)), .int .i64 0]) (by simp [results, Try.results15, go_sem, q0, q1]) rfl ⟨rfl, ?_⟩
  exact (hB2.setCell (p := ⟨w.heap.size + 1, 0, none⟩) (by show w.heap.size ≤ w.heap.size + 1; omega) _).setCell (p := ⟨w.heap.size + 1, 1, none⟩) (by show w.heap.size ≤ w.heap.size + 1; omega) _
end Go.Proofs.Ytjmhefkmpfkpbaa
namespace Go.Proofs.Ytjmhefkmpfkpbaa
open Go.ChangeShapes Go.WideShapes Go.ChangeAt Go.RowKit
set_option linter.unusedSimpArgs false
set_option linter.unusedVariables false
theorem infoU32 : (Try.prog.info? 52).map (fun i => (i.zero, i.size, i.bytes)) = some (some (.int .u32 0), 1, 4) := by kernel_rfl
def ClPost (w : World) (n : Nat) (a : List Nat) (en : Ending) (w' : World) : Prop := ∃ Ao co, en = .returned (.slice Ao n co) ∧ n ≤ co ∧ OwnR w' w.heap.size 52 Ao n (ints .u32 a) ∧ Below w.heap.size w w'
set_option maxHeartbeats 2000000 in
theorem clone_any (A : Option Addr) (n c : Nat) (a : List Nat) (hn : a.length = n) (hm : n ≤ 100000) (w : World) (hR : Reads w w.heap.size 1 A n (ints .u32 a)) :
    Calls Try.prog 39 #[.slice A n c] w (ClPost w n a) := by
  rcases A with _ | ad
  · have h0 : n = 0 := by
      rcases Nat.eq_zero_or_pos n with h | h
      · exact h
      · obtain ⟨ad, h1, _⟩ := hR.2 h
        cases h1
    subst h0
    have ha : a = [] := List.eq_nil_of_length_eq_zero hn
    subst ha
    have q22 : ∀ (w : World), (binOp .eql 22 (.slice none 0 c) (.slice none 0 0)).run Try.prog w = .ok (.bool true) w := fun w => Lib.run_eql_slice_nil w _ _ none 0 c 0 0 Try.underlying22
    clear hn hR
    go_enter Try.func39, Try.ntmps39
    go_wp2
    go_ret
    exact ⟨none, 0, rfl, Nat.le_refl _, OwnR.none_, Below.refl _ _⟩
  · obtain ⟨i0, hi0, hz0, hz1, hz2⟩ := info_parts infoU32
    clear hn
    have q22 : ∀ (w : World), (binOp .eql 22 (.slice (some ad) n c) (.slice none 0 0)).run Try.prog w = .ok (.bool false) w := fun w => Lib.run_eql_slice_nil w _ _ (some ad) n c 0 0 Try.underlying22
    go_enter Try.func39, Try.ntmps39
    go_wp2_with (at_builtin; refine wpList_append_any _ rfl (.tmp 5) (.tmp 6) 22 rfl w.heap.size 52 i0 _ 1 4 Try.underlying22 hi0 hz0 hz1 hz2 rfl (by omega) (.slice (some ⟨w.heap.size, 0, none⟩) 0 0) 0 [] rfl (owns_new w w.heap.size (Nat.le_refl _) [] 52 0 rfl (Nat.zero_le _)) w.heap.size (some ad) n c (ints .u32 a) rfl (hR.alloc (Nat.le_refl _) _) (ints_one _ _) (by unfold maxLen; omega) (by omega) (by rw [World.size_alloc]; omega) ?_; intro v4 w4 ho4 hg4 _; rw [Nat.zero_add, List.nil_append] at ho4; obtain ⟨Ao, co, rfl, hco, ro⟩ := own_slice ho4)
    go_ret
    refine ⟨Ao, co, rfl, hco, OwnR.of_row ho4, Below.grown ((Below.refl w.heap.size w).alloc (Nat.le_refl _) _) hg4 (by rw [World.size_alloc]; omega) ?_⟩
    intro q hq
    simp [Value.ownBlock] at hq
    omega
set_option maxHeartbeats 4000000 in
theorem lequal_any (A A2 : Option Addr) (n n2 c c2 B B2 : Nat) (a b : List Nat) (hn : a.length = n) (hn2 : b.length = n2) (hm : n ≤ 100000) (hm2 : n2 ≤ 100000) (w : World) (hR : Reads w B 1 A n (ints .u32 a)) (hR2 : Reads w B2 1 A2 n2 (ints .u32 b)) :
    Calls Try.prog 29 #[.slice A n c, .slice A2 n2 c2] w fun en w' => en = .returned (.bool (decide (a = b))) ∧ ∃ m, w' = w.drewN m := by
  by_cases hlen : n = n2
  · subst hlen
    have no : ∀ k, k < n → a.getD k 0 ≠ b.getD k 0 → decide (a = b) = false := fun k _ h => decide_eq_false (fun e => h (by rw [e]))
    have yes : (∀ k, k < n → a.getD k 0 = b.getD k 0) → decide (a = b) = true := fun h => decide_eq_true (by
      apply List.ext_getElem (by omega)
      intro i h1 h2
      have := h i (by omega)
      rw [List.getD_eq_getElem?_getD, List.getD_eq_getElem?_getD, List.getElem?_eq_getElem h1, List.getElem?_eq_getElem h2] at this
      exact this)
    obtain ⟨R, hRr⟩ : ∃ R, decide (a = b) = R := ⟨_, rfl⟩
    rw [hRr] at no yes ⊢
    have gno := Lib.hid no
    have gyes := Lib.hid yes
    have gn := Lib.hid hn
    have gn2 := Lib.hid hn2
    have t1 : ((n : Int) != n) = false := by simp
    clear no yes hRr hn hn2
    go_enter Try.func29, Try.ntmps29
    go_wp2
    go_loopw [13] (fun t wr => ∃ k m : Nat, k ≤ n ∧ t = .int .i64 (k : Int) ∧ Hid (∀ j, j < k → a.getD j 0 = b.getD j 0) ∧ wr = w.drewN m) (fun t _ => n - (intOf t).toNat)
    case atStart => exact ⟨0, 0, Nat.zero_le _, rfl, Lib.hid (fun j h1 => by omega), rfl⟩
    case round =>
      obtain ⟨k, m, hk, rfl, h0, rfl⟩ := hrel
      by_cases hlt : k < n
      · obtain ⟨ad, rfl, hab, cA⟩ := at_ints gn.out hR hlt
        obtain ⟨ad2, rfl, hab2, cA2⟩ := at_ints gn2.out hR2 hlt
        have i1 : (0 : Int) ≤ k := by omega
        have i2 : (k : Int) < n := by omega
        obtain ⟨x, hx⟩ : ∃ x, a.getD k 0 = x := ⟨_, rfl⟩
        obtain ⟨y, hy⟩ : ∃ y, b.getD k 0 = y := ⟨_, rfl⟩
        rw [hx] at cA
        rw [hy] at cA2
        by_cases h : x = y
        · subst h
          have h0' : Hid (∀ i, i < k + 1 → a.getD i 0 = b.getD i 0) := Lib.hid (fun i h1 => by
            rcases Nat.lt_or_ge i k with h3 | h3
            · exact h0.out i h3
            · rw [show i = k by omega, hx, hy])
          have t2 : ((x : Int) != x) = false := by simp
          clear hx hy hR hR2 gno gyes h0 gn gn2
          go_wp2_with fail
          go_quiet (fail)
          go_wp2
          go_roundw
          case rel => exact ⟨k + 1, _, by omega, by go_num, h0', rfl⟩
          case measure => simp [intOf] <;> omega
        · obtain rfl := gno.out k hlt (by rw [hx, hy]; exact h)
          have t2 : ((x : Int) != y) = true := by simp; omega
          have t4 : (x != y) = true := by simp; omega
          clear hx hy hR hR2 gyes h0 gn gn2 gno
          go_wp2_with fail
          go_quiet (fail)
          go_wp2
          go_ret
          refine ⟨rfl, ?_⟩
          simp only [World.drewN_drewN]
          exact ⟨_, rfl⟩
      · obtain rfl : k = n := by omega
        obtain rfl := gyes.out h0.out
        clear hR hR2 gno gyes h0 gn gn2
        go_wp2
        go_ret
        exact ⟨rfl, m, rfl⟩
  · rw [decide_eq_false (show ¬ a = b from fun e => hlen (by rw [← hn, ← hn2, e]))]
    have t1 : ((n : Int) != n2) = true := by simp; omega
    have t2 : (n != n2) = true := by simpa using hlen
    clear hR hR2 hn hn2
    go_enter Try.func29, Try.ntmps29
    go_wp2
    go_ret
    exact ⟨rfl, 0, rfl⟩
theorem limbs_same (A A2 : Option Addr) (n n2 c c2 B B2 : Nat) (a b : List Nat) (hn : a.length = n) (hn2 : b.length = n2) (hm : n ≤ 100000) (hm2 : n2 ≤ 100000) (w : World) (hR : Reads w B 1 A n (ints .u32 a)) (hR2 : Reads w B2 1 A2 n2 (ints .u32 b)) :
    Calls Try.prog 85 #[.slice A n c, .slice A2 n2 c2] w fun en w' => en = .returned (.bool (decide (a = b))) ∧ ∃ m, w' = w.drewN m := by
  have h := lequal_any A A2 n n2 c c2 B B2 a b hn hn2 hm hm2 w hR hR2
  obtain ⟨R, hRr⟩ : ∃ R, decide (a = b) = R := ⟨_, rfl⟩
  rw [hRr] at h ⊢
  clear hR hR2 hn hn2 hRr
  go_enter Try.func85, Try.ntmps85
  go_wp2_with (go_at_call 29; refine h.mono ?_; rintro e w' ⟨rfl, m, rfl⟩)
  go_ret
  exact ⟨rfl, m, rfl⟩
end Go.Proofs.Ytjmhefkmpfkpbaa
namespace Go.Proofs.Ytjmhefkmpfkpbaa
open Go.ChangeShapes Go.WideShapes Go.ChangeAt Go.RowKit
set_option linter.unusedSimpArgs false
set_option linter.unusedVariables false
abbrev Tm := Int × Int
def tz (l : List Tm) (i : Nat) : Tm := l.getD i (0, 0)
theorem tz_lt {l : List Tm} {i : Nat} (h : i < l.length) : l[i]? = some (tz l i) := by
  unfold tz
  rw [List.getD_eq_getElem?_getD, List.getElem?_eq_getElem h]; rfl
def vT (t : Tm) : List Value := [.int .i64 t.1, .int .i64 t.2]
def T2 (l : List Tm) : List Value := l.flatMap vT
theorem T2_len (l : List Tm) : (T2 l).length = l.length * 2 := by
  induction l with
  | nil => rfl
  | cons x r ih => rw [T2, List.flatMap_cons, List.length_append, show (r.flatMap vT).length = r.length * 2 from ih, List.length_cons]; simp [vT]; omega
theorem T2_app (a b : List Tm) : T2 (a ++ b) = T2 a ++ T2 b := List.flatMap_append ..
theorem T2_at : ∀ (l : List Tm) (i : Nat) (t : Tm), l[i]? = some t → (T2 l)[i * 2]? = some (.int .i64 t.1) ∧ (T2 l)[i * 2 + 1]? = some (.int .i64 t.2)
  | [], i, t, h => by simp at h
  | x :: r, 0, t, h => by
    injection h with h
    subst h
    exact ⟨rfl, rfl⟩
  | x :: r, i + 1, t, h => by
    have := T2_at r i t (by simpa using h)
    rw [show (i + 1) * 2 = i * 2 + 2 by omega]
    exact ⟨this.1, this.2⟩
/-- A row of timers. -/
def Tms (w : World) (B : Nat) (A : Option Addr) (n : Nat) (l : List Tm) : Prop := l.length = n ∧ Reads w B 2 A n (T2 l)
section
variable {w w' : World} {B B' n : Nat} {A : Option Addr} {l : List Tm}
theorem Tms.below (h : Tms w B A n l) (hb : Below B w w') : Tms w' B A n l := ⟨h.1, h.2.below hb⟩
theorem Tms.more (h : Tms w B A n l) (hB : B ≤ B') : Tms w B' A n l := ⟨h.1, h.2.more hB⟩
theorem Tms.none_ : Tms w B A 0 [] := ⟨rfl, Reads.none_⟩
theorem add_lit (a : Addr) {j : Nat} (h : 0 < j) : a.add j = ⟨a.block, a.off + j, none⟩ := by
  unfold Addr.add
  rw [if_neg (by omega)]
theorem Tms.at_ {i : Nat} (h : Tms w B A n l) (hi : i < n) : ∃ ad, A = some ad ∧ ad.block < B ∧ ∀ w', Below B w w' → w'.cell? (ad.add (i * 2)) = some (.int .i64 (tz l i).1) ∧ w'.cell? ⟨(ad.add (i * 2)).block, (ad.add (i * 2)).off + 1, none⟩ = some (.int .i64 (tz l i).2) := by
  obtain ⟨ad, e, hb, hc⟩ := h.2.2 (by omega)
  have ht := T2_at l i (tz l i) (tz_lt (by rw [h.1]; exact hi))
  have h0 := hc _ _ ht.1
  have h1 := hc _ _ ht.2
  rw [← add_of_add, add_lit _ (by omega)] at h1
  exact ⟨ad, e, hb, fun w' hw => ⟨(hw.cell (by rw [block_of_add]; exact hb)).trans h0, (hw.cell (by show (ad.add (i * 2)).block < B; rw [block_of_add]; exact hb)).trans h1⟩⟩
theorem Tms.of_own {base : Nat} {e : TypeId} {c : Nat} (h : w.ownsRow base e 2 (.slice A n c) n (T2 l)) (hl : l.length = n) : Tms w w.heap.size A n l := ⟨hl, Reads.of_own h⟩
end
/-- May a descriptor be? -/
def mayT (t : Tm) : Bool := decide (0 ≤ t.1) && decide (t.1 < 8) && decide (0 ≤ t.2) && decide (t.2 ≤ 2147483647)
set_option maxHeartbeats 4000000 in
theorem dmay (a b : Int) (w : World) (R : Bool) (hR : mayT (a, b) = R) : Calls Try.prog 78 #[.agg #[.int .i64 a, .int .i64 b]] w fun en w' => en = .returned (.bool R) ∧ Below w.heap.size w w' := by
  obtain ⟨q0, hq0⟩ : ∃ q, decide (0 ≤ a) = q := ⟨_, rfl⟩
  obtain ⟨q1, hq1⟩ : ∃ q, decide (a < 8) = q := ⟨_, rfl⟩
  obtain ⟨q2, hq2⟩ : ∃ q, decide (0 ≤ b) = q := ⟨_, rfl⟩
  obtain ⟨q3, hq3⟩ : ∃ q, decide (b ≤ 2147483647) = q := ⟨_, rfl⟩
  have hB := (Below.refl w.heap.size w).alloc (Nat.le_refl _) (.cells #[.int .i64 a, .int .i64 b] 73)
  unfold mayT at hR
  simp only [hq0, hq1, hq2, hq3] at hR
  subst hR
  cases q0 <;> cases q1 <;> cases q2 <;> cases q3
  all_goals
    go_enter Try.func78, Try.ntmps78
    go_wp2
    go_ret
    exact ⟨rfl, hB⟩
/-- May an edge be? -/
def mayE (h : Bool) (x y : Int) : Bool := if h then decide (-2147483647 ≤ x) && decide (x ≤ y) && decide (y ≤ 2147483647) else (x == 0 && y == 0)
set_option maxHeartbeats 4000000 in
theorem edge_any (h : Bool) (x y : Int) (w : World) (R : Bool) (hR : mayE h x y = R) : Calls Try.prog 43 #[.agg #[.bool h, .int .i64 x, .int .i64 y]] w fun en w' => en = .returned (.bool R) ∧ Below w.heap.size w w' := by
  obtain ⟨q0, hq0⟩ : ∃ q, decide (-2147483647 ≤ x) = q := ⟨_, rfl⟩
  obtain ⟨q1, hq1⟩ : ∃ q, decide (x ≤ y) = q := ⟨_, rfl⟩
  obtain ⟨q2, hq2⟩ : ∃ q, decide (y ≤ 2147483647) = q := ⟨_, rfl⟩
  obtain ⟨q3, hq3⟩ : ∃ q, (x == 0) = q := ⟨_, rfl⟩
  obtain ⟨q4, hq4⟩ : ∃ q, (y == 0) = q := ⟨_, rfl⟩
  have hB := (Below.refl w.heap.size w).alloc (Nat.le_refl _) (.cells #[.bool h, .int .i64 x, .int .i64 y] 29)
  unfold mayE at hR
  simp only [hq0, hq1, hq2, hq3, hq4] at hR
  subst hR
  cases h
  · clear hq0 hq1 hq2
    cases q3 <;> cases q4
    all_goals
      go_enter Try.func43, Try.ntmps43
      go_wp2
      go_ret
      exact ⟨rfl, hB⟩
  · clear hq3 hq4
    cases q0 <;> cases q1 <;> cases q2
    all_goals
      go_enter Try.func43, Try.ntmps43
      go_wp2
      go_ret
      exact ⟨rfl, hB⟩
end Go.Proofs.Ytjmhefkmpfkpbaa
namespace Go.Proofs.Ytjmhefkmpfkpbaa
open Go.ChangeShapes Go.WideShapes Go.ChangeAt Go.RowKit
set_option linter.unusedSimpArgs false
set_option linter.unusedVariables false
/-- All blocks but one stay. -/
def Only (g : Nat) (w w' : World) : Prop := Below 0 w w' ∧ ∀ b, b < w.heap.size → b ≠ g → w'.heap[b]? = w.heap[b]?
section
variable {w w' w'' : World} {g : Nat}
theorem Only.of_below (h : Below w.heap.size w w') : Only g w w' := ⟨h.mono (Nat.zero_le _), fun b hb _ => h.block b hb⟩
theorem Only.refl (g : Nat) (w : World) : Only g w w := ⟨Below.refl _ _, fun _ _ _ => rfl⟩
theorem Only.trans (h : Only g w w') (h2 : Only g w' w'') : Only g w w'' := ⟨h.1.trans h2.1, fun b hb h3 => (h2.2 b (Nat.lt_of_lt_of_le hb h.1.size) h3).trans (h.2 b hb h3)⟩
theorem Only.below (h : Only g w w') {B : Nat} (hB : B ≤ w.heap.size) (h1 : B ≤ g) : Below B w w' := ⟨h.1.os, h.1.tape, h.1.output, h.1.size, fun b hb => h.2 b (by omega) (by omega)⟩
theorem Only.blk (h : Only g w w') {k : Nat} {t : TypeId} {cs : Array Value} (hk : Blk w k t cs) (h1 : k ≠ g) : Blk w' k t cs := (h.2 k hk.lt h1).trans hk
theorem Only.set_ (w : World) (g i : Nat) (u : Value) : Only g w (w.setCell ⟨g, i, none⟩ u) :=
  ⟨(Below.refl 0 w).setCell (Nat.zero_le _) u, fun b _ h1 => Below.heap_setCell w ⟨g, i, none⟩ u b h1⟩
theorem Only.size (h : Only g w w') : w.heap.size ≤ w'.heap.size := h.1.size
end
/-- A text under way: its box, and its bytes. -/
def Txt (w : World) (g : Nat) (ps : List (Nat × Nat)) : Prop := ∃ A c, Blk w g 92 #[.slice A (total ps) c] ∧ w.ownsRow (g + 1) 5 1 (.slice A (total ps) c) (total ps) (u8s (flat ps))
theorem Txt.lt {w : World} {g : Nat} {ps : List (Nat × Nat)} (h : Txt w g ps) : g < w.heap.size := by
  obtain ⟨A, c, h1, _⟩ := h
  exact h1.lt
theorem Txt.below {w w' : World} {g : Nat} {ps : List (Nat × Nat)} (h : Txt w g ps) (hb : Below w.heap.size w w') : Txt w' g ps := by
  obtain ⟨A, c, h1, h2⟩ := h
  exact ⟨A, c, h1.below hb h1.lt, own_below h2 hb⟩
theorem Txt.new_ (w : World) : Txt (w.alloc (.cells #[.slice none 0 0] 92)) w.heap.size [] := ⟨none, 0, Blk.new w _ _, rfl, .inl ⟨rfl, rfl⟩⟩
theorem own_setT {w : World} {base size n : Nat} {e : TypeId} {v : Value} {xs : List Value} (h : w.ownsRow base e size v n xs) {p : Addr} (hp : p.block < base) (u : Value) : (w.setCell p u).ownsRow base e size v n xs := by
  refine ⟨h.1, ?_⟩
  rcases h.2 with hn | ⟨k, c, cur, rfl, hb, hh, r⟩
  · exact .inl hn
  · exact .inr ⟨k, c, cur, rfl, hb, (show Blk w k e cur from hh).far (by omega) u, r⟩
set_option maxHeartbeats 4000000 in
theorem tnum (g : Nat) (ps : List (Nat × Nat)) (x s : Nat) (hs : okN x s) (hx : x < 9223372036854775808) (hm : total ps + s ≤ 3900) (w : World) (h : Txt w g ps) : Calls Try.prog 53 #[.pointer (some ⟨g, 0, none⟩), .int .i64 (x : Int), .int .i64 (s : Int)] w fun en w' => en = .returned (.tuple #[]) ∧ Txt w' g (ps ++ [(x, s)]) ∧ Only g w w' := by
  have hg := h.lt
  obtain ⟨A, c, h1, h2⟩ := h
  have z0 : w.cell? ⟨g, 0, none⟩ = some (.slice A (total ps) c) := by rw [h1.cell]; rfl
  have hc := putn_any A (total ps) c (flat ps) (flat_len ps) (by omega) x s hs w (Reads.of_own h2)
  have hw : IntKind.u64.wrap (x : Int) = x := by simp [IntKind.wrap, IntKind.bits, IntKind.signed]; omega
  have gm := Lib.hid hm
  clear hm h2
  go_enter Try.func53, Try.ntmps53
  go_wp2_with fail
  (try rw [hw])
  refine hc.mono ?_
  rintro en w2 ⟨hb, ⟨hp, rfl⟩ | ⟨hp, A2, c2, rfl, ho⟩⟩
  · have := gm.out
    simp only [total] at hp
    omega
  have k2 := h1.below hb h1.lt
  have z1 := k2.cell 0
  simp only [List.getElem?_toArray, List.getElem?_cons_zero] at z1
  have f1 := k2.frozen 0
  have gho := Lib.hid ho
  have gb := Lib.hid hb
  have gk := Lib.hid k2
  clear hc z0 hp ho hb k2 h1
  go_wp2
  go_end0
  have k3 := gk.out.set_ 0 (.slice A2 (total ps + total [(x, s)]) c2)
  simp at k3
  exact ⟨rfl, ⟨A2, c2, by rw [total_app]; exact k3, by rw [total_app, flat_app]; exact own_setT (own_mono gho.out (by omega)) (p := ⟨g, 0, none⟩) (by show g < g + 1; omega) _⟩, (Only.of_below gb.out).trans (Only.set_ _ _ _ _)⟩
theorem tflag (g : Nat) (ps : List (Nat × Nat)) (b : Bool) (hm : total ps + 1 ≤ 3900) (w : World) (h : Txt w g ps) : Calls Try.prog 55 #[.pointer (some ⟨g, 0, none⟩), .bool b] w fun en w' => en = .returned (.tuple #[]) ∧ Txt w' g (ps ++ [((if b then 1 else 0), 1)]) ∧ Only g w w' := by
  have hc := tnum g ps (if b then 1 else 0) 1 ⟨by omega, by omega, by cases b <;> decide⟩ (by cases b <;> decide) hm w h
  clear h
  cases b
  all_goals
    go_enter Try.func55, Try.ntmps55
    go_wp2_with fail
    refine hc.mono ?_
    rintro en w2 ⟨rfl, h1, h2⟩
    have g1 := Lib.hid h1
    have g2 := Lib.hid h2
    clear hc h1 h2
    go_wp2
    go_end0
    exact ⟨rfl, g1.out, g2.out⟩
end Go.Proofs.Ytjmhefkmpfkpbaa
namespace Go.Proofs.Ytjmhefkmpfkpbaa
open Go.ChangeShapes Go.WideShapes Go.ChangeAt Go.RowKit
set_option linter.unusedSimpArgs false
set_option linter.unusedVariables false
theorem part_range {l : List Int} (hb : ∀ b ∈ l, 0 ≤ b ∧ b < 256) (k s : Nat) : 0 ≤ numI ((l.drop k).take s) ∧ numI ((l.drop k).take s) < ((256 ^ s : Nat) : Int) := by
  have hb2 : ∀ x ∈ l.drop k, 0 ≤ x ∧ x < 256 := fun x hx => hb x (List.mem_of_mem_drop hx)
  rcases Nat.le_or_ge s (l.drop k).length with h | h
  · exact numI_lt hb2 s h
  · rw [List.take_of_length_le h]
    have := numI_lt hb2 (l.drop k).length (Nat.le_refl _)
    rw [List.take_of_length_le (Nat.le_refl _)] at this
    have h2 : 256 ^ (l.drop k).length ≤ 256 ^ s := Nat.pow_le_pow_right (by omega) h
    omega
/-- A reader at a place; none: something was wrong. -/
def Rdb (w : World) (g : Nat) (A : Option Addr) (n c : Nat) : Option Nat → Prop
  | none => Blk w g 69 #[.slice none 0 0, .int .i64 0, .bool true]
  | some p => Blk w g 69 #[.slice A n c, .int .i64 (p : Int), .bool false]
section
variable {w w' : World} {g n c : Nat} {A : Option Addr} {st : Option Nat}
theorem Rdb.lt (h : Rdb w g A n c st) : g < w.heap.size := by
  cases st with
  | none => exact Blk.lt h
  | some p => exact Blk.lt h
theorem Rdb.below (h : Rdb w g A n c st) (hb : Below w.heap.size w w') : Rdb w' g A n c st := by
  cases st with
  | none => exact Blk.below h hb (Blk.lt h)
  | some p => exact Blk.below h hb (Blk.lt h)
theorem Rdb.far (h : Rdb w g A n c st) {q : Addr} (hq : g ≠ q.block) (u : Value) : Rdb (w.setCell q u) g A n c st := by
  cases st with
  | none => exact Blk.far h hq u
  | some p => exact Blk.far h hq u
theorem Rdb.keep (h : Rdb w g A n c st) (hk : w'.heap[g]? = w.heap[g]?) : Rdb w' g A n c st := by
  cases st with
  | none => exact hk.trans h
  | some p => exact hk.trans h
theorem Rdb.wrong (h : Rdb w g A n c st) : w.cell? ⟨g, 2, none⟩ = some (.bool st.isNone) := by
  cases st with
  | none => rw [Blk.cell (cs := #[.slice none 0 0, .int .i64 0, .bool true]) h]; rfl
  | some p => rw [Blk.cell (cs := #[.slice A n c, .int .i64 (p : Int), .bool false]) h]; rfl
end
/-- The next number, and what is left. -/
def rN (l : List Int) (st : Option Nat) (s : Nat) : Option Nat × Int :=
  match st with
  | none => (none, 0)
  | some p => if p + s ≤ l.length then (some (p + s), numI ((l.drop p).take s)) else (none, 0)
theorem rN_le {l : List Int} {st : Option Nat} {s : Nat} : ∀ p, (rN l st s).1 = some p → p ≤ l.length := fun p h => by
  unfold rN at h
  cases st with
  | none => simp at h
  | some q =>
    simp only at h
    split at h
    · simp at h; omega
    · simp at h
theorem rN_range {l : List Int} (hb : ∀ b ∈ l, 0 ≤ b ∧ b < 256) (st : Option Nat) (s : Nat) : 0 ≤ (rN l st s).2 ∧ (rN l st s).2 < ((256 ^ s : Nat) : Int) := by
  have hp : 0 < 256 ^ s := Nat.pow_pos (by omega)
  unfold rN
  cases st with
  | none => exact ⟨Int.le_refl _, by simp only; omega⟩
  | some q =>
    simp only
    split
    · exact part_range hb q s
    · exact ⟨Int.le_refl _, by simp only; omega⟩
set_option maxRecDepth 100000 in
set_option maxHeartbeats 8000000 in
theorem rnum_some (g : Nat) (A : Option Addr) (n c p : Nat) (N E : Int) (R : Value) (A2 : Option Addr) (n2 c2 : Nat) (p2 : Int) (hR : R = .agg #[.slice A2 n2 c2, .int .i64 p2]) (W2 : Bool) (hW2 : (E != 0) = W2) (s : Int) (hN : IntKind.i64.wrap N = N) (w : World) (hk : Blk w g 69 #[.slice A n c, .int .i64 (p : Int), .bool false])
    (hc : Calls Try.prog 67 #[.agg #[.slice A n c, .int .i64 (p : Int)], .int .i64 s] w fun en w' => en = .returned (.tuple #[R, .int .u64 N, .int .i64 E]) ∧ Below w.heap.size w w') :
    Calls Try.prog 33 #[.pointer (some ⟨g, 0, none⟩), .int .i64 s] w fun en w' => en = .returned (.int .i64 N) ∧ Blk w' g 69 #[.slice A2 n2 c2, .int .i64 p2, .bool W2] ∧ Only g w w' := by
  subst hR
  have a0 := hk.cell 0
  have a1 := hk.cell 1
  have a2 := hk.cell 2
  simp only [lgA, lgZ, lgS] at a0 a1 a2
  have hlt := hk.lt
  go_enter Try.func33, Try.ntmps33
  go_wp2_with fail
  refine hc.mono ?_
  rintro en w1 ⟨rfl, hb1⟩
  obtain ⟨U, hU⟩ : ∃ U, U = w1.alloc (.cells #[.slice A2 n2 c2, .int .i64 p2] 67) := ⟨_, rfl⟩
  have hbU : Below w1.heap.size w1 U := by rw [hU]; exact (Below.refl _ _).alloc (Nat.le_refl _) _
  have ku : Blk U w1.heap.size 67 #[.slice A2 n2 c2, .int .i64 p2] := by rw [hU]; exact Blk.new _ _ _
  have k1 := (hk.below hb1 hk.lt).below hbU (Nat.lt_of_lt_of_le hk.lt hb1.size)
  have s1 := hb1.size
  go_upto_region 4 with (fail)
  rw [← hU]
  have b0 := k1.cell 0
  have b1 := k1.cell 1
  have b2 := k1.cell 2
  have bf0 := k1.frozen 0
  have bf1 := k1.frozen 1
  have bf2 := k1.frozen 2
  have u0 := ku.cell 0
  have u1 := ku.cell 1
  simp only [lgA, lgZ, lgS] at b0 b1 b2 u0 u1
  have gO := Lib.hid ((Only.of_below (g := g) hb1).trans (Only.of_below hbU))
  have gk := Lib.hid k1
  clear hU hbU ku k1 hc hb1 a0 a1 a2 hk
  go_wp2
  go_ret
  have k3 := ((gk.out.set_ 0 (.slice A2 n2 c2)).set_ 1 (.int .i64 p2)).set_ 2 (.bool W2)
  simp at k3
  exact ⟨rfl, k3, ((gO.out.trans (Only.set_ _ _ _ _)).trans (Only.set_ _ _ _ _)).trans (Only.set_ _ _ _ _)⟩
set_option maxHeartbeats 4000000 in
theorem rnum_none (g : Nat) (s : Int) (w : World) (hk : Blk w g 69 #[.slice none 0 0, .int .i64 0, .bool true]) :
    Calls Try.prog 33 #[.pointer (some ⟨g, 0, none⟩), .int .i64 s] w fun en w' => en = .returned (.int .i64 0) ∧ w' = w := by
  have a2 := hk.cell 2
  simp only [lgA, lgZ, lgS] at a2
  go_enter Try.func33, Try.ntmps33
  go_wp2
  go_ret
  exact ⟨rfl, rfl⟩
theorem rnum_any (g : Nat) (A : Option Addr) (n c : Nat) (l : List Int) (hn : l.length = n) (hb : ∀ b ∈ l, 0 ≤ b ∧ b < 256) (hm : n ≤ 100000) (hnc : n ≤ c) (s : Nat) (j : Int) (hj : j = (s : Int)) (h1 : 1 ≤ s) (h4 : s ≤ 4) (st : Option Nat) (hst : ∀ p, st = some p → p ≤ n) (w : World) (hk : Rdb w g A n c st) (hR : Reads w w.heap.size 1 A n (u8s l)) :
    Calls Try.prog 33 #[.pointer (some ⟨g, 0, none⟩), .int .i64 j] w fun en w' => en = .returned (.int .i64 (rN l st s).2) ∧ Rdb w' g A n c (rN l st s).1 ∧ Only g w w' := by
  subst hj
  cases st with
  | none =>
    refine (rnum_none g s w hk).mono ?_
    rintro en w' ⟨rfl, rfl⟩
    exact ⟨rfl, hk, Only.refl _ _⟩
  | some p =>
    have hp := hst p rfl
    by_cases hs : p + s ≤ n
    · have e : rN l (some p) s = (some (p + s), numI ((l.drop p).take s)) := by unfold rN; rw [hn]; exact if_pos hs
      rw [e]
      have hr := part_range hb p s
      have h8 : (256 ^ s : Nat) ≤ 256 ^ 4 := Nat.pow_le_pow_right (by omega) h4
      exact rnum_some g A n c p _ 0 _ A n c ((p + s : Nat) : Int) rfl false rfl s (IntWalk.i64_in _ (by omega)) w hk (num_ok A n c l hn hb hm hnc p s h1 (by omega) hs w hR)
    · have e : rN l (some p) s = (none, 0) := by unfold rN; rw [hn]; exact if_neg hs
      rw [e]
      exact rnum_some g A n c p 0 40 _ none 0 0 0 rfl true rfl s rfl w hk (num_short A n c hm p s h1 (by omega) hp (by omega) w)
end Go.Proofs.Ytjmhefkmpfkpbaa
