/- Door: (*dyad.sum).at -/
import Derived.Test.YtdmjdpaehnhdoaaDoorDAC
import Derived.Laws.BitsAllLaws
namespace Go.Proofs.YtdmjdpaehnhdoaaDoor
open Go.ChangeShapes Go.WideShapes Go.ChangeAt Go.RowKit
set_option linter.unusedSimpArgs false
set_option linter.unusedVariables false
theorem at1_any (g gb : Nat) (sn : Bool) (e : Int) (a : List Nat) (hn : a.length = 74) (w : World) (k : Blk w g 128 (sumC sn e a)) (kb : Blk w gb 104 #[.pointer (some ⟨g, 0, none⟩)]) (n : Nat) (v : Nat) (hvl : v < 4294967296) (hv : a.getD n 0 = v) :
    Calls Tryd.prog 118 #[.int .i64 (n : Int), .pointer (some ⟨gb, 0, none⟩)] w fun en w' => en = .returned (.int .u64 (v : Int)) ∧ w = w' := by
  have hwv : IntKind.u64.wrap (v : Int) = (v : Int) := IntWalk.u64_in _ (by omega)
  have c0 : w.cell? ⟨gb, 0, none⟩ = some (.pointer (some ⟨g, 0, none⟩)) := by rw [kb.cell]; rfl
  rcases Nat.lt_or_ge n 74 with h | h
  · have cn : w.cell? ⟨g, 3 + n, none⟩ = some (.int .u32 (v : Int)) := by rw [k.cell, sum_at sn e (by omega), hv]
    have i1 : (0 : Int) ≤ n := by omega
    have i2 : (n : Int) < 74 := by omega
    have t1 : decide ((n : Int) < 74) = true := decide_eq_true i2
    have t2 : decide (n < 74) = true := decide_eq_true h
    clear k kb hn hv
    go_enter Tryd.func118, Tryd.ntmps118
    go_wp2
    go_ret
    exact ⟨rfl, rfl⟩
  · have t1 : decide ((n : Int) < 74) = false := decide_eq_false (by omega)
    have t2 : decide (n < 74) = false := decide_eq_false (by omega)
    have hv0 : v = 0 := by rw [← hv, List.getD_eq_getElem?_getD, List.getElem?_eq_none (by omega)]; rfl
    subst hv0
    clear k kb hn hv
    go_enter Tryd.func118, Tryd.ntmps118
    go_wp2
    go_ret
    exact ⟨rfl, rfl⟩
set_option maxHeartbeats 2000000 in
theorem at_any (g : Nat) (sn : Bool) (e : Int) (a : List Nat) (hn : a.length = 74) (ha : ∀ x ∈ a, x < 4294967296) (w : World) (k : Blk w g 128 (sumC sn e a)) (i t : Nat) (hi : i ≤ 1000) (ht : t ≤ 10000) (s : Nat) (hs : shr1 (a.getD (i + t / 32) 0) (a.getD (i + t / 32 + 1) 0) (t % 32) = s) :
    Calls Tryd.prog 105 #[.pointer (some ⟨g, 0, none⟩), .int .i64 (i : Int), .int .i64 (t : Int)] w fun en w' => en = .returned (.int .u32 (s : Int)) ∧ Below w.heap.size w w' := by
  obtain ⟨q, hq⟩ : ∃ q, t / 32 = q := ⟨_, rfl⟩
  obtain ⟨r, hr⟩ : ∃ r, t % 32 = r := ⟨_, rfl⟩
  have hqI2 : (t : Int).tdiv 32 = (q : Int) := by rw [Int.tdiv_eq_ediv_of_nonneg (by omega)]; omega
  have hrI2 : (t : Int).tmod 32 = (r : Int) := by rw [Int.tmod_eq_emod_of_nonneg (by omega)]; omega
  have hqI : (t : Int) / 32 = (q : Int) := by omega
  have hrI : (t : Int) % 32 = (r : Int) := by omega
  have hr32 : r < 32 := by omega
  have hq4 : q ≤ 1000 := by omega
  rw [hq, hr] at hs
  obtain ⟨V, hV⟩ : ∃ V, V = w.alloc (.cells #[.pointer (some ⟨g, 0, none⟩)] 104) := ⟨_, rfl⟩
  have hB : Below w.heap.size w V := by rw [hV]; exact (Below.refl _ _).alloc (Nat.le_refl _) _
  have kb : Blk V w.heap.size 104 #[.pointer (some ⟨g, 0, none⟩)] := by rw [hV]; exact Blk.new w _ _
  have k0 : Blk V g 128 (sumC sn e a) := by rw [hV]; exact k.alloc _
  obtain ⟨x, hx⟩ : ∃ x, a.getD (i + q) 0 = x := ⟨_, rfl⟩
  obtain ⟨y, hy⟩ : ∃ y, a.getD (i + q + 1) 0 = y := ⟨_, rfl⟩
  have xa := getD_lt (B := 4294967296) (by omega) ha (i + q)
  have xb := getD_lt (B := 4294967296) (by omega) ha (i + q + 1)
  rw [hx] at xa
  rw [hy] at xb
  rw [hx, hy] at hs
  have c1 := at1_any g w.heap.size sn e a hn V k0 kb (i + q + 1) y xb hy
  have c2 := at1_any g w.heap.size sn e a hn V k0 kb (i + q) x xa hx
  simp only [Int.natCast_add, Int.natCast_one] at c1 c2
  have o1 : bits BinOp.or .u64 ((y : Int) * 4294967296) (x : Int) = ((y * 4294967296 + x : Nat) : Int) := by
    have h1 := u64_or_nat (y * 4294967296) x (by omega) (by omega)
    have h2 : y * 4294967296 ||| x = y * 4294967296 + x := by
      have := (Nat.two_pow_add_eq_or_of_lt (i := 32) xa y).symm
      rw [Nat.mul_comm] at this
      exact this
    rw [h2] at h1
    rw [← h1, show ((y * 4294967296 : Nat) : Int) = (y : Int) * 4294967296 by omega]
  obtain ⟨S, hS⟩ : ∃ S, y * 4294967296 + x = S := ⟨_, rfl⟩
  rw [hS] at o1
  have hsr := shr1_run (x := x) (y := y) xa hr32
  rw [hs, hS] at hsr
  have o2 : (S : Int) / 2 ^ r % 4294967296 = (s : Int) := by
    have h1 : (2 : Int) ^ r = ((2 ^ r : Nat) : Int) := by push_cast; rfl
    rw [← hsr, h1]
    omega
  have hmf : ∀ (fn : Fn) (first cap : Array Value) (w : World), (Instr.makeFunc fn first cap).run Tryd.prog w = .ok (.func fn first cap) w := fun _ _ _ _ => rfl
  clear k k0 kb hx hy ha hn hq hr hs
  go_enter Tryd.func105, Tryd.ntmps105
  go_wp2_with fail
  rw [← hV]
  clear hV
  refine c1.mono ?_
  rintro en w1 ⟨rfl, rfl⟩
  clear c1
  go_wp2_with fail
  refine c2.mono ?_
  rintro en w1 ⟨rfl, rfl⟩
  clear c2
  go_wp2
  go_ret
  exact ⟨by show Ending.returned (.int .u32 ((S : Int) / 2 ^ r % 4294967296)) = _; rw [o2], hB⟩
end Go.Proofs.YtdmjdpaehnhdoaaDoor
