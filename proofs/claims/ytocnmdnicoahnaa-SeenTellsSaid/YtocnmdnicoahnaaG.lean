/- Seen: the contract of Put. -/
import Derived.Test.YtocnmdnicoahnaaF
import Derived.Lib.Hide
namespace Go.Proofs.Ytocnmdnicoahnaa
open Go.ChangeShapes Go.WideShapes Go.ChangeAt Go.RowKit
set_option linter.unusedSimpArgs false
set_option linter.unusedVariables false
theorem insert_any (v : Value) (n : Nat) (l : List Int) (hn : l.length = n) (hm : n ≤ 5000) (i : Nat) (hi : i ≤ n) (x : Int) (base : Nat) (W : World) (ho : W.ownsRow base 3 1 v n (ints l)) (hb : base ≤ W.heap.size) :
    Calls Try.prog 23 #[v, .int .i64 (i : Int), .slice (some ⟨W.heap.size, 0, none⟩) 1 1] (W.alloc (.cells #[.int .i64 x] 3)) fun e w' => ∃ A c, e = .returned (.slice A (n + 1) c) ∧ n + 1 ≤ c ∧ Reads w' w'.heap.size 1 A (n + 1) (ints (ins l i x)) ∧ Below base W w' ∧ Row base w' A (n + 1) := by
  have hV := Blk.new W 3 #[.int .i64 x]
  have hBW : Below base W (W.alloc (.cells #[.int .i64 x] 3)) := (Below.refl _ _).alloc hb _
  have hb2 : base ≤ (W.alloc (.cells #[.int .i64 x] 3)).heap.size := Nat.le_trans hb hBW.size
  have fin : ∀ {e : Ending} {w' : World}, (∃ A c, e = .returned (.slice A (n + 1) c) ∧ n + 1 ≤ c ∧ Reads w' w'.heap.size 1 A (n + 1) (ints (ins l i x)) ∧ Below base (W.alloc (.cells #[.int .i64 x] 3)) w' ∧ Row base w' A (n + 1)) → ∃ A c, e = .returned (.slice A (n + 1) c) ∧ n + 1 ≤ c ∧ Reads w' w'.heap.size 1 A (n + 1) (ints (ins l i x)) ∧ Below base W w' ∧ Row base w' A (n + 1) := fun ⟨A, c, h1, h2, h3, h4, h5⟩ => ⟨A, c, h1, h2, h3, hBW.trans h4, h5⟩
  rcases ho.2 with ⟨rfl, rfl⟩ | ⟨g, c, cur, rfl, hg, hh, hnc, hcm, hcs, htake⟩
  · obtain rfl : i = 0 := by omega
    exact (insert_end_grow none 0 0 l hn (by omega) (by omega) (by omega) x _ W.heap.size (hV.cell 0) (fun _ => rfl) (fun a h => by cases h) base hb2).mono fun e w' h => fin h
  · have hB0 : Blk W g 3 cur := hh
    have hB := hB0.alloc (.cells #[.int .i64 x] 3)
    have hgl := hB0.lt
    rw [Nat.mul_one] at hcs htake
    rcases Nat.lt_or_ge i n with h1 | h1
    · rcases Nat.lt_or_ge c (n + 1) with h2 | h2
      · exact (insert_grow g n c i h1 cur l hn hm hnc h2 hcs htake x _ hB W.heap.size (hV.cell 0) base hb2).mono fun e w' h => fin h
      · exact (insert_shift g n c i h1 cur l hn hcm h2 hcs htake x _ hB W.heap.size hV (by omega) base hg).mono fun e w' h => fin h
    · obtain rfl : i = n := by omega
      rcases Nat.lt_or_ge c (i + 1) with h2 | h2
      · refine (insert_end_grow (some ⟨g, 0, none⟩) i c l hn hm hnc h2 x _ W.heap.size (hV.cell 0) (fun h => by cases h) (fun a ha j u hu => ?_) base hb2).mono fun e w' h => fin h
        injection ha with ha
        subst ha
        have hj : j < l.length := by
          rcases Nat.lt_or_ge j l.length with h | h
          · exact h
          · rw [List.getElem?_eq_none (by simpa using h)] at hu; cases hu
        rw [Addr.add_lit, Nat.zero_add, hB.cell j, ← hu, ← htake, List.getElem?_take_of_lt (by omega)]
        simp
      · exact (insert_end_room g i c cur l hn hcm h2 hcs htake x _ hB W.heap.size (hV.cell 0) base hg).mono fun e w' h => fin h
set_option maxHeartbeats 2000000 in
theorem put_err (A : Option Addr) (n c : Nat) (l : List Int) (hn : l.length = n) (t e : Int) (h : askE l t = e) (he : (e != 0) = true) (w : World) (hR : Reads w w.heap.size 1 A n (ints l)) :
    Calls Try.prog 12 #[.slice A n c, .int .i64 t] w fun en w' => en = .returned (.tuple #[.slice none 0 0, .int .i64 e]) ∧ Below w.heap.size w w' := by
  go_enter Try.func12, Try.ntmps12
  go_wp2_with fail
  refine (below_no A n c l hn t e h he _ hR).mono ?_
  rintro en w1 ⟨rfl, hb⟩
  clear hR h
  go_wp2
  go_ret2
  exact ⟨rfl, hb⟩
set_option maxHeartbeats 2000000 in
theorem put_again (A : Option Addr) (n c : Nat) (l : List Int) (hn : l.length = n) (t : Int) (h : askE l t = 0) (hin : t ∈ l) (w : World) (hR : Reads w w.heap.size 1 A n (ints l)) :
    Calls Try.prog 12 #[.slice A n c, .int .i64 t] w fun en w' => en = .returned (.tuple #[.slice none 0 0, .int .i64 12]) ∧ Below w.heap.size w w' := by
  obtain ⟨h0, _, _⟩ := ask_zero h
  obtain ⟨hm, hg⟩ := chk_zero h0
  go_enter Try.func12, Try.ntmps12
  go_wp2_with fail
  refine (below_yes A n c l hn t h _ hR).mono ?_
  rintro en w1 ⟨k, hk, rfl, hb⟩
  have hin2 := (below_has hg hk).mp hin
  rw [hn] at hin2
  obtain ⟨h1, h2⟩ := hin2
  obtain ⟨ad, rfl, hab, cA⟩ := reads_at hn (hR.below hb) h1
  have i1 : (0 : Int) ≤ k := by omega
  have i2 : (k : Int) < n := by omega
  have i3 : decide ((k : Int) < n) = true := decide_eq_true i2
  have d : (l.getD k 0 == t) = true := by simpa using h2
  generalize l.getD k 0 = x at *
  clear hin hk hg h hR h2
  go_wp2
  go_ret2
  exact ⟨rfl, hb⟩
set_option maxHeartbeats 4000000 in
theorem put_full (A : Option Addr) (n c : Nat) (l : List Int) (hn : l.length = n) (t : Int) (h : askE l t = 0) (hin : t ∉ l) (hf : n = 4096) (w : World) (hR : Reads w w.heap.size 1 A n (ints l)) :
    Calls Try.prog 12 #[.slice A n c, .int .i64 t] w fun en w' => en = .returned (.tuple #[.slice none 0 0, .int .i64 9]) ∧ Below w.heap.size w w' := by
  obtain ⟨h0, _, _⟩ := ask_zero h
  obtain ⟨hm, hg⟩ := chk_zero h0
  rw [hn] at hm
  have d9 : ((n : Int) == 4096) = true := by simp; omega
  clear hf
  go_enter Try.func12, Try.ntmps12
  go_wp2_with fail
  refine (below_yes A n c l hn t h _ hR).mono ?_
  rintro en w1 ⟨k, hk, rfl, hb⟩
  have hno := fun hh => hin ((below_has hg hk).mpr hh)
  have hR1 := hR.below hb
  have hkn := hk.1
  rw [hn] at hno hkn
  by_cases h1 : k < n
  · obtain ⟨ad, rfl, hab, cA⟩ := reads_at hn hR1 h1
    have i1 : (0 : Int) ≤ k := by omega
    have i2 : (k : Int) < n := by omega
    have i3 : decide ((k : Int) < n) = true := decide_eq_true i2
    have d : (l.getD k 0 == t) = false := by
      have h2 : l.getD k 0 ≠ t := fun hh => hno ⟨h1, hh⟩
      simpa using h2
    have HK := Lib.hid hk
    generalize l.getD k 0 = x at *
    clear hin hk hg h hno
    clear hR hR1
    go_wp2
    go_ret2
    exact ⟨rfl, hb⟩
  · have i3 : decide ((k : Int) < n) = false := by simp; omega
    have HK := Lib.hid hk
    clear hin hk hg h hno
    clear hR hR1
    go_wp2
    go_ret2
    exact ⟨rfl, hb⟩
set_option maxHeartbeats 4000000 in
theorem put_row (A : Option Addr) (n c : Nat) (l : List Int) (hn : l.length = n) (t : Int) (h : askE l t = 0) (hin : t ∉ l) (hf : n < 4096) (w : World) (hR : Reads w w.heap.size 1 A n (ints l)) :
    Calls Try.prog 12 #[.slice A n c, .int .i64 t] w fun en w' => ∃ k A' c', IsBelow l t k ∧ en = .returned (.tuple #[.slice A' (n + 1) c', .int .i64 0]) ∧ n + 1 ≤ c' ∧ Reads w' w'.heap.size 1 A' (n + 1) (ints (ins l k t)) ∧ Below w.heap.size w w' ∧ Row w.heap.size w' A' (n + 1) := by
  obtain ⟨h0, _, _⟩ := ask_zero h
  obtain ⟨hm, hg⟩ := chk_zero h0
  rw [hn] at hm
  have d9 : ((n : Int) == 4096) = false := by simp; omega
  go_enter Try.func12, Try.ntmps12
  go_wp2_with fail
  refine (below_yes A n c l hn t h _ hR).mono ?_
  rintro en w1 ⟨k, hk, rfl, hb⟩
  have hno := fun hh => hin ((below_has hg hk).mpr hh)
  have hR1 := hR.below hb
  have hkn := hk.1
  rw [hn] at hno hkn
  by_cases h1 : k < n
  · obtain ⟨ad, rfl, hab, cA⟩ := reads_at hn hR1 h1
    have i1 : (0 : Int) ≤ k := by omega
    have i2 : (k : Int) < n := by omega
    have i3 : decide ((k : Int) < n) = true := decide_eq_true i2
    have d : (l.getD k 0 == t) = false := by
      have h2 : l.getD k 0 ≠ t := fun hh => hno ⟨h1, hh⟩
      simpa using h2
    have HK := Lib.hid hk
    generalize l.getD k 0 = x at *
    clear hin hk hg h hno
    go_wp2_with fail
    refine (clone_any _ n c l hn (by omega) w1 (hR1.more hb.size)).mono ?_
    rintro en w2 ⟨v, rfl, ho, hb2⟩
    have hB2 := hb.trans (hb2.mono hb.size)
    go_wp2_with fail
    refine (insert_any v n l hn (by omega) k hkn t w1.heap.size w2 ho hb2.size).mono ?_
    rintro en w3 ⟨A3, c3, rfl, hc3, hR3, hb3, hw3⟩
    have hw3 := hw3.mono hb.size
    have hB3 := hB2.trans (hb3.mono hb.size)
    clear hR hR1 ho hb2 hb3
    go_wp2
    go_ret2
    exact ⟨k, A3, c3, HK.out, rfl, hc3, hR3, hB3, hw3⟩
  · have i3 : decide ((k : Int) < n) = false := by simp; omega
    have HK := Lib.hid hk
    clear hin hk hg h hno
    go_wp2_with fail
    refine (clone_any _ n c l hn (by omega) w1 (hR1.more hb.size)).mono ?_
    rintro en w2 ⟨v, rfl, ho, hb2⟩
    have hB2 := hb.trans (hb2.mono hb.size)
    go_wp2_with fail
    refine (insert_any v n l hn (by omega) k hkn t w1.heap.size w2 ho hb2.size).mono ?_
    rintro en w3 ⟨A3, c3, rfl, hc3, hR3, hb3, hw3⟩
    have hw3 := hw3.mono hb.size
    have hB3 := hB2.trans (hb3.mono hb.size)
    clear hR hR1 ho hb2 hb3
    go_wp2
    go_ret2
    exact ⟨k, A3, c3, HK.out, rfl, hc3, hR3, hB3, hw3⟩
theorem put_yes (A : Option Addr) (n c : Nat) (l : List Int) (hn : l.length = n) (t : Int) (h : askE l t = 0) (hin : t ∉ l) (hf : n < 4096) (w : World) (hR : Reads w w.heap.size 1 A n (ints l)) :
    Calls Try.prog 12 #[.slice A n c, .int .i64 t] w fun en w' => ∃ k A' c', IsBelow l t k ∧ en = .returned (.tuple #[.slice A' (n + 1) c', .int .i64 0]) ∧ n + 1 ≤ c' ∧ Reads w' w'.heap.size 1 A' (n + 1) (ints (ins l k t)) ∧ Below w.heap.size w w' :=
  (put_row A n c l hn t h hin hf w hR).mono fun _ _ ⟨k, A', c', h1, h2, h3, h4, h5, _⟩ => ⟨k, A', c', h1, h2, h3, h4, h5⟩
end Go.Proofs.Ytocnmdnicoahnaa
