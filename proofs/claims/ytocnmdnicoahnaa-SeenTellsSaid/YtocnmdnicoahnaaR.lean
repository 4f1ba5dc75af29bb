/- Seen: the reference's functions: the same functions of lists. -/
import Derived.Test.YtocnmdnicoahnaaKeepsP
import Derived.Test.YtocnmdnicoahnaaKit5
import Derived.BigRegion
namespace Go.Proofs.Ytocnmdnicoahnaa
open Go.ChangeShapes Go.WideShapes Go.ChangeAt Go.RowKit
set_option linter.unusedSimpArgs false
set_option linter.unusedVariables false
def mayB (t : Int) : Bool := decide (0 ≤ t ∧ t ≤ 1048575)
set_option maxHeartbeats 1000000 in
theorem rmay (t : Int) (w : World) : Calls Try.prog 25 #[.int .i64 t] w fun en w' => en = .returned (.bool (mayB t)) ∧ w = w' := by
  have hc : 0 ≤ t ∨ ¬ 0 ≤ t := by omega
  have hd : t ≤ 1048575 ∨ ¬ t ≤ 1048575 := by omega
  rcases hc with h1 | h1 <;> rcases hd with h2 | h2
  all_goals
    have d1 : decide (0 ≤ t) = decide (0 ≤ t) := rfl
    have d2 : decide (t ≤ 1048575) = decide (t ≤ 1048575) := rfl
    try rw (occs := .pos [2]) [decide_eq_true h1] at d1
    try rw (occs := .pos [2]) [decide_eq_false h1] at d1
    try rw (occs := .pos [2]) [decide_eq_true h2] at d2
    try rw (occs := .pos [2]) [decide_eq_false h2] at d2
    go_enter Try.func25, Try.ntmps25
    go_wp2
    go_ret
    exact ⟨ret_bool (by unfold mayB; first | exact (decide_eq_true (by omega)).symm | exact (decide_eq_false (by omega)).symm), rfl⟩
theorem prev_ge {l : List Int} {k : Nat} (h : Good l k) : -1 ≤ prev l k := by
  cases k with
  | zero => simp [prev]
  | succ j =>
    rw [prev_succ]
    have h1 := good_ge (l := l) (n := j + 1) (i := j) h (Nat.lt_succ_self _)
    omega
set_option maxHeartbeats 4000000 in
theorem rcheck_any (A : Option Addr) (n c B : Nat) (l : List Int) (hn : l.length = n) (w : World) (hR : Reads w B 1 A n (ints l)) :
    Calls Try.prog 20 #[.slice A n c] w fun en w' => en = .returned (.int .i64 (chkL l)) ∧ ∃ m, w' = w.drewN m := by
  by_cases hm : 4096 < n
  · have d : decide ((4096 : Int) < n) = true := by simp; omega
    have hc : chkL l = 4 := by unfold chkL; rw [if_pos (by omega)]
    rw [hc]
    clear hR hn
    go_enter Try.func20, Try.ntmps20
    go_wp2
    go_ret
    exact ⟨rfl, 0, rfl⟩
  · have d : decide ((4096 : Int) < n) = false := by simp; omega
    have hc : chkL l = if Good l n then 0 else 8 := by unfold chkL; rw [hn, if_neg hm]
    obtain ⟨r, hres⟩ : ∃ r, (if Good l n then (0 : Int) else 8) = r := ⟨_, rfl⟩
    rw [hc, hres]
    clear hc
    go_enter Try.func20, Try.ntmps20
    go_wp2
    go_loopw [3] (fun i wr => ∃ k m : Nat, k ≤ n ∧ i = .int .i64 k ∧ wr = w.drewN m ∧ Good l k) (fun i wr => n - (intOf i).toNat)
    case atStart => exact ⟨0, 0, by omega, rfl, rfl, fun j hj => by omega⟩
    case round =>
      obtain ⟨k, m, hk, rfl, hwr, hg⟩ := hrel
      by_cases hlt : k < n
      · obtain ⟨ad, rfl, hab, cA⟩ := reads_at hn hR hlt
        have hgm := good_more hg
        have hpg := prev_ge hg
        have hbad : (l.getD k 0 ≤ prev l k ∨ 1048575 < l.getD k 0) → ¬ Good l n := fun h hG => by
          have := hG k hlt
          omega
        have i1 : (0 : Int) ≤ k := by omega
        have i2 : (k : Int) < n := by omega
        rcases Nat.eq_zero_or_pos k with h0 | h0
        · subst h0
          obtain ⟨x, hx⟩ : ∃ x, l.getD 0 0 = x := ⟨_, rfl⟩
          rw [hx] at cA
          rw [Addr.add_zero'] at cA
          have cA : wr.cell? ad = some (.int .i64 x) := by rw [hwr]; exact cA
          have i1 : (0 : Int) ≤ 0 := by omega
          have i2 : (0 : Int) < n := by omega
          rw [hx] at hbad hgm
          have d0 : decide ((0 : Int) < ((0 : Nat) : Int)) = false := rfl
          rw [show prev l 0 = -1 from rfl] at hgm hbad
          clear hR
          have HW := Lib.hid hwr
          clear hwr
          by_cases h1 : mayB x = true
          · have hr : ∀ w, Calls Try.prog 25 #[.int .i64 x] w fun en w' => en = .returned (.bool true) ∧ w' = w := fun w => (h1 ▸ rmay x w : Calls Try.prog 25 #[.int .i64 x] w fun en w' => en = .returned (.bool true) ∧ w = w').mono fun _ _ h => ⟨h.1, h.2.symm⟩
            have h1 := of_decide_eq_true h1
            have hg2 := hgm (by omega) (by omega)
            clear hbad hgm hg hx h1
            have HR := Lib.hid hres
            clear hres
            go_wp2_with fail
            go_quiet ((go_at_call 25; exact Calls.quiet_of_same (hr _)))
            go_wp2
            go_roundw
            case rel => exact ⟨1, _, by omega, by go_num, by rw [HW.out, World.drewN_drewN], hg2⟩
            case measure => simp [intOf]; omega
          · have hr : ∀ w, Calls Try.prog 25 #[.int .i64 x] w fun en w' => en = .returned (.bool false) ∧ w' = w := fun w => ((Bool.not_eq_true _ ▸ h1 : mayB x = false) ▸ rmay x w : Calls Try.prog 25 #[.int .i64 x] w fun en w' => en = .returned (.bool false) ∧ w = w').mono fun _ _ h => ⟨h.1, h.2.symm⟩
            have h1 := of_decide_eq_false (Bool.not_eq_true _ ▸ h1)
            have hno := hbad (by omega)
            obtain rfl : r = 8 := hres.symm.trans (if_neg hno)
            clear hbad hgm hg hx h1 hno hres
            go_wp2_with fail
            go_quiet ((go_at_call 25; exact Calls.quiet_of_same (hr _)))
            go_wp2
            go_ret
            exact ⟨rfl, _, by rw [HW.out, World.drewN_drewN]⟩
        · obtain ⟨j, hj⟩ : ∃ j, k = j + 1 := ⟨k - 1, by omega⟩
          obtain ⟨ad', hA', _, cB⟩ := reads_at hn hR (show j < n by omega)
          injection hA' with hA'
          subst hA'
          have hp : prev l k = l.getD j 0 := by rw [hj, prev_succ]
          obtain ⟨x, hx⟩ : ∃ x, l.getD k 0 = x := ⟨_, rfl⟩
          obtain ⟨y, hy⟩ : ∃ y, prev l k = y := ⟨_, rfl⟩
          rw [← hp, hy] at cB
          rw [hx] at cA
          have cA : wr.cell? (ad.add k) = some (.int .i64 x) := by rw [hwr]; exact cA
          have cB : wr.cell? (ad.add j) = some (.int .i64 y) := by rw [hwr]; exact cB
          rw [hx, hy] at hbad hgm
          rw [hy] at hpg
          have d0 : decide ((0 : Int) < (k : Int)) = true := decide_eq_true (by omega)
          have w0 : IntKind.i64.wrap ((k : Int) - 1) = (k : Int) - 1 := IntWalk.i64_in _ (by omega)
          have i3 : (0 : Int) ≤ j := by omega
          have i4 : (j : Int) < n := by omega
          have hj0 : (k : Int) - 1 = (j : Int) := by omega
          clear hR hp hx hy hj
          have HW := Lib.hid hwr
          clear hwr
          by_cases h1 : mayB x = true
          · have hr : ∀ w, Calls Try.prog 25 #[.int .i64 x] w fun en w' => en = .returned (.bool true) ∧ w' = w := fun w => (h1 ▸ rmay x w : Calls Try.prog 25 #[.int .i64 x] w fun en w' => en = .returned (.bool true) ∧ w = w').mono fun _ _ h => ⟨h.1, h.2.symm⟩
            have h1 := of_decide_eq_true h1
            by_cases h2 : x ≤ y
            · have d2 : decide (x ≤ y) = true := decide_eq_true h2
              have hno := hbad (by omega)
              obtain rfl : r = 8 := hres.symm.trans (if_neg hno)
              clear hbad hgm hg h1 hno hres
              go_wp2_with fail
              go_quiet ((go_at_call 25; exact Calls.quiet_of_same (hr _)))
              go_wp2
              go_ret
              exact ⟨rfl, _, by rw [HW.out, World.drewN_drewN]⟩
            · have d2 : decide (x ≤ y) = false := decide_eq_false h2
              have hg2 := hgm (by omega) (by omega)
              clear hbad hgm hg h1
              have HR := Lib.hid hres
              clear hres
              go_wp2_with fail
              go_quiet ((go_at_call 25; exact Calls.quiet_of_same (hr _)))
              go_wp2
              go_roundw
              case rel => exact ⟨k + 1, _, by omega, by go_num, by rw [HW.out, World.drewN_drewN], hg2⟩
              case measure => simp [intOf]; omega
          · have hr : ∀ w, Calls Try.prog 25 #[.int .i64 x] w fun en w' => en = .returned (.bool false) ∧ w' = w := fun w => ((Bool.not_eq_true _ ▸ h1 : mayB x = false) ▸ rmay x w : Calls Try.prog 25 #[.int .i64 x] w fun en w' => en = .returned (.bool false) ∧ w = w').mono fun _ _ h => ⟨h.1, h.2.symm⟩
            have h1 := of_decide_eq_false (Bool.not_eq_true _ ▸ h1)
            have hno := hbad (by omega)
            obtain rfl : r = 8 := hres.symm.trans (if_neg hno)
            clear hbad hgm hg h1 hno hres
            go_wp2_with fail
            go_quiet ((go_at_call 25; exact Calls.quiet_of_same (hr _)))
            go_wp2
            go_ret
            exact ⟨rfl, _, by rw [HW.out, World.drewN_drewN]⟩
      · obtain rfl : k = n := by omega
        obtain rfl : r = 0 := hres.symm.trans (if_pos hg)
        clear hR
        subst hwr
        go_wp2
        go_ret
        exact ⟨rfl, m, rfl⟩
set_option maxHeartbeats 1000000 in
theorem rin (A : Option Addr) (n c B : Nat) (l : List Int) (hn : l.length = n) (hm : n ≤ 4096) (t : Int) (w : World) (hR : Reads w B 1 A n (ints l)) :
    Calls Try.prog 26 #[.slice A n c, .int .i64 t] w fun en w' => en = .returned (.bool (hasB l t)) ∧ w' = w := by
  obtain ⟨r, hr⟩ : ∃ r, hasB l t = r := ⟨_, rfl⟩
  rw [hr]
  go_enter Try.func26, Try.ntmps26
  go_wp2
  go_loop [5] (fun i => ∃ k : Nat, k ≤ n ∧ i = .int .i64 k ∧ ∀ j, j < k → l.getD j 0 ≠ t) (fun i => n - (intOf i).toNat)
  case atStart => exact ⟨0, by omega, rfl, fun j hj => by omega⟩
  case round =>
    obtain ⟨k, hk, rfl, hg⟩ := hrel
    by_cases hlt : k < n
    · obtain ⟨ad, rfl, hab, cA⟩ := reads_at hn hR hlt
      have i1 : (0 : Int) ≤ k := by omega
      have i2 : (k : Int) < n := by omega
      obtain ⟨x, hx⟩ : ∃ x, l.getD k 0 = x := ⟨_, rfl⟩
      rw [hx] at cA
      by_cases h1 : x = t
      · have d1 : (x == t) = true := by simpa using h1
        have hh : hasB l t = true := decide_eq_true (mem_getD.mpr ⟨k, by omega, hx.trans h1⟩)
        obtain rfl : r = true := hr.symm.trans hh
        clear hg hx h1 hh hR hr
        go_wp2
        go_ret
        exact ⟨rfl, rfl⟩
      · have d1 : (x == t) = false := by simpa using h1
        have hg2 : ∀ j, j < k + 1 → l.getD j 0 ≠ t := fun j hj => by
          rcases Nat.lt_or_ge j k with h | h
          · exact hg j h
          · obtain rfl : j = k := by omega
            rw [hx]; exact h1
        clear hg hx h1 hR
        have HR := Lib.hid hr
        clear hr
        go_wp2
        go_round
        case rel => exact ⟨k + 1, by omega, by go_num, hg2⟩
        case measure => simp [intOf]; omega
    · obtain rfl : k = n := by omega
      have hh : hasB l t = false := decide_eq_false (fun h => by
        obtain ⟨i, hi, e⟩ := mem_getD.mp h
        exact hg i (by omega) e)
      obtain rfl : r = false := hr.symm.trans hh
      clear hg hh hR hr
      go_wp2
      go_ret
      exact ⟨rfl, rfl⟩
set_option maxHeartbeats 1000000 in
theorem rhas_bad (A : Option Addr) (n c B : Nat) (l : List Int) (hn : l.length = n) (t : Int) (e : Int) (he : chkL l = e) (h0 : (e != 0) = true) (w : World) (hR : Reads w B 1 A n (ints l)) :
    Calls Try.prog 14 #[.slice A n c, .int .i64 t] w fun en w' => en = .returned (.tuple #[.bool false, .int .i64 e]) ∧ ∃ m, w' = w.drewN m := by
  have hc := fun w h => rcheck_any A n c B l hn w h
  rw [he] at hc
  clear he hn
  go_enter Try.func14, Try.ntmps14
  go_wp2_with fail
  refine (hc _ hR).mono ?_
  rintro en w1 ⟨rfl, m, rfl⟩
  clear hR hc
  go_wp2
  go_ret2
  exact ⟨rfl, m, rfl⟩
set_option maxHeartbeats 1000000 in
theorem rhas_arg (A : Option Addr) (n c B : Nat) (l : List Int) (hn : l.length = n) (t : Int) (he : chkL l = 0) (h0 : mayB t = false) (w : World) (hR : Reads w B 1 A n (ints l)) :
    Calls Try.prog 14 #[.slice A n c, .int .i64 t] w fun en w' => en = .returned (.tuple #[.bool false, .int .i64 2]) ∧ ∃ m, w' = w.drewN m := by
  have hc := fun w h => rcheck_any A n c B l hn w h
  have hm := rmay t
  rw [he] at hc
  rw [h0] at hm
  clear he hn h0
  go_enter Try.func14, Try.ntmps14
  go_wp2_with fail
  refine (hc _ hR).mono ?_
  rintro en w1 ⟨rfl, m, rfl⟩
  clear hR hc
  go_wp2_with fail
  refine (hm _).mono ?_
  rintro en w2 ⟨rfl, rfl⟩
  go_wp2
  go_ret2
  exact ⟨rfl, m, rfl⟩
theorem rhas_no (A : Option Addr) (n c B : Nat) (l : List Int) (hn : l.length = n) (t : Int) (e : Int) (he : askE l t = e) (h0 : (e != 0) = true) (w : World) (hR : Reads w B 1 A n (ints l)) :
    Calls Try.prog 14 #[.slice A n c, .int .i64 t] w fun en w' => en = .returned (.tuple #[.bool false, .int .i64 e]) ∧ ∃ m, w' = w.drewN m := by
  by_cases hc : chkL l = 0
  · have h2 : mayB t = false := decide_eq_false (fun h => by
      unfold askE at he
      rw [if_pos hc, if_neg (by omega)] at he
      subst he
      cases h0)
    obtain rfl : e = 2 := by
      have h3 := of_decide_eq_false h2
      unfold askE at he
      rw [if_pos hc, if_pos (by omega)] at he
      exact he.symm
    exact rhas_arg A n c B l hn t hc h2 w hR
  · have he2 : chkL l = e := by
      unfold askE at he
      rwa [if_neg hc] at he
    exact rhas_bad A n c B l hn t e he2 h0 w hR
set_option maxHeartbeats 1000000 in
theorem rhas_yes (A : Option Addr) (n c : Nat) (l : List Int) (hn : l.length = n) (t : Int) (h : askE l t = 0) (w : World) (hR : Reads w w.heap.size 1 A n (ints l)) :
    Calls Try.prog 14 #[.slice A n c, .int .i64 t] w fun en w' => en = .returned (.tuple #[.bool (hasB l t), .int .i64 0]) ∧ ∃ m, w' = w.drewN m := by
  obtain ⟨h0, t0, t1⟩ := ask_zero h
  have hm4 := (chk_zero h0).1
  rw [hn] at hm4
  have hc := fun w h => rcheck_any A n c w.heap.size l hn w h
  have hm : ∀ w, Calls Try.prog 25 #[.int .i64 t] w fun en w' => en = .returned (.bool true) ∧ w = w' := fun w => (decide_eq_true ⟨t0, t1⟩ : mayB t = true) ▸ rmay t w
  rw [h0] at hc
  have hi := fun w h => rin A n c w.heap.size l hn hm4 t w h
  clear h h0 hn
  go_enter Try.func14, Try.ntmps14
  go_wp2_with fail
  refine (hc _ hR).mono ?_
  rintro en w1 ⟨rfl, m, rfl⟩
  go_wp2_with fail
  refine (hm _).mono ?_
  rintro en w2 ⟨rfl, rfl⟩
  go_wp2_with fail
  refine (hi _ (hR.drewN m)).mono ?_
  rintro en w3 ⟨rfl, rfl⟩
  clear hR hc hi hm
  go_wp2
  go_ret2
  exact ⟨rfl, m, rfl⟩
set_option maxHeartbeats 1000000 in
theorem rbelow_bad (A : Option Addr) (n c B : Nat) (l : List Int) (hn : l.length = n) (t : Int) (e : Int) (he : chkL l = e) (h0 : (e != 0) = true) (w : World) (hR : Reads w B 1 A n (ints l)) :
    Calls Try.prog 17 #[.slice A n c, .int .i64 t] w fun en w' => en = .returned (.tuple #[.int .i64 0, .int .i64 e]) ∧ ∃ m, w' = w.drewN m := by
  have hc := fun w h => rcheck_any A n c B l hn w h
  rw [he] at hc
  clear he hn
  go_enter Try.func17, Try.ntmps17
  go_wp2_with fail
  refine (hc _ hR).mono ?_
  rintro en w1 ⟨rfl, m, rfl⟩
  clear hR hc
  go_wp2
  go_ret2
  exact ⟨rfl, m, rfl⟩
set_option maxHeartbeats 1000000 in
theorem rbelow_arg (A : Option Addr) (n c B : Nat) (l : List Int) (hn : l.length = n) (t : Int) (he : chkL l = 0) (h0 : mayB t = false) (w : World) (hR : Reads w B 1 A n (ints l)) :
    Calls Try.prog 17 #[.slice A n c, .int .i64 t] w fun en w' => en = .returned (.tuple #[.int .i64 0, .int .i64 2]) ∧ ∃ m, w' = w.drewN m := by
  have hc := fun w h => rcheck_any A n c B l hn w h
  have hm := rmay t
  rw [he] at hc
  rw [h0] at hm
  clear he hn h0
  go_enter Try.func17, Try.ntmps17
  go_wp2_with fail
  refine (hc _ hR).mono ?_
  rintro en w1 ⟨rfl, m, rfl⟩
  clear hR hc
  go_wp2_with fail
  refine (hm _).mono ?_
  rintro en w2 ⟨rfl, rfl⟩
  go_wp2
  go_ret2
  exact ⟨rfl, m, rfl⟩
theorem rbelow_no (A : Option Addr) (n c B : Nat) (l : List Int) (hn : l.length = n) (t : Int) (e : Int) (he : askE l t = e) (h0 : (e != 0) = true) (w : World) (hR : Reads w B 1 A n (ints l)) :
    Calls Try.prog 17 #[.slice A n c, .int .i64 t] w fun en w' => en = .returned (.tuple #[.int .i64 0, .int .i64 e]) ∧ ∃ m, w' = w.drewN m := by
  by_cases hc : chkL l = 0
  · have h2 : mayB t = false := decide_eq_false (fun h => by
      unfold askE at he
      rw [if_pos hc, if_neg (by omega)] at he
      subst he
      cases h0)
    obtain rfl : e = 2 := by
      have h3 := of_decide_eq_false h2
      unfold askE at he
      rw [if_pos hc, if_pos (by omega)] at he
      exact he.symm
    exact rbelow_arg A n c B l hn t hc h2 w hR
  · have he2 : chkL l = e := by
      unfold askE at he
      rwa [if_neg hc] at he
    exact rbelow_bad A n c B l hn t e he2 h0 w hR
set_option maxHeartbeats 1000000 in
theorem rbelow_yes (A : Option Addr) (n c : Nat) (l : List Int) (hn : l.length = n) (t : Int) (h : askE l t = 0) (b : Nat) (hb : IsBelow l t b) (w : World) (hR : Reads w w.heap.size 1 A n (ints l)) :
    Calls Try.prog 17 #[.slice A n c, .int .i64 t] w fun en w' => en = .returned (.tuple #[.int .i64 (b : Int), .int .i64 0]) ∧ ∃ m, w' = w.drewN m := by
  obtain ⟨h0, t0, t1⟩ := ask_zero h
  have hm4 := (chk_zero h0).1
  rw [hn] at hm4
  have hc := fun w h => rcheck_any A n c w.heap.size l hn w h
  have hm : ∀ w, Calls Try.prog 25 #[.int .i64 t] w fun en w' => en = .returned (.bool true) ∧ w = w' := fun w => (decide_eq_true ⟨t0, t1⟩ : mayB t = true) ▸ rmay t w
  rw [h0] at hc
  have hbn := hb.1
  rw [hn] at hbn
  clear h h0
  go_enter Try.func17, Try.ntmps17
  go_wp2_with fail
  refine (hc _ hR).mono ?_
  rintro en w1 ⟨rfl, m, rfl⟩
  go_wp2_with fail
  refine (hm _).mono ?_
  rintro en w2 ⟨rfl, rfl⟩
  have hR := hR.drewN m
  clear hc hm
  have hW : ∃ m', w.drewN m = w.drewN m' := ⟨m, rfl⟩
  generalize w.drewN m = W at *
  go_wp2
  go_loop [7, 8] (fun s i => ∃ k : Nat, k ≤ n ∧ i = .int .i64 k ∧ s = .int .i64 (min k b : Nat)) (fun _ i => n - (intOf i).toNat)
  case atStart => exact ⟨0, by omega, rfl, by simp⟩
  case round =>
    obtain ⟨k, hk, rfl, rfl⟩ := hrel
    by_cases hlt : k < n
    · obtain ⟨ad, rfl, hab, cA⟩ := reads_at hn hR hlt
      have i1 : (0 : Int) ≤ k := by omega
      have i2 : (k : Int) < n := by omega
      rcases Nat.lt_or_ge k b with h1 | h1
      · have d1 : decide (l.getD k 0 < t) = true := decide_eq_true (hb.2.1 k h1)
        have e1 : min k b = k := by omega
        have e2 : min (k + 1) b = k + 1 := by omega
        rw [e1]
        generalize l.getD k 0 = x at *
        clear hb hR e1
        go_wp2
        go_round
        case rel => exact ⟨k + 1, by omega, by go_num, by rw [e2]; go_num⟩
        case measure => simp [intOf]; omega
      · have d1 : decide (l.getD k 0 < t) = false := decide_eq_false (by have := hb.2.2 k h1 (by omega); omega)
        have e1 : min k b = b := by omega
        have e2 : min (k + 1) b = b := by omega
        rw [e1]
        generalize l.getD k 0 = x at *
        clear hb hR e1
        go_wp2
        go_round
        case rel => exact ⟨k + 1, by omega, by go_num, by rw [e2]⟩
        case measure => simp [intOf]; omega
    · obtain rfl : k = n := by omega
      have e1 : min k b = b := by omega
      rw [e1]
      clear hb hR e1
      go_wp2
      go_ret2
      exact ⟨rfl, hW⟩
set_option maxHeartbeats 1000000 in
theorem rfirst_no (A : Option Addr) (n c B : Nat) (l : List Int) (hn : l.length = n) (e : Int) (he : chkL l = e) (h0 : (e != 0) = true) (w : World) (hR : Reads w B 1 A n (ints l)) :
    Calls Try.prog 18 #[.slice A n c] w fun en w' => en = .returned (.tuple #[.int .i64 0, .int .i64 e]) ∧ ∃ m, w' = w.drewN m := by
  have hc := fun w h => rcheck_any A n c B l hn w h
  rw [he] at hc
  clear he hn
  go_enter Try.func18, Try.ntmps18
  go_wp2_with fail
  refine (hc _ hR).mono ?_
  rintro en w1 ⟨rfl, m, rfl⟩
  clear hR hc
  go_wp2
  go_ret2
  exact ⟨rfl, m, rfl⟩
set_option maxHeartbeats 1000000 in
theorem rfirst_yes (A : Option Addr) (n c : Nat) (l : List Int) (hn : l.length = n) (he : chkL l = 0) (b : Nat) (hb : IsFirst l b) (w : World) (hR : Reads w w.heap.size 1 A n (ints l)) :
    Calls Try.prog 18 #[.slice A n c] w fun en w' => en = .returned (.tuple #[.int .i64 (b : Int), .int .i64 0]) ∧ ∃ m, w' = w.drewN m := by
  have hc := fun w h => rcheck_any A n c w.heap.size l hn w h
  have hm4 := (chk_zero he).1
  rw [he] at hc
  obtain ⟨b1, b2, b3⟩ := hb
  rw [hn] at b1 b3 hm4
  go_enter Try.func18, Try.ntmps18
  go_wp2_with fail
  refine (hc _ hR).mono ?_
  rintro en w1 ⟨rfl, m, rfl⟩
  have hR := hR.drewN m
  clear hc he
  have hW : ∃ m', w.drewN m = w.drewN m' := ⟨m, rfl⟩
  generalize w.drewN m = W at *
  go_wp2
  go_loop [5] (fun i => ∃ k : Nat, k ≤ b ∧ i = .int .i64 k) (fun i => n - (intOf i).toNat)
  case atStart => exact ⟨0, by omega, rfl⟩
  case round =>
    obtain ⟨k, hk, rfl⟩ := hrel
    rcases Nat.lt_or_ge k b with h1 | h1
    · obtain ⟨ad, rfl, hab, cA⟩ := reads_at hn hR (show k < n by omega)
      rw [b2 k h1] at cA
      have i1 : (0 : Int) ≤ k := by omega
      have i2 : (k : Int) < n := by omega
      have i3 : decide ((k : Int) < n) = true := decide_eq_true i2
      clear b2 b3 hR hn
      go_wp2
      go_round
      case rel => exact ⟨k + 1, by omega, by go_num⟩
      case measure => simp [intOf]; omega
    · obtain rfl : k = b := by omega
      by_cases h2 : k < n
      · obtain ⟨ad, rfl, hab, cA⟩ := reads_at hn hR h2
        have h3 := b3 h2
        have d : (l.getD k 0 == (k : Int)) = false := beq_eq_false_iff_ne.mpr (by omega)
        generalize l.getD k 0 = x at *
        have i1 : (0 : Int) ≤ k := by omega
        have i2 : (k : Int) < n := by omega
        have i3 : decide ((k : Int) < n) = true := decide_eq_true i2
        clear b2 b3 hR hn
        go_wp2
        go_ret2
        exact ⟨rfl, hW⟩
      · have i3 : decide ((k : Int) < n) = false := by simp; omega
        clear b2 b3 hR hn
        go_wp2
        go_ret2
        exact ⟨rfl, hW⟩
theorem info3r : (Try.prog.info? 3).map (fun i => (i.zero, i.size, i.bytes)) = some (some (.int .i64 0), 1, 8) := by kernel_rfl
theorem ints_snoc (l : List Int) (x : Int) : ints l ++ [.int .i64 x] = ints (l ++ [x]) := by simp [ints]
theorem reads_some {w : World} {B n k : Nat} {ad : Addr} {l : List Int} (hn : l.length = n) (hR : Reads w B 1 (some ad) n (ints l)) (hk : k < n) : w.cell? (ad.add k) = some (.int .i64 (l.getD k 0)) := by
  obtain ⟨ad', e, _, h⟩ := reads_at hn hR hk
  injection e with e
  subst e
  exact h
def Part (l : List Int) (t : Int) (b k : Nat) (p : Bool) (xs : List Int) : Prop := (p = false ∧ k ≤ b ∧ xs = l.take k) ∨ (p = true ∧ b < k ∧ xs = l.take b ++ t :: (l.drop b).take (k - b))
theorem take_snoc {l : List Int} {k : Nat} (h : k < l.length) : l.take (k + 1) = l.take k ++ [l.getD k 0] := by
  rw [List.take_succ_eq_append_getElem h, List.getD_eq_getElem?_getD, List.getElem?_eq_getElem h]
  rfl
theorem part_more {l : List Int} {t : Int} {b k : Nat} {p : Bool} {xs : List Int} (h : Part l t b k p xs) (hk : k < l.length) : (p = true ∨ k ≠ b) → Part l t b (k + 1) p (xs ++ [l.getD k 0]) := by
  intro hp
  rcases h with ⟨rfl, h1, rfl⟩ | ⟨rfl, h1, rfl⟩
  · refine .inl ⟨rfl, ?_, (take_snoc hk).symm⟩
    rcases hp with h | h
    · cases h
    · omega
  · refine .inr ⟨rfl, by omega, ?_⟩
    rw [show k + 1 - b = (k - b) + 1 by omega, take_snoc (by simp; omega), List.append_assoc, List.cons_append]
    congr 4
    rw [List.getD_eq_getElem?_getD, List.getD_eq_getElem?_getD, List.getElem?_drop, show b + (k - b) = k by omega]
theorem part_put {l : List Int} {t : Int} {b : Nat} {xs : List Int} (h : Part l t b b false xs) (hk : b < l.length) : Part l t b (b + 1) true (xs ++ [t] ++ [l.getD b 0]) := by
  rcases h with ⟨_, h1, rfl⟩ | ⟨h, _⟩
  · refine .inr ⟨rfl, by omega, ?_⟩
    rw [show b + 1 - b = 0 + 1 by omega, take_snoc (by simp; omega), List.append_assoc]
    congr 2
    rw [List.getD_eq_getElem?_getD, List.getD_eq_getElem?_getD, List.getElem?_drop]
    rfl
  · cases h
set_option maxRecDepth 100000 in
set_option maxHeartbeats 4000000 in
theorem rwith (A : Option Addr) (n c : Nat) (l : List Int) (hn : l.length = n) (hm : n ≤ 4096) (t : Int) (b : Nat) (hb : IsBelow l t b) (hno : t ∉ l) (w : World) (hR : Reads w w.heap.size 1 A n (ints l)) :
    Calls Try.prog 27 #[.slice A n c, .int .i64 t] w fun en w' => ∃ v, en = .returned v ∧ w'.ownsRow w.heap.size 3 1 v (n + 1) (ints (ins l b t)) ∧ Below w.heap.size w w' := by
  obtain ⟨i0, hi0, hz0, hz1, hz2⟩ := info_parts info3r
  have hbn := hb.1
  rw [hn] at hbn
  have hhi : ∀ i, b ≤ i → i < n → t < l.getD i 0 := fun i h1 h2 => by
    have h3 := hb.2.2 i h1 (by omega)
    have h4 : l.getD i 0 ≠ t := fun e => hno (mem_getD.mpr ⟨i, by omega, e⟩)
    omega
  have hlo := hb.2.1
  clear hno hb
  go_enter Try.func27, Try.ntmps27
  go_wp2
  go_loopw [5, 6, 7] (fun o p i wr => ∃ (k m : Nat) (q : Bool) (xs : List Int), k ≤ n ∧ i = .int .i64 k ∧ p = .bool q ∧ Part l t b k q xs ∧ m = k + (if q then 1 else 0) ∧ wr.ownsRow w.heap.size 3 1 o m (ints xs) ∧ Below w.heap.size w wr) (fun _ _ i _ => n - (intOf i).toNat)
  case atStart => exact ⟨0, 0, false, [], by omega, rfl, rfl, .inl ⟨rfl, by omega, rfl⟩, rfl, World.ownsRow_nil _ _ _ _, Below.refl _ _⟩
  case round =>
    obtain ⟨k, m, q, xs, hk, rfl, rfl, hP, hmk, ho, hB⟩ := hrel
    obtain ⟨Ao, co, rfl, _, _⟩ := own_slice ho
    by_cases hlt : k < n
    · obtain ⟨ad, hA, hab, cA⟩ := reads_at hn (hR.below hB) hlt
      subst hA
      have hP1 := part_more hP (by rw [hn]; exact hlt)
      have hP2 := fun (e : k = b) (f : q = false) => part_put (l := l) (t := t) (b := b) (xs := xs) (by subst e; subst f; exact hP) (by omega)
      obtain ⟨x, hx⟩ : ∃ x, l.getD k 0 = x := ⟨_, rfl⟩
      have i1 : (0 : Int) ≤ k := by omega
      have i2 : (k : Int) < n := by omega
      cases q
      · replace hmk : k = m := hmk.symm
        subst hmk
        have hkb : k ≤ b := by
          rcases hP with h | h
          · exact h.2.1
          · cases h.1
        rcases Nat.lt_or_ge k b with h1 | h1
        · have d1 : decide (t < l.getD k 0) = false := decide_eq_false (by have := hlo k h1; omega)
          have hP1 := Lib.hid (hP1 (.inr (by omega)))
          rw [hx] at cA d1 hP1
          clear hP2 hP hhi hlo hx
          go_wp2_with (at_builtin; refine wpList_push rfl (.tmp 28) (.tmp 33) _ rfl w.heap.size 3 i0 _ 1 8 Try.underlying22 hi0 hz0 hz1 hz2 rfl (by omega) hB (Nat.le_refl _) (.slice Ao (k) co) (k) (ints xs) rfl ho [.int .i64 x] rfl (by simp [Value.oneCell']) rfl (by unfold maxLen; omega) (by omega) ?_; intro v' w' ho' hB'; rw [ints_snoc] at ho'; obtain ⟨A', c', rfl, _, _⟩ := own_slice ho')
          go_roundw
          case rel => exact ⟨k + 1, k + 1, false, _, by omega, by go_num, rfl, hP1.out, rfl, ho', hB'⟩
          case measure => simp [intOf]; omega
        · obtain rfl : k = b := by omega
          have d1 : decide (t < l.getD k 0) = true := decide_eq_true (hhi k (Nat.le_refl _) hlt)
          have hP2 := hP2 rfl rfl
          rw [hx] at cA d1 hP2
          have hP2 := Lib.hid hP2
          have HN := Lib.hid hn
          have HX := Lib.hid hx
          clear hP1 hP hhi hlo hx hn
          go_wp2_with (first | (at_builtin; refine wpList_push rfl (.tmp 24) (.tmp 26) _ rfl w.heap.size 3 i0 _ 1 8 Try.underlying22 hi0 hz0 hz1 hz2 rfl (by omega) hB (Nat.le_refl _) (.slice Ao (k) co) (k) (ints xs) rfl ho [.int .i64 t] rfl (by simp [Value.oneCell']) rfl (by unfold maxLen; omega) (by omega) ?_; intro v' w' ho' hB'; rw [ints_snoc] at ho'; obtain ⟨A', c', rfl, _, _⟩ := own_slice ho'; have cA' := reads_some HN.out (hR.below hB') hlt; rw [HX.out] at cA') | (at_builtin; refine wpList_push rfl (.tmp 28) (.tmp 33) _ rfl w.heap.size 3 i0 _ 1 8 Try.underlying22 hi0 hz0 hz1 hz2 rfl (by omega) hB' (Nat.le_refl _) (.slice A' (k + 1) c') (k + 1) (ints (xs ++ [t])) rfl ho' [.int .i64 x] rfl (by simp [Value.oneCell']) rfl (by unfold maxLen; omega) (by omega) ?_; intro v2 w2 ho2 hB2; rw [ints_snoc] at ho2; obtain ⟨A2, c2, rfl, _, _⟩ := own_slice ho2))
          go_roundw
          case rel => exact ⟨k + 1, k + 2, true, _, by omega, by go_num, rfl, hP2.out, rfl, ho2, hB2⟩
          case measure => simp [intOf]; omega
      · replace hmk : m = k + 1 := hmk
        subst hmk
        have hP1 := Lib.hid (hP1 (.inl rfl))
        rw [hx] at cA hP1
        clear hP2 hP hhi hlo hx
        go_wp2_with (at_builtin; refine wpList_push rfl (.tmp 28) (.tmp 33) _ rfl w.heap.size 3 i0 _ 1 8 Try.underlying22 hi0 hz0 hz1 hz2 rfl (by omega) hB (Nat.le_refl _) (.slice Ao (k + 1) co) (k + 1) (ints xs) rfl ho [.int .i64 x] rfl (by simp [Value.oneCell']) rfl (by unfold maxLen; omega) (by omega) ?_; intro v' w' ho' hB'; rw [ints_snoc] at ho'; obtain ⟨A', c', rfl, _, _⟩ := own_slice ho')
        go_roundw
        case rel => exact ⟨k + 1, k + 2, true, _, by omega, by go_num, rfl, hP1.out, rfl, ho', hB'⟩
        case measure => simp [intOf]; omega
    · obtain rfl : k = n := by omega
      cases q
      · replace hmk : k = m := hmk.symm
        subst hmk
        have hl : ins l b t = xs ++ [t] := by
          rcases hP with ⟨_, h1, rfl⟩ | ⟨h, _⟩
          · obtain rfl : k = b := by omega
            unfold ins
            rw [List.drop_of_length_le (by omega)]
          · cases h
        have HL := Lib.hid hl
        clear hP hhi hlo hn hl
        go_wp2_with (at_builtin; refine wpList_push rfl (.tmp 37) (.tmp 39) _ rfl w.heap.size 3 i0 _ 1 8 Try.underlying22 hi0 hz0 hz1 hz2 rfl (by omega) hB (Nat.le_refl _) (.slice Ao (k) co) (k) (ints xs) rfl ho [.int .i64 t] rfl (by simp [Value.oneCell']) rfl (by unfold maxLen; omega) (by omega) ?_; intro v' w' ho' hB'; rw [ints_snoc] at ho'; obtain ⟨A', c', rfl, _, _⟩ := own_slice ho')
        go_ret
        exact ⟨_, rfl, by rw [HL.out]; exact ho', hB'⟩
      · replace hmk : m = k + 1 := hmk
        subst hmk
        have hl : ins l b t = xs := by
          rcases hP with ⟨h, _⟩ | ⟨_, h1, rfl⟩
          · cases h
          · unfold ins
            have e : (l.drop b).take (k - b) = l.drop b := List.take_of_length_le (by rw [List.length_drop]; omega)
            rw [e]
        have HL := Lib.hid hl
        clear hP hhi hlo hn hl
        go_wp2
        go_ret
        exact ⟨_, rfl, by rw [HL.out]; exact ho, hB⟩
set_option maxHeartbeats 1000000 in
theorem rput_bad (A : Option Addr) (n c B : Nat) (l : List Int) (hn : l.length = n) (t : Int) (e : Int) (he : chkL l = e) (h0 : (e != 0) = true) (w : World) (hR : Reads w B 1 A n (ints l)) :
    Calls Try.prog 15 #[.slice A n c, .int .i64 t] w fun en w' => en = .returned (.tuple #[.slice none 0 0, .int .i64 e]) ∧ ∃ m, w' = w.drewN m := by
  have hc := fun w h => rcheck_any A n c B l hn w h
  rw [he] at hc
  clear he hn
  go_enter Try.func15, Try.ntmps15
  go_wp2_with fail
  refine (hc _ hR).mono ?_
  rintro en w1 ⟨rfl, m, rfl⟩
  clear hR hc
  go_wp2
  go_ret2
  exact ⟨rfl, m, rfl⟩
set_option maxHeartbeats 1000000 in
theorem rput_arg (A : Option Addr) (n c B : Nat) (l : List Int) (hn : l.length = n) (t : Int) (he : chkL l = 0) (h0 : mayB t = false) (w : World) (hR : Reads w B 1 A n (ints l)) :
    Calls Try.prog 15 #[.slice A n c, .int .i64 t] w fun en w' => en = .returned (.tuple #[.slice none 0 0, .int .i64 2]) ∧ ∃ m, w' = w.drewN m := by
  have hc := fun w h => rcheck_any A n c B l hn w h
  have hm := rmay t
  rw [he] at hc
  rw [h0] at hm
  clear he hn h0
  go_enter Try.func15, Try.ntmps15
  go_wp2_with fail
  refine (hc _ hR).mono ?_
  rintro en w1 ⟨rfl, m, rfl⟩
  clear hR hc
  go_wp2_with fail
  refine (hm _).mono ?_
  rintro en w2 ⟨rfl, rfl⟩
  go_wp2
  go_ret2
  exact ⟨rfl, m, rfl⟩
theorem rput_no (A : Option Addr) (n c B : Nat) (l : List Int) (hn : l.length = n) (t : Int) (e : Int) (he : askE l t = e) (h0 : (e != 0) = true) (w : World) (hR : Reads w B 1 A n (ints l)) :
    Calls Try.prog 15 #[.slice A n c, .int .i64 t] w fun en w' => en = .returned (.tuple #[.slice none 0 0, .int .i64 e]) ∧ ∃ m, w' = w.drewN m := by
  by_cases hc : chkL l = 0
  · have h2 : mayB t = false := decide_eq_false (fun h => by
      unfold askE at he
      rw [if_pos hc, if_neg (by omega)] at he
      subst he
      cases h0)
    obtain rfl : e = 2 := by
      have h3 := of_decide_eq_false h2
      unfold askE at he
      rw [if_pos hc, if_pos (by omega)] at he
      exact he.symm
    exact rput_arg A n c B l hn t hc h2 w hR
  · have he2 : chkL l = e := by
      unfold askE at he
      rwa [if_neg hc] at he
    exact rput_bad A n c B l hn t e he2 h0 w hR
set_option maxHeartbeats 1000000 in
theorem rput_again (A : Option Addr) (n c : Nat) (l : List Int) (hn : l.length = n) (t : Int) (h : askE l t = 0) (hin : t ∈ l) (w : World) (hR : Reads w w.heap.size 1 A n (ints l)) :
    Calls Try.prog 15 #[.slice A n c, .int .i64 t] w fun en w' => en = .returned (.tuple #[.slice none 0 0, .int .i64 12]) ∧ ∃ m, w' = w.drewN m := by
  obtain ⟨h0, t0, t1⟩ := ask_zero h
  have hm4 := (chk_zero h0).1
  rw [hn] at hm4
  have hc := fun w h => rcheck_any A n c w.heap.size l hn w h
  have hm : ∀ w, Calls Try.prog 25 #[.int .i64 t] w fun en w' => en = .returned (.bool true) ∧ w = w' := fun w => (decide_eq_true ⟨t0, t1⟩ : mayB t = true) ▸ rmay t w
  rw [h0] at hc
  have hi := fun w h => rin A n c w.heap.size l hn hm4 t w h
  rw [show hasB l t = true from decide_eq_true hin] at hi
  clear h h0 hn
  go_enter Try.func15, Try.ntmps15
  go_wp2_with fail
  refine (hc _ hR).mono ?_
  rintro en w1 ⟨rfl, m, rfl⟩
  go_wp2_with fail
  refine (hm _).mono ?_
  rintro en w2 ⟨rfl, rfl⟩
  go_wp2_with fail
  refine (hi _ (hR.drewN m)).mono ?_
  rintro en w3 ⟨rfl, rfl⟩
  clear hR hc hi hm
  go_wp2
  go_ret2
  exact ⟨rfl, m, rfl⟩
set_option maxHeartbeats 1000000 in
theorem rput_full (A : Option Addr) (n c : Nat) (l : List Int) (hn : l.length = n) (t : Int) (h : askE l t = 0) (hin : t ∉ l) (hf : n = 4096) (w : World) (hR : Reads w w.heap.size 1 A n (ints l)) :
    Calls Try.prog 15 #[.slice A n c, .int .i64 t] w fun en w' => en = .returned (.tuple #[.slice none 0 0, .int .i64 9]) ∧ ∃ m, w' = w.drewN m := by
  obtain ⟨h0, t0, t1⟩ := ask_zero h
  have hm4 := (chk_zero h0).1
  rw [hn] at hm4
  have hc := fun w h => rcheck_any A n c w.heap.size l hn w h
  have hm : ∀ w, Calls Try.prog 25 #[.int .i64 t] w fun en w' => en = .returned (.bool true) ∧ w = w' := fun w => (decide_eq_true ⟨t0, t1⟩ : mayB t = true) ▸ rmay t w
  rw [h0] at hc
  have hi := fun w h => rin A n c w.heap.size l hn hm4 t w h
  rw [show hasB l t = false from decide_eq_false hin] at hi
  have d : decide ((4096 : Int) ≤ n) = true := decide_eq_true (by omega)
  clear h h0 hn hf hin
  go_enter Try.func15, Try.ntmps15
  go_wp2_with fail
  refine (hc _ hR).mono ?_
  rintro en w1 ⟨rfl, m, rfl⟩
  go_wp2_with fail
  refine (hm _).mono ?_
  rintro en w2 ⟨rfl, rfl⟩
  go_wp2_with fail
  refine (hi _ (hR.drewN m)).mono ?_
  rintro en w3 ⟨rfl, rfl⟩
  clear hR hc hi hm
  go_wp2
  go_ret2
  exact ⟨rfl, m, rfl⟩
set_option maxHeartbeats 1000000 in
theorem rput_yes (A : Option Addr) (n c : Nat) (l : List Int) (hn : l.length = n) (t : Int) (h : askE l t = 0) (hin : t ∉ l) (hf : n < 4096) (b : Nat) (hb : IsBelow l t b) (w : World) (hR : Reads w w.heap.size 1 A n (ints l)) :
    Calls Try.prog 15 #[.slice A n c, .int .i64 t] w fun en w' => ∃ A' c', en = .returned (.tuple #[.slice A' (n + 1) c', .int .i64 0]) ∧ Reads w' w'.heap.size 1 A' (n + 1) (ints (ins l b t)) ∧ Below w.heap.size w w' := by
  obtain ⟨h0, t0, t1⟩ := ask_zero h
  have hm4 := (chk_zero h0).1
  rw [hn] at hm4
  have hc := fun w h => rcheck_any A n c w.heap.size l hn w h
  have hm : ∀ w, Calls Try.prog 25 #[.int .i64 t] w fun en w' => en = .returned (.bool true) ∧ w = w' := fun w => (decide_eq_true ⟨t0, t1⟩ : mayB t = true) ▸ rmay t w
  rw [h0] at hc
  have hi := fun w h => rin A n c w.heap.size l hn hm4 t w h
  rw [show hasB l t = false from decide_eq_false hin] at hi
  have hw := fun w h => rwith A n c l hn hm4 t b hb hin w h
  have d : decide ((4096 : Int) ≤ n) = false := decide_eq_false (by omega)
  clear h h0 hn hin hb
  go_enter Try.func15, Try.ntmps15
  go_wp2_with fail
  refine (hc _ hR).mono ?_
  rintro en w1 ⟨rfl, m, rfl⟩
  go_wp2_with fail
  refine (hm _).mono ?_
  rintro en w2 ⟨rfl, rfl⟩
  go_wp2_with fail
  refine (hi _ (hR.drewN m)).mono ?_
  rintro en w3 ⟨rfl, rfl⟩
  go_wp2_with fail
  refine (hw _ (hR.drewN m)).mono ?_
  rintro en w4 ⟨v, rfl, ho, hB⟩
  obtain ⟨A', c', rfl, _, hR'⟩ := own_slice ho
  clear hR hc hi hm hw ho
  go_wp2
  go_ret2
  exact ⟨A', c', rfl, hR', Below.trans (below_drewN (Below.refl _ _) m) hB⟩
end Go.Proofs.Ytocnmdnicoahnaa
