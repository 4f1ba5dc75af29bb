/- Ether: lists of copies compared and checked (the program's and the reference's). -/
import Derived.Test.YtbiodoeimbfbnaaB
namespace Go.Proofs.Ytbiodoeimbfbnaa
open Go.ChangeShapes Go.WideShapes Go.ChangeAt Go.RowKit
set_option linter.unusedSimpArgs false
set_option linter.unusedVariables false
/-- The cells of a copy at an address. -/
def At4 (w : World) (p : Addr) (num dn : Int) (X : Option Addr) (m d : Nat) (sp : Bool) : Prop :=
  w.cell? p = some (.int .i64 num) ∧ w.cell? ⟨p.block, p.off + 1, none⟩ = some (.int .i64 dn) ∧ w.cell? ⟨p.block, p.off + 2, none⟩ = some (.slice X m d) ∧ w.cell? ⟨p.block, p.off + 3, none⟩ = some (.bool sp)
theorem At4.below {w w' : World} {B : Nat} {p : Addr} {num dn : Int} {X : Option Addr} {m d : Nat} {sp : Bool} (h : At4 w p num dn X m d sp) (hb : Below B w w') (hp : p.block < B) : At4 w' p num dn X m d sp :=
  ⟨(hb.cell hp).trans h.1, (hb.cell (p := ⟨p.block, p.off + 1, none⟩) hp).trans h.2.1, (hb.cell (p := ⟨p.block, p.off + 2, none⟩) hp).trans h.2.2.1, (hb.cell (p := ⟨p.block, p.off + 3, none⟩) hp).trans h.2.2.2⟩
/-- One copy of a row, in every world that keeps what was there. -/
theorem cps_rel {w : World} {n i : Nat} {A : Option Addr} {l : List Cp} (h : Cps w w.heap.size A n l) (hi : i < n) : ∃ ad num dn txt sp X m d, A = some ad ∧ ad.block < w.heap.size ∧ l[i]? = some ⟨num, dn, txt, sp⟩ ∧ txt.length = m ∧ m ≤ d ∧
    ∀ w', Below w.heap.size w w' → Reads w' w'.heap.size 1 X m (ints .u8 txt) ∧ At4 w' (ad.add (i * 4)) num dn X m d sp := by
  obtain ⟨ad, num, dn, txt, sp, X, m, d, e, hb, hl, h2, h3, h4, c0, c1, c2, c3⟩ := cps_at h hi
  refine ⟨ad, num, dn, txt, sp, X, m, d, e, hb, hl, h2, h3, fun w' hw => ⟨(h4.below hw).more hw.size, ?_⟩⟩
  exact At4.below ⟨c0, c1, c2, c3⟩ hw (by rw [block_of_add]; exact hb)
set_option maxHeartbeats 4000000 in
theorem eqf_any (A A2 : Option Addr) (n n2 c c2 : Nat) (l l2 : List Cp) (hm : n ≤ 10000) (hm2 : n2 ≤ 10000) (hs1 : ∀ x ∈ l, x.txt.length ≤ 10000) (hs2 : ∀ x ∈ l2, x.txt.length ≤ 10000) (R : Bool) (hR : decide (l = l2) = R) (w : World) (h1 : Cps w w.heap.size A n l) (h2 : Cps w w.heap.size A2 n2 l2) :
    Calls Try.prog 30 #[.slice A n c, .slice A2 n2 c2, .func (.func 31) #[] #[]] w fun en w' => en = .returned (.bool R) ∧ Below w.heap.size w w' := by
  have ln1 := cps_len h1
  have ln2 := cps_len h2
  by_cases hlen : n = n2
  rotate_left
  · obtain rfl : false = R := by rw [← hR]; exact (decide_eq_false (fun e => hlen (by rw [← ln1, ← ln2, e]))).symm
    have t1 : ((n : Int) != n2) = true := by simp; omega
    have t2 : (n != n2) = true := by simp; omega
    clear hR h1 h2 hs1 hs2 ln1 ln2 hlen
    go_enter Try.func30, Try.ntmps30
    go_wp2
    go_ret
    exact ⟨rfl, Below.refl _ _⟩
  subst hlen
  have gno : Hid (∀ k : Nat, l[k]? ≠ l2[k]? → R = false) := Lib.hid (fun k h => by rw [← hR]; exact decide_eq_false (fun e => h (by rw [e])))
  have gyes : Hid ((∀ k : Nat, k < n → l[k]? = l2[k]?) → R = true) := Lib.hid (fun h => by
    rw [← hR]
    refine decide_eq_true (List.ext_getElem? fun i => ?_)
    rcases Nat.lt_or_ge i n with h3 | h3
    · exact h i h3
    · rw [List.getElem?_eq_none (by omega), List.getElem?_eq_none (by omega)])
  have t1 : ((n : Int) != n) = false := by simp
  have hB0 := Below.refl w.heap.size w
  clear hR ln1 ln2
  go_enter Try.func30, Try.ntmps30
  go_wp2
  go_loopw [17] (fun t wr => ∃ k : Nat, k ≤ n ∧ t = .int .i64 (k : Int) ∧ Hid (∀ j : Nat, j < k → l[j]? = l2[j]?) ∧ Below w.heap.size w wr) (fun t _ => n - (intOf t).toNat)
  case atStart => exact ⟨0, Nat.zero_le _, rfl, Lib.hid (fun j h => by omega), hB0⟩
  case round =>
    obtain ⟨k, hk, rfl, h0, hB⟩ := hrel
    by_cases hlt : k < n
    · obtain ⟨ad, num, dn, txt, sp, X, m, d, rfl, hb1, hl1, hx1, hxd1, hrel1⟩ := cps_rel h1 hlt
      obtain ⟨ad2, num2, dn2, txt2, sp2, X2, m2, d2, rfl, hb2, hl2, hx2, hxd2, hrel2⟩ := cps_rel h2 hlt
      have q1 : m ≤ 10000 := by have := hs1 _ (List.mem_of_getElem? hl1); simp only at this; omega
      have q2 : m2 ≤ 10000 := by have := hs2 _ (List.mem_of_getElem? hl2); simp only at this; omega
      obtain ⟨Q, hQ⟩ : ∃ Q, decide ((⟨num, dn, txt, sp⟩ : Cp) = ⟨num2, dn2, txt2, sp2⟩) = Q := ⟨_, rfl⟩
      have hal : ∀ w', Below w.heap.size w w' → Calls Try.prog 31 #[.agg #[.int .i64 num, .int .i64 dn, .slice X m d, .bool sp], .agg #[.int .i64 num2, .int .i64 dn2, .slice X2 m2 d2, .bool sp2]] w' (fun en w'' => en = .returned (.bool Q) ∧ Below w.heap.size w w'') := fun w' hw =>
        (alike_any num dn num2 dn2 X X2 m d m2 d2 txt txt2 sp sp2 hx1 hx2 (by omega) (by omega) Q hQ w' (hrel1 w' hw).1 (hrel2 w' hw).1).mono fun en w'' h => ⟨h.1, hw.trans (h.2.mono hw.size)⟩
      have i1 : (0 : Int) ≤ k := by omega
      have i2 : (k : Int) < n := by omega
      have hQ2 : Hid (Q = true → ∀ j : Nat, j < k + 1 → l[j]? = l2[j]?) := Lib.hid (fun hq j hj => by
        rcases Nat.lt_or_ge j k with h | h
        · exact h0.out j h
        · rw [show j = k by omega, hl1, hl2]
          rw [hq] at hQ
          rw [of_decide_eq_true hQ])
      have hQ3 : Hid (Q = false → R = false) := Lib.hid (fun hq => gno.out k (by
        rw [hl1, hl2]
        rw [hq] at hQ
        intro e
        injection e with e
        exact of_decide_eq_false hQ e))
      obtain ⟨a0, a1, a2, a3⟩ := (hrel1 wr hB).2
      obtain ⟨b0, b1, b2, b3⟩ := (hrel2 wr hB).2
      obtain ⟨f0, f1, f2, f3⟩ := (hrel2 (wr.alloc (.cells #[.int .i64 num, .int .i64 dn, .slice X m d, .bool sp] 25)) (hB.alloc hB.size _)).2
      clear hl1 hl2 hx1 hx2 hrel1 hrel2 hQ h0 h1 h2 hs1 hs2 gno hB0
      cases Q
      · obtain rfl := hQ3.out rfl
        clear gyes hQ2 hQ3
        go_wp2_with fail
        refine (hal _ ((hB.alloc hB.size _).alloc (by simp only [World.size_alloc]; have := hB.size; omega) _)).mono ?_
        rintro en w6 ⟨rfl, hB6⟩
        clear hal hB
        go_wp2
        go_ret
        exact ⟨rfl, hB6⟩
      · have h0' := Lib.hid (hQ2.out rfl)
        clear hQ2 hQ3 gyes
        go_wp2_with fail
        refine (hal _ ((hB.alloc hB.size _).alloc (by simp only [World.size_alloc]; have := hB.size; omega) _)).mono ?_
        rintro en w6 ⟨rfl, hB6⟩
        clear hal hB
        go_wp2
        go_roundw
        case rel => exact ⟨k + 1, by omega, by go_num, h0', hB6⟩
        case measure => simp [intOf] <;> omega
    · obtain rfl : k = n := by omega
      obtain rfl := gyes.out h0.out
      clear h0 h1 h2 hs1 hs2 gno gyes hB0
      go_wp2
      go_ret
      exact ⟨rfl, hB⟩
set_option maxHeartbeats 2000000 in
theorem same_any (A A2 : Option Addr) (n n2 c c2 : Nat) (l l2 : List Cp) (hm : n ≤ 10000) (hm2 : n2 ≤ 10000) (hs1 : ∀ x ∈ l, x.txt.length ≤ 10000) (hs2 : ∀ x ∈ l2, x.txt.length ≤ 10000) (R : Bool) (hR : decide (l = l2) = R) (w : World) (h1 : Cps w w.heap.size A n l) (h2 : Cps w w.heap.size A2 n2 l2) :
    Calls Try.prog 19 #[.slice A n c, .slice A2 n2 c2] w fun en w' => en = .returned (.bool R) ∧ Below w.heap.size w w' := by
  have h := eqf_any A A2 n n2 c c2 l l2 hm hm2 hs1 hs2 R hR w h1 h2
  clear hR h1 h2 hs1 hs2
  go_enter Try.func19, Try.ntmps19
  go_wp2_with (go_at_call 30; (with_reducible refine h.mono ?_); rintro en w1 ⟨rfl, hb⟩)
  go_ret
  exact ⟨rfl, hb⟩
set_option maxHeartbeats 4000000 in
theorem rsame_any (A A2 : Option Addr) (n n2 c c2 : Nat) (l l2 : List Cp) (hm : n ≤ 10000) (hm2 : n2 ≤ 10000) (hs1 : ∀ x ∈ l, x.txt.length ≤ 10000) (hs2 : ∀ x ∈ l2, x.txt.length ≤ 10000) (hta : ∀ x ∈ l, ∀ b ∈ x.txt, b < 256) (htb : ∀ x ∈ l2, ∀ b ∈ x.txt, b < 256) (R : Bool) (hR : decide (l = l2) = R) (w : World) (h1 : Cps w w.heap.size A n l) (h2 : Cps w w.heap.size A2 n2 l2) :
    Calls Try.prog 15 #[.slice A n c, .slice A2 n2 c2] w fun en w' => en = .returned (.bool R) ∧ Below w.heap.size w w' := by
  have ln1 := cps_len h1
  have ln2 := cps_len h2
  by_cases hlen : n = n2
  rotate_left
  · obtain rfl : false = R := by rw [← hR]; exact (decide_eq_false (fun e => hlen (by rw [← ln1, ← ln2, e]))).symm
    have t1 : ((n : Int) != n2) = true := by simp; omega
    have t2 : (n != n2) = true := by simp; omega
    clear hR h1 h2 hs1 hs2 ln1 ln2 hlen hta htb
    go_enter Try.func15, Try.ntmps15
    go_wp2
    go_ret
    exact ⟨rfl, Below.refl _ _⟩
  subst hlen
  have gno : Hid (∀ k : Nat, l[k]? ≠ l2[k]? → R = false) := Lib.hid (fun k h => by rw [← hR]; exact decide_eq_false (fun e => h (by rw [e])))
  have gyes : Hid ((∀ k : Nat, k < n → l[k]? = l2[k]?) → R = true) := Lib.hid (fun h => by
    rw [← hR]
    refine decide_eq_true (List.ext_getElem? fun i => ?_)
    rcases Nat.lt_or_ge i n with h3 | h3
    · exact h i h3
    · rw [List.getElem?_eq_none (by omega), List.getElem?_eq_none (by omega)])
  have t1 : ((n : Int) != n) = false := by simp
  have hB0 := Below.refl w.heap.size w
  clear hR ln1 ln2
  go_enter Try.func15, Try.ntmps15
  go_wp2
  go_loopw [5] (fun t wr => ∃ k : Nat, k ≤ n ∧ t = .int .i64 (k : Int) ∧ Hid (∀ j : Nat, j < k → l[j]? = l2[j]?) ∧ Below w.heap.size w wr) (fun t _ => n - (intOf t).toNat)
  case atStart => exact ⟨0, Nat.zero_le _, rfl, Lib.hid (fun j h => by omega), hB0⟩
  case round =>
    obtain ⟨k, hk, rfl, h0, hB⟩ := hrel
    by_cases hlt : k < n
    · obtain ⟨ad, num, dn, txt, sp, X, m, d, rfl, hb1, hl1, hx1, hxd1, hrel1⟩ := cps_rel h1 hlt
      obtain ⟨ad2, num2, dn2, txt2, sp2, X2, m2, d2, rfl, hb2, hl2, hx2, hxd2, hrel2⟩ := cps_rel h2 hlt
      have q1 : m ≤ 10000 := by have := hs1 _ (List.mem_of_getElem? hl1); simp only at this; omega
      have q2 : m2 ≤ 10000 := by have := hs2 _ (List.mem_of_getElem? hl2); simp only at this; omega
      obtain ⟨Q, hQ⟩ : ∃ Q, decide ((⟨num, dn, txt, sp⟩ : Cp) = ⟨num2, dn2, txt2, sp2⟩) = Q := ⟨_, rfl⟩
      have hal : ∀ w', Below w.heap.size w w' → Calls Try.prog 16 #[.agg #[.int .i64 num, .int .i64 dn, .slice X m d, .bool sp], .agg #[.int .i64 num2, .int .i64 dn2, .slice X2 m2 d2, .bool sp2]] w' (fun en w'' => en = .returned (.bool Q) ∧ Below w.heap.size w w'') := fun w' hw =>
        (sameOne_any num dn num2 dn2 X X2 m d m2 d2 txt txt2 sp sp2 hx1 hx2 (by omega) (by omega) (hta _ (List.mem_of_getElem? hl1)) (htb _ (List.mem_of_getElem? hl2)) Q hQ w' (hrel1 w' hw).1 (hrel2 w' hw).1).mono fun en w'' h => ⟨h.1, hw.trans (h.2.mono hw.size)⟩
      have i1 : (0 : Int) ≤ k := by omega
      have i2 : (k : Int) < n := by omega
      have hQ2 : Hid (Q = true → ∀ j : Nat, j < k + 1 → l[j]? = l2[j]?) := Lib.hid (fun hq j hj => by
        rcases Nat.lt_or_ge j k with h | h
        · exact h0.out j h
        · rw [show j = k by omega, hl1, hl2]
          rw [hq] at hQ
          rw [of_decide_eq_true hQ])
      have hQ3 : Hid (Q = false → R = false) := Lib.hid (fun hq => gno.out k (by
        rw [hl1, hl2]
        rw [hq] at hQ
        intro e
        injection e with e
        exact of_decide_eq_false hQ e))
      have SS : ∀ w', Below w.heap.size w w' → w'.cell? (ad.add (k * 4)) = some (.int .i64 num) ∧ w'.cell? ⟨(ad.add (k * 4)).block, (ad.add (k * 4)).off + 1, none⟩ = some (.int .i64 dn) ∧ w'.cell? ⟨(ad.add (k * 4)).block, (ad.add (k * 4)).off + 2, none⟩ = some (.slice X m d) ∧ w'.cell? ⟨(ad.add (k * 4)).block, (ad.add (k * 4)).off + 3, none⟩ = some (.bool sp) ∧ w'.cell? (ad2.add (k * 4)) = some (.int .i64 num2) ∧ w'.cell? ⟨(ad2.add (k * 4)).block, (ad2.add (k * 4)).off + 1, none⟩ = some (.int .i64 dn2) ∧ w'.cell? ⟨(ad2.add (k * 4)).block, (ad2.add (k * 4)).off + 2, none⟩ = some (.slice X2 m2 d2) ∧ w'.cell? ⟨(ad2.add (k * 4)).block, (ad2.add (k * 4)).off + 3, none⟩ = some (.bool sp2) := fun w' h => ⟨(hrel1 w' h).2.1, (hrel1 w' h).2.2.1, (hrel1 w' h).2.2.2.1, (hrel1 w' h).2.2.2.2, (hrel2 w' h).2⟩
      have hBd := hB.drew
      clear hl1 hl2 hx1 hx2 hrel1 hrel2 hQ h0 h1 h2 hs1 hs2 gno hB0 hB hta htb
      cases Q
      · obtain rfl := hQ3.out rfl
        clear gyes hQ2 hQ3
        go_wp2_with fail
        go_region_held3 (fun w' => w'.cell? (ad.add (k * 4)) = some (.int .i64 num) ∧ w'.cell? ⟨(ad.add (k * 4)).block, (ad.add (k * 4)).off + 1, none⟩ = some (.int .i64 dn) ∧ w'.cell? ⟨(ad.add (k * 4)).block, (ad.add (k * 4)).off + 2, none⟩ = some (.slice X m d) ∧ w'.cell? ⟨(ad.add (k * 4)).block, (ad.add (k * 4)).off + 3, none⟩ = some (.bool sp) ∧ w'.cell? (ad2.add (k * 4)) = some (.int .i64 num2) ∧ w'.cell? ⟨(ad2.add (k * 4)).block, (ad2.add (k * 4)).off + 1, none⟩ = some (.int .i64 dn2) ∧ w'.cell? ⟨(ad2.add (k * 4)).block, (ad2.add (k * 4)).off + 2, none⟩ = some (.slice X2 m2 d2) ∧ w'.cell? ⟨(ad2.add (k * 4)).block, (ad2.add (k * 4)).off + 3, none⟩ = some (.bool sp2)) (first | exact SS _ hBd | exact SS _ (by assumption)) (first | (go_at_call 16; (with_reducible refine (hal _ hBd).mono ?_); rintro en w6 ⟨rfl, hB6⟩))
        all_goals clear hal SS hBd
        all_goals go_wp2
        go_ret
        exact ⟨rfl, hB6⟩
      · have h0' := Lib.hid (hQ2.out rfl)
        clear hQ2 hQ3 gyes
        go_wp2_with fail
        go_region_held3 (fun w' => w'.cell? (ad.add (k * 4)) = some (.int .i64 num) ∧ w'.cell? ⟨(ad.add (k * 4)).block, (ad.add (k * 4)).off + 1, none⟩ = some (.int .i64 dn) ∧ w'.cell? ⟨(ad.add (k * 4)).block, (ad.add (k * 4)).off + 2, none⟩ = some (.slice X m d) ∧ w'.cell? ⟨(ad.add (k * 4)).block, (ad.add (k * 4)).off + 3, none⟩ = some (.bool sp) ∧ w'.cell? (ad2.add (k * 4)) = some (.int .i64 num2) ∧ w'.cell? ⟨(ad2.add (k * 4)).block, (ad2.add (k * 4)).off + 1, none⟩ = some (.int .i64 dn2) ∧ w'.cell? ⟨(ad2.add (k * 4)).block, (ad2.add (k * 4)).off + 2, none⟩ = some (.slice X2 m2 d2) ∧ w'.cell? ⟨(ad2.add (k * 4)).block, (ad2.add (k * 4)).off + 3, none⟩ = some (.bool sp2)) (first | exact SS _ hBd | exact SS _ (by assumption)) (first | (go_at_call 16; (with_reducible refine (hal _ hBd).mono ?_); rintro en w6 ⟨rfl, hB6⟩))
        all_goals clear hal SS hBd
        all_goals go_wp2
        go_roundw
        case rel => exact ⟨k + 1, by omega, by go_num, h0', hB6⟩
        case measure => simp [intOf] <;> omega
    · obtain rfl : k = n := by omega
      obtain rfl := gyes.out h0.out
      clear h0 h1 h2 hs1 hs2 gno gyes hB0 hta htb
      go_wp2
      go_ret
      exact ⟨rfl, hB⟩
end Go.Proofs.Ytbiodoeimbfbnaa
