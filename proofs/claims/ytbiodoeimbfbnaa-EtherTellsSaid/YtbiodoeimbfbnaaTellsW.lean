/- Ether: the walk of the law EtherTells -/
import Derived.Test.YtbiodoeimbfbnaaTP
import Derived.Deep.QuietTactic
import Derived.BigQuiet
namespace Go.Proofs.Ytbiodoeimbfbnaa
open Go.ChangeShapes Go.WideShapes Go.ChangeAt Go.RowKit
set_option linter.unusedSimpArgs false
set_option linter.unusedVariables false
theorem blk_cps {w : World} {g : Nat} {num dn : Int} {txt : List Nat} {sp : Bool} {X : Option Addr} {m d : Nat} (hm : txt.length = m) (hd : m ≤ d) (kb : Blk w g 25 #[.int .i64 num, .int .i64 dn, .slice X m d, .bool sp]) (hX : Reads w w.heap.size 1 X m (ints .u8 txt)) :
    Cps w w.heap.size (some ⟨g, 0, none⟩) 1 [⟨num, dn, txt, sp⟩] := by
  have hr := reads_blk (size := 4) (n := 1) kb rfl
  have h2 := rows_cps2 (os := [(⟨num, dn, txt, sp⟩, X, d)]) (by simpa [row4, hm] using hr.more (show g + 1 ≤ w.heap.size from kb.lt)) (fun o ho => by rw [List.mem_singleton.1 ho]; simp only [hm]; exact ⟨hd, hX⟩)
  exact h2
def TwoR (V : World) (n : Nat) (l : List Cp) (num dn : Int) (txt : List Nat) (sp : Bool) (m : Nat) (s11 s12 : Value) (wx : World) : Prop :=
  ∃ Ao co a1 X1 c1 d1, s11 = .slice Ao n co ∧ s12 = .slice (some a1) 1 c1 ∧ n ≤ co ∧ m ≤ d1 ∧ Cps wx wx.heap.size Ao n l ∧ (∀ w', Below wx.heap.size wx w' → Reads w' w'.heap.size 1 X1 m (ints .u8 txt) ∧ w'.cell? a1 = some (.int .i64 num) ∧ w'.cell? ⟨a1.block, a1.off + 1, none⟩ = some (.int .i64 dn) ∧ w'.cell? ⟨a1.block, a1.off + 2, none⟩ = some (.slice X1 m d1) ∧ w'.cell? ⟨a1.block, a1.off + 3, none⟩ = some (.bool sp)) ∧ Below V.heap.size V wx
theorem rtwin_one (num dn : Int) (txt : List Nat) (sp : Bool) (m : Nat) (hm : txt.length = m) (hm2 : m ≤ 10000) (A : Option Addr) (c : Nat) (w : World) (h1 : Cps w w.heap.size A 1 [⟨num, dn, txt, sp⟩]) :
    Calls Try.prog 5 #[.slice A 1 c] w fun en wx => ∃ a1 X1 c1 d1, en = .returned (.slice (some a1) 1 c1) ∧ m ≤ d1 ∧ (∀ w', Below wx.heap.size wx w' → Reads w' w'.heap.size 1 X1 m (ints .u8 txt) ∧ w'.cell? a1 = some (.int .i64 num) ∧ w'.cell? ⟨a1.block, a1.off + 1, none⟩ = some (.int .i64 dn) ∧ w'.cell? ⟨a1.block, a1.off + 2, none⟩ = some (.slice X1 m d1) ∧ w'.cell? ⟨a1.block, a1.off + 3, none⟩ = some (.bool sp)) ∧ Below w.heap.size w wx := by
  refine (rtwin_any A 1 c _ (by omega) (fun x hx => by rw [List.mem_singleton.1 hx]; simp only; omega) w h1).mono ?_
  rintro en wx ⟨Ao, co, rfl, _, ho, _, hb, _⟩
  obtain ⟨ao, num', dn', txt', sp', Xo, mo, do_, rfl, _, hlo, hmo, hdo, hro⟩ := cps_rel ho (show 0 < 1 by omega)
  injection hlo with hlo
  injection hlo with e1 e2 e3 e4
  subst e1 e2 e3 e4
  obtain rfl : mo = m := by rw [← hmo, hm]
  refine ⟨ao, Xo, co, do_, rfl, hdo, fun w' hw => ?_, hb⟩
  obtain ⟨q, c0, c1, c2, c3⟩ := hro w' hw
  rw [Nat.zero_mul] at c0 c1 c2 c3
  simp only [Addr.add, if_true] at c0 c1 c2 c3
  exact ⟨q, c0, c1, c2, c3⟩
set_option maxRecDepth 100000 in
set_option maxHeartbeats 16000000 in
theorem EtherTells.walk (A : Option Addr) (n c : Nat) (l : List Cp) (A2 : Option Addr) (n2 c2 : Nat) (o : List Cp) (num dn : Int) (txt : List Nat) (sp : Bool) (X : Option Addr) (m d : Nat) (i x : Int) (hmx : n ≤ maxLen) (hnc : n ≤ c) (hmx2 : n2 ≤ maxLen) (hby : ∀ x ∈ l, ∀ b ∈ x.txt, b < 256) (hby2 : ∀ x ∈ o, ∀ b ∈ x.txt, b < 256) (hm : txt.length = m) (hd : m ≤ d) (hbx : ∀ b ∈ txt, b < 256) (w : World) (h1 : Cps w w.heap.size A n l) (h2 : Cps w w.heap.size A2 n2 o) (hX : Reads w w.heap.size 1 X m (ints .u8 txt)) :
    Calls Try.prog 3 #[.slice A n c, .slice A2 n2 c2, .agg #[.int .i64 num, .int .i64 dn, .slice X m d, .bool sp], .int .i64 i, .int .i64 x] w fun e w' => e = .returned (.bool true) ∧ Below w.heap.size w w' := by
  have ln := cps_len h1
  have ln2 := cps_len h2
  obtain ⟨V, hV⟩ : ∃ V, V = w.alloc (.cells #[.int .i64 num, .int .i64 dn, .slice X m d, .bool sp] 25) := ⟨_, rfl⟩
  have hB0 : Below w.heap.size w V := by rw [hV]; exact (Below.refl _ _).alloc (Nat.le_refl _) _
  have kc : Blk V w.heap.size 25 #[.int .i64 num, .int .i64 dn, .slice X m d, .bool sp] := by rw [hV]; exact Blk.new _ _ _
  have r0 := (h1.below hB0).more hB0.size
  have r02 := (h2.below hB0).more hB0.size
  have hX0 := (hX.below hB0).more hB0.size
  have kc2 := kc.cell 2
  simp only [List.getElem?_toArray, List.getElem?_cons_zero, List.getElem?_cons_succ] at kc2
  have gm := Lib.hid hm
  have gd := Lib.hid hd
  have gby := Lib.hid hby
  have gby2 := Lib.hid hby2
  have gbx := Lib.hid hbx
  have gln := Lib.hid ln
  have gln2 := Lib.hid ln2
  have gr1 := great_any A n c l hmx V r0
  have gr2 := great_any A2 n2 c2 o hmx2 V r02
  clear h1 h2 hX hm hd hby hby2 hbx ln ln2
  go_enter Try.func3, Try.ntmps3
  go_wp2_with fail
  rw [← hV]
  clear hV
  refine gr1.mono ?_
  rintro e v0' ⟨G, rfl, rfl, hG⟩
  cases G with
  | true =>
    clear r0 r02 hX0 hG gr2
    go_wp2
    go_ret
    exact ⟨rfl, hB0⟩
  | false =>
  obtain ⟨h20, ht5⟩ := hG rfl
  rw [gln.out] at h20
  clear hG gr1
  go_wp2_with fail
  refine gr2.mono ?_
  rintro e v0' ⟨G, rfl, rfl, hG⟩
  cases G with
  | true =>
    clear r0 r02 hX0 hG ht5
    go_wp2
    go_ret
    exact ⟨rfl, hB0⟩
  | false =>
  obtain ⟨h202, ht52⟩ := hG rfl
  rw [gln2.out] at h202
  clear hG gr2
  by_cases hm5 : 5000 < m
  · have d1 : decide ((5000 : Int) < m) = true := decide_eq_true (by omega)
    have d2 : decide (5000 < m) = true := decide_eq_true hm5
    clear r0 r02 hX0 hm5 ht5 ht52
    go_wp2
    go_ret
    exact ⟨rfl, hB0⟩
  have d1 : decide ((5000 : Int) < m) = false := decide_eq_false (by omega)
  have d2 : decide (5000 < m) = false := decide_eq_false hm5
  have hm5' : m ≤ 5000 := by omega
  have gt5 : Hid (∀ x ∈ l, x.txt.length ≤ 10000) := Lib.hid (fun x hx => by have := ht5 x hx; omega)
  have gt52 : Hid (∀ x ∈ o, x.txt.length ≤ 10000) := Lib.hid (fun x hx => by have := ht52 x hx; omega)
  have hn : n ≤ 1000 := by omega
  have hn2 : n2 ≤ 1000 := by omega
  clear hm5 ht5 ht52
  have htw : ∀ w', Below V.heap.size V w' → Calls Try.prog 5 #[.slice A n c] w' fun en w'' => ∃ Ao co, en = .returned (.slice Ao n co) ∧ n ≤ co ∧ Cps w'' w''.heap.size Ao n l ∧ Below w'.heap.size w' w'' := by
    intro w' hw
    refine (rtwin_any A n c l hn gt5.out w' ((r0.below hw).more hw.size)).mono ?_
    rintro en w'' ⟨Ao, co, rfl, hco, ho, _, hb, _⟩
    exact ⟨Ao, co, rfl, hco, ho, hb⟩
  have hon : ∀ w' g, Blk w' g 25 #[.int .i64 num, .int .i64 dn, .slice X m d, .bool sp] → Below V.heap.size V w' → Calls Try.prog 5 #[.slice (some ⟨g, 0, none⟩) 1 1] w' fun en wx => ∃ a1 X1 c1 d1, en = .returned (.slice (some a1) 1 c1) ∧ m ≤ d1 ∧ (∀ w', Below wx.heap.size wx w' → Reads w' w'.heap.size 1 X1 m (ints .u8 txt) ∧ w'.cell? a1 = some (.int .i64 num) ∧ w'.cell? ⟨a1.block, a1.off + 1, none⟩ = some (.int .i64 dn) ∧ w'.cell? ⟨a1.block, a1.off + 2, none⟩ = some (.slice X1 m d1) ∧ w'.cell? ⟨a1.block, a1.off + 3, none⟩ = some (.bool sp)) ∧ Below w'.heap.size w' wx := by
    intro w' g hk hw
    exact rtwin_one num dn txt sp m gm.out (by omega) _ 1 w' (blk_cps gm.out gd.out hk ((hX0.below hw).more hw.size))
  have SV : ∀ w', Below V.heap.size V w' → w'.cell? ⟨w.heap.size, 0, none⟩ = some (.int .i64 num) ∧ w'.cell? ⟨w.heap.size, 1, none⟩ = some (.int .i64 dn) ∧ w'.cell? ⟨w.heap.size, 2, none⟩ = some (.slice X m d) ∧ w'.cell? ⟨w.heap.size, 3, none⟩ = some (.bool sp) := by
    intro w' hw
    have k5 := kc.below hw kc.lt
    have c0 := k5.cell 0
    have c1 := k5.cell 1
    have c2 := k5.cell 2
    have c3 := k5.cell 3
    simp only [List.getElem?_toArray, List.getElem?_cons_zero, List.getElem?_cons_succ] at c0 c1 c2 c3
    exact ⟨c0, c1, c2, c3⟩
  have hV0 : Below V.heap.size V V := Below.refl _ _
  obtain ⟨z0, z1, z2, z3⟩ := SV V hV0
  go_upto_region 3 with fail
  go_cut [11, 12] (fun s11 s12 wx => TwoR V n l num dn txt sp m s11 s12 wx)
  case first =>
    go_region_held3 (fun w' => w'.cell? ⟨w.heap.size, 0, none⟩ = some (.int .i64 num) ∧ w'.cell? ⟨w.heap.size, 1, none⟩ = some (.int .i64 dn) ∧ w'.cell? ⟨w.heap.size, 2, none⟩ = some (.slice X m d) ∧ w'.cell? ⟨w.heap.size, 3, none⟩ = some (.bool sp)) ((refine SV _ ?_; (repeat first | with_reducible assumption | with_reducible exact Below.refl _ _ | with_reducible refine Below.drew ?_ | (with_reducible refine Below.setCell ?_ (by first | exact Nat.le_refl _ | (simp only [World.size_alloc, World.size_drew, size_set]; omega) | omega) _) | (with_reducible refine Below.alloc ?_ (by first | exact Nat.le_refl _ | (simp only [World.size_alloc, World.size_drew, size_set]; omega) | omega) _)))) (first | (go_at_call 5; (with_reducible refine (htw _ (by (repeat first | with_reducible assumption | with_reducible exact Below.refl _ _ | with_reducible refine Below.drew ?_ | (with_reducible refine Below.setCell ?_ (by first | exact Nat.le_refl _ | (simp only [World.size_alloc, World.size_drew, size_set]; omega) | omega) _) | (with_reducible refine Below.alloc ?_ (by first | exact Nat.le_refl _ | (simp only [World.size_alloc, World.size_drew, size_set]; omega) | omega) _)))).mono ?_); rintro en v1 ⟨Ao, co, rfl, hco, oo, hb1⟩; have hbv : Below V.heap.size V v1 := Below.trans (by (repeat first | with_reducible assumption | with_reducible exact Below.refl _ _ | with_reducible refine Below.drew ?_ | (with_reducible refine Below.setCell ?_ (by first | exact Nat.le_refl _ | (simp only [World.size_alloc, World.size_drew, size_set]; omega) | omega) _) | (with_reducible refine Below.alloc ?_ (by first | exact Nat.le_refl _ | (simp only [World.size_alloc, World.size_drew, size_set]; omega) | omega) _))) (hb1.mono (by first | exact Nat.le_refl _ | (simp only [World.size_alloc, World.size_drew, size_set]; omega) | omega)); have hs1 := hbv.size; (try have kB : Blk v1 V.heap.size 25 #[.int .i64 num, .int .i64 dn, .slice X m d, .bool sp] := Blk.below (by first | with_reducible exact blk1 _ _ _ | with_reducible exact blk2 _ _ _ _ | with_reducible exact blk3 _ _ _ _ | with_reducible exact Blk.drew (blk1 _ _ _) | with_reducible exact Blk.drew (blk2 _ _ _ _) | with_reducible exact Blk.drew (blk3 _ _ _ _)) hb1 (by first | exact Nat.le_refl _ | (simp only [World.size_alloc, World.size_drew, size_set]; omega) | omega))) | (go_at_call 5; (with_reducible refine (hon _ _ kB (by (repeat first | with_reducible assumption | with_reducible exact Below.refl _ _ | with_reducible refine Below.drew ?_ | (with_reducible refine Below.setCell ?_ (by first | exact Nat.le_refl _ | (simp only [World.size_alloc, World.size_drew, size_set]; omega) | omega) _) | (with_reducible refine Below.alloc ?_ (by first | exact Nat.le_refl _ | (simp only [World.size_alloc, World.size_drew, size_set]; omega) | omega) _)))).mono ?_); rintro en v2 ⟨a1, X1, c1, d1, rfl, hd1, hr1, hb2⟩; have hbv2 : Below V.heap.size V v2 := Below.trans (by (repeat first | with_reducible assumption | with_reducible exact Below.refl _ _ | with_reducible refine Below.drew ?_ | (with_reducible refine Below.setCell ?_ (by first | exact Nat.le_refl _ | (simp only [World.size_alloc, World.size_drew, size_set]; omega) | omega) _) | (with_reducible refine Below.alloc ?_ (by first | exact Nat.le_refl _ | (simp only [World.size_alloc, World.size_drew, size_set]; omega) | omega) _))) (hb2.mono (by first | exact Nat.le_refl _ | (simp only [World.size_alloc, World.size_drew, size_set]; omega) | omega)); have hs2 := hbv2.size) | (go_at_call 5; (with_reducible refine (hon _ _ (by first | with_reducible exact blk1 _ _ _ | with_reducible exact blk2 _ _ _ _ | with_reducible exact blk3 _ _ _ _ | with_reducible exact Blk.drew (blk1 _ _ _) | with_reducible exact Blk.drew (blk2 _ _ _ _) | with_reducible exact Blk.drew (blk3 _ _ _ _)) (by (repeat first | with_reducible assumption | with_reducible exact Below.refl _ _ | with_reducible refine Below.drew ?_ | (with_reducible refine Below.setCell ?_ (by first | exact Nat.le_refl _ | (simp only [World.size_alloc, World.size_drew, size_set]; omega) | omega) _) | (with_reducible refine Below.alloc ?_ (by first | exact Nat.le_refl _ | (simp only [World.size_alloc, World.size_drew, size_set]; omega) | omega) _)))).mono ?_); rintro en v2 ⟨a1, X1, c1, d1, rfl, hd1, hr1, hb2⟩; have hbv2 : Below V.heap.size V v2 := Below.trans (by (repeat first | with_reducible assumption | with_reducible exact Below.refl _ _ | with_reducible refine Below.drew ?_ | (with_reducible refine Below.setCell ?_ (by first | exact Nat.le_refl _ | (simp only [World.size_alloc, World.size_drew, size_set]; omega) | omega) _) | (with_reducible refine Below.alloc ?_ (by first | exact Nat.le_refl _ | (simp only [World.size_alloc, World.size_drew, size_set]; omega) | omega) _))) (hb2.mono (by first | exact Nat.le_refl _ | (simp only [World.size_alloc, World.size_drew, size_set]; omega) | omega)); have hs2 := hbv2.size))
    all_goals
      go_wp2_with fail
      go_meet
      exact ⟨Ao, co, a1, X1, c1, d1, rfl, rfl, hco, hd1, (((oo.below (B := v1.heap.size) (by (repeat first | with_reducible assumption | with_reducible exact Below.refl _ _ | with_reducible refine Below.drew ?_ | (with_reducible refine Below.setCell ?_ (by first | exact Nat.le_refl _ | (simp only [World.size_alloc, World.size_drew, size_set]; omega) | omega) _) | (with_reducible refine Below.alloc ?_ (by first | exact Nat.le_refl _ | (simp only [World.size_alloc, World.size_drew, size_set]; omega) | omega) _)))).below (hb2.mono (by first | exact Nat.le_refl _ | (simp only [World.size_alloc, World.size_drew, size_set]; omega) | omega))).more (Nat.le_trans (by first | exact Nat.le_refl _ | (simp only [World.size_alloc, World.size_drew, size_set]; omega) | omega) hb2.size)), hr1, hbv2⟩
  case rest =>
    obtain ⟨Ao, co, a1, X1, c1, d1, rfl, rfl, hco, hd1, ro, ra1, hbV⟩ := hcut
    have rl := (r0.below hbV).more hbV.size
    have rO := (r02.below hbV).more hbV.size
    have rX := (hX0.below hbV).more hbV.size
    have kcw := kc.below hbV kc.lt
    have hBW := hB0.trans (hbV.mono hB0.size)
    obtain ⟨Q, hQd⟩ : ∃ Q : Cp → Prop, Q = fun y => y.txt.length ≤ 10000 ∧ ∀ b ∈ y.txt, b < 256 := ⟨_, rfl⟩
    have hQ : ∀ y ∈ l, Q y := fun y hy => by rw [hQd]; exact ⟨gt5.out y hy, gby.out y hy⟩
    have hQc : Q ⟨num, dn, txt, sp⟩ := by rw [hQd]; exact ⟨by simp only; rw [gm.out]; omega, gbx.out⟩
    have hQ0 : Q ⟨0, 0, [], false⟩ := by rw [hQd]; exact ⟨by simp, by simp⟩
    have hq1 := snd_all hQ hQc
    have hn1 := snd_len l ⟨num, dn, txt, sp⟩
    have hq3 := tk_all (i := i) hQ
    have hn3 := tk_len l i
    have hqx := tk_one (i := i) hQ hQ0
    have hq5 := dbl_all (i := i) hQ
    have hn5 := dbl_len l i
    rw [gln.out] at hn1 hn3 hn5
    obtain ⟨R1, hR1⟩ : ∃ R, sndS l ⟨num, dn, txt, sp⟩ = R := ⟨_, rfl⟩
    obtain ⟨R3, hR3⟩ : ∃ R, tkS l i = R := ⟨_, rfl⟩
    obtain ⟨R5, hR5⟩ : ∃ R, dblS l i = R := ⟨_, rfl⟩
    obtain ⟨R7, hR7⟩ : ∃ R, manyS l x = R := ⟨_, rfl⟩
    obtain ⟨R8, hR8⟩ : ∃ R, chkE l = R := ⟨_, rfl⟩
    obtain ⟨R9, hR9⟩ : ∃ R, decide (l = o) = R := ⟨_, rfl⟩
    rw [hR1] at hq1 hn1
    rw [hR3] at hq3 hn3 hqx
    rw [hR5] at hq5 hn5
    have gR1 := Lib.hid hR1
    have gR3 := Lib.hid hR3
    have gR5 := Lib.hid hR5
    have gR7 := Lib.hid hR7
    have gR8 := Lib.hid hR8
    have gR9 := Lib.hid hR9
    obtain ⟨S1, E1⟩ := R1
    obtain ⟨S3, ⟨xn, xd, xt, xs⟩, E3⟩ := R3
    obtain ⟨S5, E5⟩ := R5
    simp only at hq1 hn1 hq3 hn3 hqx hq5 hn5
    obtain ⟨q1, hl1⟩ : ∃ q, S1.length = q := ⟨_, rfl⟩
    obtain ⟨q3, hl3⟩ : ∃ q, S3.length = q := ⟨_, rfl⟩
    obtain ⟨q5, hl5⟩ : ∃ q, S5.length = q := ⟨_, rfl⟩
    rw [hl1] at hn1
    rw [hl3] at hn3
    rw [hl5] at hn5
    have gl1 := Lib.hid hl1
    have gl3 := Lib.hid hl3
    have gl5 := Lib.hid hl5
    have gQd := Lib.hid hQd
    have gq1 := Lib.hid hq1
    have gq3 := Lib.hid hq3
    have gqx := Lib.hid hqx
    have gq5 := Lib.hid hq5
    have gQl := Lib.hid hQ
    have qT : ∀ {S : List Cp}, (∀ y ∈ S, Q y) → ∀ y ∈ S, y.txt.length ≤ 10000 := fun h y hy => by have := h y hy; rw [gQd.out] at this; exact this.1
    have qB : ∀ {S : List Cp}, (∀ y ∈ S, Q y) → ∀ y ∈ S, ∀ b ∈ y.txt, b < 256 := fun h y hy => by have := h y hy; rw [gQd.out] at this; exact this.2
    have gqT := Lib.hid (fun (S : List Cp) (h : ∀ y ∈ S, Q y) => qT h)
    have gqB := Lib.hid (fun (S : List Cp) (h : ∀ y ∈ S, Q y) => qB h)
    have m1000 : q1 ≤ 1000 ∧ q3 ≤ 1000 ∧ q5 ≤ 1000 := by omega
    clear hR1 hR3 hR5 hR7 hR8 hR9 hl1 hl3 hl5 hQd hq1 hq3 hqx hq5 hQ hQc hQ0 qT qB hn1 hn3 hn5 r0 r02 hX0 htw hon kc SV hV0 z0 z1 z2 z3 hB0 hbV kc2
    have hrw := Lib.hid ra1
    obtain ⟨_, a10, a11, a12, a13⟩ := ra1 wc (Below.refl _ _)
    clear ra1
    have gro := Lib.hid ro
    have grl := Lib.hid rl
    have grO := Lib.hid rO
    have grX := Lib.hid rX
    clear ro rl rO rX
    have kW := Below.refl wc.heap.size wc
    have hs := send_any Ao n co l hn num dn txt sp X1 m d1 gm.out hd1 wc gro.out (hrw.out wc (Below.refl _ _)).1
    rw [gR1.out] at hs
    go_wp2_with fail
    refine hs.mono ?_
    rintro e w1 ⟨As, cs, rfl, hcs, os, hws, hb⟩
    simp only [gl1.out] at hcs os hws ⊢
    have gos := Lib.hid os
    have gws := Lib.hid hws
    have zz1 := hb.size
    clear hs os hws a10 a11 a12 a13
    replace kW := kW.trans (hb.mono kW.size)
    clear hb
    have k1 := Below.refl w1.heap.size w1
    have b0 := (kcw.below kW kcw.lt).cell 0
    have b1 := (kcw.below kW kcw.lt).cell 1
    have b2 := (kcw.below kW kcw.lt).cell 2
    have b3 := (kcw.below kW kcw.lt).cell 3
    simp only [List.getElem?_toArray, List.getElem?_cons_zero, List.getElem?_cons_succ] at b0 b1 b2 b3
    have hs := rsend_any A n c l hn num dn txt sp X m d gm.out gd.out w1 ((grl.out.below kW).more kW.size) ((grX.out.below kW).more kW.size)
    rw [gR1.out] at hs
    go_wp2_with fail
    refine hs.mono ?_
    rintro e w2 ⟨Ab, cb, rfl, ob, hb⟩
    simp only [gl1.out] at ob ⊢
    have gob := Lib.hid ob
    have zz2 := hb.size
    clear hs ob b0 b1 b2 b3
    replace kW := kW.trans (hb.mono kW.size)
    replace k1 := k1.trans (hb.mono k1.size)
    clear hb
    have k2 := Below.refl w2.heap.size w2
    have hs := take_any Ao n co l hn hco i w2 ((gro.out.below kW).more kW.size)
    rw [gR3.out] at hs
    go_wp2_with fail
    refine hs.mono ?_
    rintro e w3 ⟨Ap, cp, Xx, mx, dx, K, rfl, hcp, op, hmx, hdx, rx, hK1, hK2, hwp, hwx, hb⟩
    simp only [gl3.out] at hcp op hmx rx hwp hwx ⊢
    have gop := Lib.hid op
    have gmx := Lib.hid hmx
    have grx := Lib.hid rx
    have gwp := Lib.hid hwp
    have gwx := Lib.hid hwx
    have zz3 := hb.size
    clear hs op hmx rx hwp hwx
    replace kW := kW.trans (hb.mono kW.size)
    replace k1 := k1.trans (hb.mono k1.size)
    replace k2 := k2.trans (hb.mono k2.size)
    clear hb
    have k3 := Below.refl w3.heap.size w3
    obtain ⟨V3, hV3⟩ : ∃ V, V = w3.alloc (.cells #[.int .i64 xn, .int .i64 xd, .slice Xx mx dx, .bool xs] 25) := ⟨_, rfl⟩
    have bx : Blk V3 w3.heap.size 25 #[.int .i64 xn, .int .i64 xd, .slice Xx mx dx, .bool xs] := by rw [hV3]; exact Blk.new _ _ _
    have hb : Below w3.heap.size w3 V3 := by rw [hV3]; exact (Below.refl _ _).alloc (Nat.le_refl _) _
    replace kW := kW.trans (hb.mono kW.size)
    replace k1 := k1.trans (hb.mono k1.size)
    replace k2 := k2.trans (hb.mono k2.size)
    replace k3 := k3.trans (hb.mono k3.size)
    clear hb
    have k3b := Below.refl V3.heap.size V3
    have hs := rtake_any A n c l hn hnc i V3 ((grl.out.below kW).more kW.size)
    rw [gR3.out] at hs
    go_wp2_with fail
    rw [← hV3]
    clear hV3
    refine hs.mono ?_
    rintro e w4 ⟨Aq, cq, Xy, my, dy, rfl, oq, hmy, ry, hb⟩
    simp only [gl3.out] at oq hmy ry ⊢
    have goq := Lib.hid oq
    have gmy := Lib.hid hmy
    have gry := Lib.hid ry
    have zz4 := hb.size
    clear hs oq hmy ry
    replace kW := kW.trans (hb.mono kW.size)
    replace k1 := k1.trans (hb.mono k1.size)
    replace k2 := k2.trans (hb.mono k2.size)
    replace k3 := k3.trans (hb.mono k3.size)
    replace k3b := k3b.trans (hb.mono k3b.size)
    clear hb
    have k4 := Below.refl w4.heap.size w4
    obtain ⟨V4, hV4⟩ : ∃ V, V = w4.alloc (.cells #[.int .i64 xn, .int .i64 xd, .slice Xy my dy, .bool xs] 25) := ⟨_, rfl⟩
    have by_ : Blk V4 w4.heap.size 25 #[.int .i64 xn, .int .i64 xd, .slice Xy my dy, .bool xs] := by rw [hV4]; exact Blk.new _ _ _
    have hb : Below w4.heap.size w4 V4 := by rw [hV4]; exact (Below.refl _ _).alloc (Nat.le_refl _) _
    replace kW := kW.trans (hb.mono kW.size)
    replace k1 := k1.trans (hb.mono k1.size)
    replace k2 := k2.trans (hb.mono k2.size)
    replace k3 := k3.trans (hb.mono k3.size)
    replace k3b := k3b.trans (hb.mono k3b.size)
    replace k4 := k4.trans (hb.mono k4.size)
    clear hb
    have k4b := Below.refl V4.heap.size V4
    have hs := double_any Ao n co l hn i V4 ((gro.out.below kW).more kW.size)
    rw [gR5.out] at hs
    go_wp2_with fail
    rw [← hV4]
    clear hV4
    refine hs.mono ?_
    rintro e w5 ⟨Ad, cd, rfl, hcd, od, hwd, hb⟩
    simp only [gl5.out] at hcd od hwd ⊢
    have god := Lib.hid od
    have gwd := Lib.hid hwd
    have zz5 := hb.size
    clear hs od hwd
    replace kW := kW.trans (hb.mono kW.size)
    replace k1 := k1.trans (hb.mono k1.size)
    replace k2 := k2.trans (hb.mono k2.size)
    replace k3 := k3.trans (hb.mono k3.size)
    replace k3b := k3b.trans (hb.mono k3b.size)
    replace k4 := k4.trans (hb.mono k4.size)
    replace k4b := k4b.trans (hb.mono k4b.size)
    clear hb
    have k5 := Below.refl w5.heap.size w5
    have hs := rdouble_any A n c l hn i w5 ((grl.out.below kW).more kW.size)
    rw [gR5.out] at hs
    go_wp2_with fail
    refine hs.mono ?_
    rintro e w6 ⟨Ak, ck, rfl, ok, hb⟩
    simp only [gl5.out] at ok ⊢
    have gok := Lib.hid ok
    have zz6 := hb.size
    clear hs ok
    replace kW := kW.trans (hb.mono kW.size)
    replace k1 := k1.trans (hb.mono k1.size)
    replace k2 := k2.trans (hb.mono k2.size)
    replace k3 := k3.trans (hb.mono k3.size)
    replace k3b := k3b.trans (hb.mono k3b.size)
    replace k4 := k4.trans (hb.mono k4.size)
    replace k4b := k4b.trans (hb.mono k4b.size)
    replace k5 := k5.trans (hb.mono k5.size)
    clear hb
    have k6 := Below.refl w6.heap.size w6
    have hs := many_any Ao n co l hn x w6 ((gro.out.below kW).more kW.size) _ gR7.out
    go_wp2_with fail
    refine hs.mono ?_
    rintro e w7 ⟨rfl, hb⟩
    clear hs
    replace kW := kW.trans (hb.mono kW.size)
    replace k1 := k1.trans (hb.mono k1.size)
    replace k2 := k2.trans (hb.mono k2.size)
    replace k3 := k3.trans (hb.mono k3.size)
    replace k3b := k3b.trans (hb.mono k3b.size)
    replace k4 := k4.trans (hb.mono k4.size)
    replace k4b := k4b.trans (hb.mono k4b.size)
    replace k5 := k5.trans (hb.mono k5.size)
    replace k6 := k6.trans (hb.mono k6.size)
    clear hb
    have hs := rmany_any A n c l hn x w7 ((grl.out.below kW).more kW.size) _ gR7.out
    go_wp2_with fail
    refine hs.mono ?_
    rintro e w8 ⟨rfl, hb⟩
    clear hs
    replace kW := kW.trans (hb.mono kW.size)
    replace k1 := k1.trans (hb.mono k1.size)
    replace k2 := k2.trans (hb.mono k2.size)
    replace k3 := k3.trans (hb.mono k3.size)
    replace k3b := k3b.trans (hb.mono k3b.size)
    replace k4 := k4.trans (hb.mono k4.size)
    replace k4b := k4b.trans (hb.mono k4b.size)
    replace k5 := k5.trans (hb.mono k5.size)
    replace k6 := k6.trans (hb.mono k6.size)
    clear hb
    have zz8 := k5.size
    have hs := twin_any Ao n co l hn gt5.out w8 ((gro.out.below kW).more kW.size)
    go_wp2_with fail
    refine hs.mono ?_
    rintro e w9 ⟨At, ct, rfl, hct, ot, hwt, hb, _⟩
    have got := Lib.hid ot
    have gwt := Lib.hid hwt
    have sz8 := hb.size
    clear hs ot hwt
    replace kW := kW.trans (hb.mono kW.size)
    replace k1 := k1.trans (hb.mono k1.size)
    replace k2 := k2.trans (hb.mono k2.size)
    replace k3 := k3.trans (hb.mono k3.size)
    replace k3b := k3b.trans (hb.mono k3b.size)
    replace k4 := k4.trans (hb.mono k4.size)
    replace k4b := k4b.trans (hb.mono k4b.size)
    replace k5 := k5.trans (hb.mono k5.size)
    replace k6 := k6.trans (hb.mono k6.size)
    have k68 := k6.size
    have k9 := Below.refl w9.heap.size w9
    clear hb
    have hs := rsame_any As Ab q1 q1 cs cb S1 S1 (by omega) (by omega) (gqT.out _ gq1.out) (gqT.out _ gq1.out) (gqB.out _ gq1.out) (gqB.out _ gq1.out) true (by simp) w9 ((gos.out.below k1).more k1.size) ((gob.out.below k2).more k2.size)
    go_wp2_with fail
    refine hs.mono ?_
    rintro e w10 ⟨rfl, hb⟩
    clear hs
    replace kW := kW.trans (hb.mono kW.size)
    replace k1 := k1.trans (hb.mono k1.size)
    replace k2 := k2.trans (hb.mono k2.size)
    replace k3 := k3.trans (hb.mono k3.size)
    replace k3b := k3b.trans (hb.mono k3b.size)
    replace k4 := k4.trans (hb.mono k4.size)
    replace k4b := k4b.trans (hb.mono k4b.size)
    replace k5 := k5.trans (hb.mono k5.size)
    replace k6 := k6.trans (hb.mono k6.size)
    replace k9 := k9.trans (hb.mono k9.size)
    clear hb
    have hs := rsame_any Ap Aq q3 q3 cp cq S3 S3 (by omega) (by omega) (gqT.out _ gq3.out) (gqT.out _ gq3.out) (gqB.out _ gq3.out) (gqB.out _ gq3.out) true (by simp) w10 ((gop.out.below k3).more k3.size) ((goq.out.below k4).more k4.size)
    go_wp2_with fail
    refine hs.mono ?_
    rintro e w11 ⟨rfl, hb⟩
    clear hs
    replace kW := kW.trans (hb.mono kW.size)
    replace k1 := k1.trans (hb.mono k1.size)
    replace k2 := k2.trans (hb.mono k2.size)
    replace k3 := k3.trans (hb.mono k3.size)
    replace k3b := k3b.trans (hb.mono k3b.size)
    replace k4 := k4.trans (hb.mono k4.size)
    replace k4b := k4b.trans (hb.mono k4b.size)
    replace k5 := k5.trans (hb.mono k5.size)
    replace k6 := k6.trans (hb.mono k6.size)
    replace k9 := k9.trans (hb.mono k9.size)
    clear hb
    have hxq : xt.length ≤ 10000 ∧ ∀ b ∈ xt, b < 256 := by have := gqx.out; rw [gQd.out] at this; exact this
    have hmx5 : mx ≤ 100000 := by have := gmx.out; have := hxq.1; omega
    have hmy5 : my ≤ 100000 := by have := gmy.out; have := hxq.1; omega
    have hxb := hxq.2
    have hmx4 : mx ≤ 10000 := by have := gmx.out; have := hxq.1; omega
    clear hxq
    have x0 := (bx.below k3b bx.lt).cell 0
    have x1 := (bx.below k3b bx.lt).cell 1
    have x2 := (bx.below k3b bx.lt).cell 2
    have x3 := (bx.below k3b bx.lt).cell 3
    simp only [List.getElem?_toArray, List.getElem?_cons_zero, List.getElem?_cons_succ] at x0 x1 x2 x3
    have y0 := (by_.below k4b by_.lt).cell 0
    have y1 := (by_.below k4b by_.lt).cell 1
    have y2 := (by_.below k4b by_.lt).cell 2
    have y3 := (by_.below k4b by_.lt).cell 3
    simp only [List.getElem?_toArray, List.getElem?_cons_zero, List.getElem?_cons_succ] at y0 y1 y2 y3
    have hs := sameOne_any xn xd xn xd Xx Xy mx dx my dy xt xt xs xs gmx.out gmy.out hmx5 hmy5 hxb hxb true (by simp) w11 ((grx.out.below k3).more k3.size) ((gry.out.reads.below k4).more k4.size)
    go_wp2_with fail
    refine hs.mono ?_
    rintro e w12 ⟨rfl, hb⟩
    clear hs
    replace kW := kW.trans (hb.mono kW.size)
    replace k1 := k1.trans (hb.mono k1.size)
    replace k2 := k2.trans (hb.mono k2.size)
    replace k3 := k3.trans (hb.mono k3.size)
    replace k3b := k3b.trans (hb.mono k3b.size)
    replace k4 := k4.trans (hb.mono k4.size)
    replace k4b := k4b.trans (hb.mono k4b.size)
    replace k5 := k5.trans (hb.mono k5.size)
    replace k6 := k6.trans (hb.mono k6.size)
    replace k9 := k9.trans (hb.mono k9.size)
    clear hb
    clear x0 x1 x2 x3 y0 y1 y2 y3
    have hs := rsame_any Ad Ak q5 q5 cd ck S5 S5 (by omega) (by omega) (gqT.out _ gq5.out) (gqT.out _ gq5.out) (gqB.out _ gq5.out) (gqB.out _ gq5.out) true (by simp) w12 ((god.out.below k5).more k5.size) ((gok.out.below k6).more k6.size)
    go_wp2_with fail
    refine hs.mono ?_
    rintro e w13 ⟨rfl, hb⟩
    clear hs
    replace kW := kW.trans (hb.mono kW.size)
    replace k1 := k1.trans (hb.mono k1.size)
    replace k2 := k2.trans (hb.mono k2.size)
    replace k3 := k3.trans (hb.mono k3.size)
    replace k3b := k3b.trans (hb.mono k3b.size)
    replace k4 := k4.trans (hb.mono k4.size)
    replace k4b := k4b.trans (hb.mono k4b.size)
    replace k5 := k5.trans (hb.mono k5.size)
    replace k6 := k6.trans (hb.mono k6.size)
    replace k9 := k9.trans (hb.mono k9.size)
    clear hb
    have hs := check_any Ao n co l (by omega) R8 gR8.out w13 ((gro.out.below kW).more kW.size)
    go_wp2_with fail
    refine hs.mono ?_
    rintro e w14 ⟨rfl, hb⟩
    clear hs
    replace kW := kW.trans (hb.mono kW.size)
    replace k1 := k1.trans (hb.mono k1.size)
    replace k2 := k2.trans (hb.mono k2.size)
    replace k3 := k3.trans (hb.mono k3.size)
    replace k3b := k3b.trans (hb.mono k3b.size)
    replace k4 := k4.trans (hb.mono k4.size)
    replace k4b := k4b.trans (hb.mono k4b.size)
    replace k5 := k5.trans (hb.mono k5.size)
    replace k6 := k6.trans (hb.mono k6.size)
    replace k9 := k9.trans (hb.mono k9.size)
    clear hb
    have hs := rcheck_any A n c l (by omega) R8 gR8.out w14 ((grl.out.below kW).more kW.size)
    go_wp2_with fail
    refine hs.mono ?_
    rintro e w15 ⟨rfl, hb⟩
    clear hs
    replace kW := kW.trans (hb.mono kW.size)
    replace k1 := k1.trans (hb.mono k1.size)
    replace k2 := k2.trans (hb.mono k2.size)
    replace k3 := k3.trans (hb.mono k3.size)
    replace k3b := k3b.trans (hb.mono k3b.size)
    replace k4 := k4.trans (hb.mono k4.size)
    replace k4b := k4b.trans (hb.mono k4b.size)
    replace k5 := k5.trans (hb.mono k5.size)
    replace k6 := k6.trans (hb.mono k6.size)
    replace k9 := k9.trans (hb.mono k9.size)
    clear hb
    have hs := rsame_any At A n n ct c l l (by omega) (by omega) gt5.out gt5.out gby.out gby.out true (by simp) w15 ((got.out.below k9).more k9.size) ((grl.out.below kW).more kW.size)
    go_wp2_with fail
    refine hs.mono ?_
    rintro e w16 ⟨rfl, hb⟩
    clear hs
    replace kW := kW.trans (hb.mono kW.size)
    replace k1 := k1.trans (hb.mono k1.size)
    replace k2 := k2.trans (hb.mono k2.size)
    replace k3 := k3.trans (hb.mono k3.size)
    replace k3b := k3b.trans (hb.mono k3b.size)
    replace k4 := k4.trans (hb.mono k4.size)
    replace k4b := k4b.trans (hb.mono k4b.size)
    replace k5 := k5.trans (hb.mono k5.size)
    replace k6 := k6.trans (hb.mono k6.size)
    replace k9 := k9.trans (hb.mono k9.size)
    clear hb
    have hs := same_any Ao A2 n n2 co c2 l o (by omega) (by omega) gt5.out gt52.out R9 gR9.out w16 ((gro.out.below kW).more kW.size) ((grO.out.below kW).more kW.size)
    go_wp2_with fail
    refine hs.mono ?_
    rintro e w17 ⟨rfl, hb⟩
    clear hs
    replace kW := kW.trans (hb.mono kW.size)
    replace k1 := k1.trans (hb.mono k1.size)
    replace k2 := k2.trans (hb.mono k2.size)
    replace k3 := k3.trans (hb.mono k3.size)
    replace k3b := k3b.trans (hb.mono k3b.size)
    replace k4 := k4.trans (hb.mono k4.size)
    replace k4b := k4b.trans (hb.mono k4b.size)
    replace k5 := k5.trans (hb.mono k5.size)
    replace k6 := k6.trans (hb.mono k6.size)
    replace k9 := k9.trans (hb.mono k9.size)
    clear hb
    have hs := rsame_any A A2 n n2 c c2 l o (by omega) (by omega) gt5.out gt52.out gby.out gby2.out R9 gR9.out w17 ((grl.out.below kW).more kW.size) ((grO.out.below kW).more kW.size)
    go_wp2_with fail
    refine hs.mono ?_
    rintro e w18 ⟨rfl, hb⟩
    clear hs
    replace kW := kW.trans (hb.mono kW.size)
    replace k1 := k1.trans (hb.mono k1.size)
    replace k2 := k2.trans (hb.mono k2.size)
    replace k3 := k3.trans (hb.mono k3.size)
    replace k3b := k3b.trans (hb.mono k3b.size)
    replace k4 := k4.trans (hb.mono k4.size)
    replace k4b := k4b.trans (hb.mono k4b.size)
    replace k5 := k5.trans (hb.mono k5.size)
    replace k6 := k6.trans (hb.mono k6.size)
    replace k9 := k9.trans (hb.mono k9.size)
    clear hb
    have hs := same_any Ao A n n co c l l (by omega) (by omega) gt5.out gt5.out true (by simp) w18 ((gro.out.below kW).more kW.size) ((grl.out.below kW).more kW.size)
    go_wp2_with fail
    refine hs.mono ?_
    rintro e w19 ⟨rfl, hb⟩
    clear hs
    replace kW := kW.trans (hb.mono kW.size)
    replace k1 := k1.trans (hb.mono k1.size)
    replace k2 := k2.trans (hb.mono k2.size)
    replace k3 := k3.trans (hb.mono k3.size)
    replace k3b := k3b.trans (hb.mono k3b.size)
    replace k4 := k4.trans (hb.mono k4.size)
    replace k4b := k4b.trans (hb.mono k4b.size)
    replace k5 := k5.trans (hb.mono k5.size)
    replace k6 := k6.trans (hb.mono k6.size)
    replace k9 := k9.trans (hb.mono k9.size)
    clear hb
    have z3 := bx.lt
    have z4 := by_.lt
    have hsa := gws.out.below k1
    have hsp := gwp.out.below k3
    have hsx := gwx.out.below k3
    have rx9 := grx.out.below k3
    have ry9 := gry.out.below k4
    have bx9 := bx.below k3b bx.lt
    have by9 := by_.below k4b by_.lt
    have hsd := gwd.out.below k5
    have hst := gwt.out.below k9
    have t19 := k9.size
    clear k1 k2 k3 k3b k4 k4b k5 k6 k9 bx by_
    have hs := spoil_any (fun g => wc.heap.size ≤ g ∧ g < w1.heap.size) As q1 cs S1 (by omega) (gqT.out _ gq1.out) w19 hsa
    go_wp2_with fail
    refine hs.mono ?_
    rintro e w20 ⟨rfl, hf⟩
    clear hs
    have hb : Below wc.heap.size w19 w20 := hf.below (fun g hg => by (try simp only at hg); omega)
    replace kW := kW.trans hb
    have sqw20 : w19.heap.size ≤ w20.heap.size := Nat.le_of_eq hf.2.1.symm
    clear hb
    replace hsp := hsp.fr hf (fun g h1 h2 => by (try simp only at h1 h2); omega)
    replace rx9 := reads_fr rx9 hsx hf (fun g h1 h2 => by (try simp only at h1 h2); omega)
    replace hsx := hsx.fr hf (fun g h1 h2 => by (try simp only at h1 h2); omega)
    replace ry9 := ry9.fr2 hf (fun g h1 h2 => by (try simp only at h2); omega)
    replace bx9 := hf.blk (by (try simp only); omega) bx9
    replace by9 := hf.blk (by (try simp only); omega) by9
    replace hsd := hsd.fr hf (fun g h1 h2 => by (try simp only at h1 h2); omega)
    replace hst := hst.fr hf (fun g h1 h2 => by (try simp only at h1 h2); omega)
    clear hf
    clear hsa
    have hs := spoil_any (fun g => K ≤ g ∧ g < w3.heap.size) Ap q3 cp S3 (by omega) (gqT.out _ gq3.out) w20 hsp
    go_wp2_with fail
    refine hs.mono ?_
    rintro e w21 ⟨rfl, hf⟩
    clear hs
    have hb : Below wc.heap.size w20 w21 := hf.below (fun g hg => by (try simp only at hg); omega)
    replace kW := kW.trans hb
    have sqw21 : w20.heap.size ≤ w21.heap.size := Nat.le_of_eq hf.2.1.symm
    clear hb
    replace rx9 := reads_fr rx9 hsx hf (fun g h1 h2 => by (try simp only at h1 h2); omega)
    replace hsx := hsx.fr hf (fun g h1 h2 => by (try simp only at h1 h2); omega)
    replace ry9 := ry9.fr2 hf (fun g h1 h2 => by (try simp only at h2); omega)
    replace bx9 := hf.blk (by (try simp only); omega) bx9
    replace by9 := hf.blk (by (try simp only); omega) by9
    replace hsd := hsd.fr hf (fun g h1 h2 => by (try simp only at h1 h2); omega)
    replace hst := hst.fr hf (fun g h1 h2 => by (try simp only at h1 h2); omega)
    clear hf
    clear hsp
    have s21 := kW.size
    have x0 := (bx9).cell 0
    have x1 := (bx9).cell 1
    have x2 := (bx9).cell 2
    have x3 := (bx9).cell 3
    simp only [List.getElem?_toArray, List.getElem?_cons_zero, List.getElem?_cons_succ] at x0 x1 x2 x3
    have y0 := (by9).cell 0
    have y1 := (by9).cell 1
    have y2 := (by9).cell 2
    have y3 := (by9).cell 3
    simp only [List.getElem?_toArray, List.getElem?_cons_zero, List.getElem?_cons_succ] at y0 y1 y2 y3
    have hw3s : w3.heap.size ≤ w21.heap.size := Nat.le_of_lt bx9.lt
    have hs := sameOne_any xn xd xn xd Xx Xy mx dx my dy xt xt xs xs gmx.out gmy.out hmx5 hmy5 hxb hxb true (by simp) w21 (rx9.more hw3s) ry9.reads
    go_wp2_with fail
    refine hs.mono ?_
    rintro e w22 ⟨rfl, hb⟩
    clear hs x0 x1 x2 x3 y0 y1 y2 y3
    replace kW := kW.trans (hb.mono kW.size)
    replace hsx := hsx.below hb
    replace hsd := hsd.below hb
    replace hst := hst.below hb
    replace bx9 := bx9.below hb bx9.lt
    have s22 := hb.size
    clear hb rx9 ry9 by9
    have x0 := (bx9).cell 0
    have x1 := (bx9).cell 1
    have x2 := (bx9).cell 2
    have x3 := (bx9).cell 3
    simp only [List.getElem?_toArray, List.getElem?_cons_zero, List.getElem?_cons_succ] at x0 x1 x2 x3
    obtain ⟨V22, hV22⟩ : ∃ V, V = w22.alloc (.cells #[.int .i64 xn, .int .i64 xd, .slice Xx mx dx, .bool xs] 25) := ⟨_, rfl⟩
    have b22 : Blk V22 w22.heap.size 25 #[.int .i64 xn, .int .i64 xd, .slice Xx mx dx, .bool xs] := by rw [hV22]; exact Blk.new _ _ _
    have hb : Below w22.heap.size w22 V22 := by rw [hV22]; exact (Below.refl _ _).alloc (Nat.le_refl _) _
    have kW22 := kW.size
    replace kW := kW.trans (hb.mono kW.size)
    replace hsx := hsx.below hb
    replace hsd := hsd.below hb
    replace hst := hst.below hb
    have s23 := b22.lt
    have w22a : wc.heap.size ≤ w22.heap.size := by have := kW22; omega
    clear hb bx9
    have hs1 : Wr V22 (fun g => g = w22.heap.size ∨ (w2.heap.size ≤ g ∧ g < K)) 25 4 (some ⟨w22.heap.size, 0, none⟩) 1 ([(⟨xn, xd, xt, xs⟩ : Cp)].map fds) := one_wr gmx.out b22 (Or.inl rfl) (fun h0 => by obtain ⟨g, T, cur, e, hg, r⟩ := hsx h0; exact ⟨g, T, cur, e, Or.inr hg, r⟩)
    have hs := spoil_any _ _ 1 1 [(⟨xn, xd, xt, xs⟩ : Cp)] (by omega) (fun y hy => by rw [List.mem_singleton.1 hy]; have := gmx.out; simp only at this ⊢; omega) V22 hs1
    go_wp2_with fail
    rw [← hV22]
    clear hV22 x0 x1 x2 x3 hs1 hsx
    refine hs.mono ?_
    rintro e w23 ⟨rfl, hf⟩
    clear hs
    have hb : Below wc.heap.size V22 w23 := hf.below (fun g hg => by (try simp only at hg); omega)
    replace kW := kW.trans hb
    replace hsd := hsd.fr hf (fun g h1 h2 => by (try simp only at h1 h2); omega)
    replace hst := hst.fr hf (fun g h1 h2 => by (try simp only at h1 h2); omega)
    clear hb hf
    have hs := spoil_any (fun g => V4.heap.size ≤ g ∧ g < w5.heap.size) Ad q5 cd S5 (by omega) (gqT.out _ gq5.out) w23 hsd
    go_wp2_with fail
    refine hs.mono ?_
    rintro e w24 ⟨rfl, hf⟩
    clear hs
    have hb : Below wc.heap.size w23 w24 := hf.below (fun g hg => by (try simp only at hg); omega)
    replace kW := kW.trans hb
    have sqw24 : w23.heap.size ≤ w24.heap.size := Nat.le_of_eq hf.2.1.symm
    clear hb
    replace hst := hst.fr hf (fun g h1 h2 => by (try simp only at h1 h2); omega)
    clear hf
    clear hsd
    have hs := spoil_any (fun g => w8.heap.size ≤ g ∧ g < w9.heap.size) At n ct l (by omega) gt5.out w24 hst
    go_wp2_with fail
    refine hs.mono ?_
    rintro e w25 ⟨rfl, hf⟩
    clear hs
    have hb : Below wc.heap.size w24 w25 := hf.below (fun g hg => by (try simp only at hg); omega)
    replace kW := kW.trans hb
    have sqw25 : w24.heap.size ≤ w25.heap.size := Nat.le_of_eq hf.2.1.symm
    clear hb
    clear hf
    clear hst
    have SS : ∀ w', Below w25.heap.size w25 w' → w'.cell? a1 = some (.int .i64 num) ∧ w'.cell? ⟨a1.block, a1.off + 1, none⟩ = some (.int .i64 dn) ∧ w'.cell? ⟨a1.block, a1.off + 2, none⟩ = some (.slice X1 m d1) ∧ w'.cell? ⟨a1.block, a1.off + 3, none⟩ = some (.bool sp) ∧ w'.cell? ⟨w.heap.size, 0, none⟩ = some (.int .i64 num) ∧ w'.cell? ⟨w.heap.size, 1, none⟩ = some (.int .i64 dn) ∧ w'.cell? ⟨w.heap.size, 2, none⟩ = some (.slice X m d) ∧ w'.cell? ⟨w.heap.size, 3, none⟩ = some (.bool sp) := by
      intro w' hw
      have hw2 := kW.trans (hw.mono kW.size)
      obtain ⟨_, a10, a11, a12, a13⟩ := hrw.out w' hw2
      have b0 := (kcw.below hw2 kcw.lt).cell 0
      have b1 := (kcw.below hw2 kcw.lt).cell 1
      have b2 := (kcw.below hw2 kcw.lt).cell 2
      have b3 := (kcw.below hw2 kcw.lt).cell 3
      simp only [List.getElem?_toArray, List.getElem?_cons_zero, List.getElem?_cons_succ] at b0 b1 b2 b3
      exact ⟨a10, a11, a12, a13, b0, b1, b2, b3⟩
    have hq1 : ∀ w', Below w25.heap.size w25 w' → Calls Try.prog 15 #[.slice Ao n co, .slice A n c] w' fun en w'' => en = .returned (.bool true) ∧ Below w'.heap.size w' w'' := by
      intro w' hw
      have hw2 := kW.trans (hw.mono kW.size)
      exact rsame_any Ao A n n co c l l (by omega) (by omega) gt5.out gt5.out gby.out gby.out true (by simp) w' ((gro.out.below hw2).more hw2.size) ((grl.out.below hw2).more hw2.size)
    have hq2 : ∀ w', Below w25.heap.size w25 w' → Calls Try.prog 16 #[.agg #[.int .i64 num, .int .i64 dn, .slice X1 m d1, .bool sp], .agg #[.int .i64 num, .int .i64 dn, .slice X m d, .bool sp]] w' fun en w'' => en = .returned (.bool true) ∧ Below w'.heap.size w' w'' := by
      intro w' hw
      have hw2 := kW.trans (hw.mono kW.size)
      exact sameOne_any num dn num dn X1 X m d1 m d txt txt sp sp gm.out gm.out (by omega) (by omega) gbx.out gbx.out true (by simp) w' (hrw.out w' hw2).1 ((grX.out.below hw2).more hw2.size)
    have hbc := Below.refl w25.heap.size w25
    go_wp2_with fail
    go_region_held3 (fun w' => w'.cell? a1 = some (.int .i64 num) ∧ w'.cell? ⟨a1.block, a1.off + 1, none⟩ = some (.int .i64 dn) ∧ w'.cell? ⟨a1.block, a1.off + 2, none⟩ = some (.slice X1 m d1) ∧ w'.cell? ⟨a1.block, a1.off + 3, none⟩ = some (.bool sp) ∧ w'.cell? ⟨w.heap.size, 0, none⟩ = some (.int .i64 num) ∧ w'.cell? ⟨w.heap.size, 1, none⟩ = some (.int .i64 dn) ∧ w'.cell? ⟨w.heap.size, 2, none⟩ = some (.slice X m d) ∧ w'.cell? ⟨w.heap.size, 3, none⟩ = some (.bool sp)) (first | exact SS _ hbc | exact SS _ (Below.drew hbc)) (first | (go_at_call 15; (with_reducible refine (hq1 _ (by first | exact hbc | exact Below.drew hbc)).mono ?_); rintro en w9 ⟨rfl, hb9⟩; have hbc := Below.trans (by first | exact hbc | exact Below.drew hbc) (hb9.mono (by have := hbc.size; first | exact this | (simp [World.drew]; exact this)))) | (go_at_call 16; (with_reducible refine (hq2 _ (by first | exact hbc | exact Below.drew hbc)).mono ?_); rintro en w9 ⟨rfl, hb9⟩; have hbc := Below.trans (by first | exact hbc | exact Below.drew hbc) (hb9.mono (by have := hbc.size; first | exact this | (simp [World.drew]; exact this)))))
    go_wp2
    go_ret
    exact ⟨rfl, hBW.trans ((kW.trans ((by first | exact hbc | exact Below.drew hbc : Below w25.heap.size w25 _).mono kW.size)).mono hBW.size)⟩
end Go.Proofs.Ytbiodoeimbfbnaa
