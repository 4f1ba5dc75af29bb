/- Ether: the reference's Double -/
import Derived.Test.YtbiodoeimbfbnaaR2
import Derived.Deep.QuietTactic
import Derived.BigQuiet
namespace Go.Proofs.Ytbiodoeimbfbnaa
open Go.ChangeShapes Go.WideShapes Go.ChangeAt Go.RowKit
set_option linter.unusedSimpArgs false
set_option linter.unusedVariables false
theorem chk_mem {l : List Cp} (h : chkE l = 0) {x : Cp} (hx : x ∈ l) : mayOf x = true := by
  unfold chkE at h
  split at h
  · exact absurd h (by decide)
  · split at h
    · rename_i h1
      exact List.all_eq_true.1 h1 x hx
    · exact absurd h (by decide)
set_option maxRecDepth 100000 in
set_option maxHeartbeats 8000000 in
theorem rdouble_any (A : Option Addr) (n c : Nat) (l : List Cp) (hn : n ≤ 1000) (i : Int) (w : World) (h1 : Cps w w.heap.size A n l) :
    Calls Try.prog 11 #[.slice A n c, .int .i64 i] w (SpRead w (dblS l i)) := by
  have ln := cps_len h1
  by_cases hE : chkE l = 0
  rotate_left
  · rw [dbl_err rfl hE]
    obtain ⟨E, hE'⟩ : ∃ E, chkE l = E := ⟨_, rfl⟩
    rw [hE'] at hE ⊢
    have hck := rcheck_any A n c l (by omega) E hE' w h1
    have t1 : (E != 0) = true := bne_iff_ne.2 hE
    clear hE hE' h1 ln
    go_enter Try.func11, Try.ntmps11
    go_wp2_with fail
    refine hck.mono ?_
    rintro en w1 ⟨rfl, hb1⟩
    go_wp2
    go_ret2
    exact sp_nil hb1 E
  by_cases hi : i < 0 ∨ (n : Int) ≤ i
  · rw [dbl_out hE (by rw [ln]; exact hi)]
    have hck := rcheck_any A n c l (by omega) 0 hE w h1
    clear hE h1 ln
    by_cases h0 : i < 0
    · have d1 : decide (i < 0) = true := decide_eq_true h0
      clear hi h0
      go_enter Try.func11, Try.ntmps11
      go_wp2_with fail
      refine hck.mono ?_
      rintro en w1 ⟨rfl, hb1⟩
      go_wp2
      go_ret2
      exact sp_nil hb1 2
    · have d1 : decide (i < 0) = false := decide_eq_false h0
      have d2 : decide ((n : Int) ≤ i) = true := decide_eq_true (by omega)
      clear hi h0
      go_enter Try.func11, Try.ntmps11
      go_wp2_with fail
      refine hck.mono ?_
      rintro en w1 ⟨rfl, hb1⟩
      go_wp2
      go_ret2
      exact sp_nil hb1 2
  obtain ⟨k, rfl⟩ : ∃ k : Nat, i = k := ⟨i.toNat, by omega⟩
  have hk : k < n := by omega
  have d1 : decide ((k : Int) < 0) = false := decide_eq_false (by omega)
  have d2 : decide ((n : Int) ≤ k) = false := decide_eq_false (by omega)
  have d3 : decide (n ≤ k) = false := decide_eq_false (by omega)
  have i1 : (0 : Int) ≤ k := by omega
  have i2 : (k : Int) < n := by omega
  have hck := rcheck_any A n c l (by omega) 0 hE w h1
  obtain ⟨ad, num, dn, txt, sp, X, m, d, rfl, ha, hl1, hm, hd, hr0⟩ := cps_rel h1 hk
  have hM := chk_mem hE (List.mem_of_getElem? hl1)
  rw [dbl_in hE hl1]
  by_cases h16 : n = 16
  · rw [snd_full hE hM (by rw [ln]; exact h16)]
    have d4 : decide ((16 : Int) ≤ n) = true := decide_eq_true (by omega)
    have d5 : decide (16 ≤ n) = true := decide_eq_true (by omega)
    clear hE h1 ln hM hr0 hl1 hm hd h16 hi
    go_enter Try.func11, Try.ntmps11
    go_wp2_with fail
    refine hck.mono ?_
    rintro en w1 ⟨rfl, hb1⟩
    go_wp2
    go_ret2
    exact sp_nil hb1 9
  rw [snd_ok hE hM (by rw [ln]; exact h16)]
  have hn16 : n < 16 := by have := chk_len hE; rw [ln] at this; omega
  have d4 : decide ((16 : Int) ≤ n) = false := decide_eq_false (by omega)
  have d5 : decide (16 ≤ n) = false := decide_eq_false (by omega)
  have htx : ∀ x ∈ l, x.txt.length ≤ 10000 := fun x hx => by have := chk_txt hE hx; omega
  have htc : txt.length ≤ 10000 := htx _ (List.mem_of_getElem? hl1)
  have gl1 := Lib.hid hl1
  clear hE hM hi hl1
  go_enter Try.func11, Try.ntmps11
  go_wp2_with fail
  refine hck.mono ?_
  rintro en w2 ⟨rfl, hb⟩
  have h2 := (h1.below hb).more hb.size
  have hX2 := (hr0 w2 hb).1
  obtain ⟨os1, e1, r1, x1⟩ := cps_rows h2
  have SB : ∀ w', Below w2.heap.size w2 w' → w'.cell? (ad.add (k * 4)) = some (.int .i64 num) ∧ w'.cell? ⟨(ad.add (k * 4)).block, (ad.add (k * 4)).off + 1, none⟩ = some (.int .i64 dn) ∧ w'.cell? ⟨(ad.add (k * 4)).block, (ad.add (k * 4)).off + 2, none⟩ = some (.slice X m d) ∧ w'.cell? ⟨(ad.add (k * 4)).block, (ad.add (k * 4)).off + 3, none⟩ = some (.bool sp) := fun w' hw => (hr0 w' (hb.trans (hw.mono hb.size))).2
  have hXw : ∀ w', Below w2.heap.size w2 w' → Reads w' w'.heap.size 1 X m (ints .u8 txt) := fun w' hw => (hr0 w' (hb.trans (hw.mono hb.size))).1
  obtain ⟨i0, hi0, hz0, hz1, hz2⟩ := info_parts infoC
  have htw : ∀ w' A5 c5, Reads w' w'.heap.size 4 A5 (n + 1) (os1.flatMap row4 ++ [.int .i64 num, .int .i64 dn, .slice X m d, .bool sp]) → Below w2.heap.size w2 w' → Calls Try.prog 5 #[.slice A5 (n + 1) c5] w' fun en w'' => ∃ Ao co, en = .returned (.slice Ao (n + 1) co) ∧ Below w'.heap.size w' w'' ∧ Cps w'' w''.heap.size Ao (n + 1) (l ++ [⟨num, dn, txt, sp⟩]) := by
    intro w' A5 c5 ro hw
    have e2 : os1.flatMap row4 ++ [.int .i64 num, .int .i64 dn, .slice X m d, .bool sp] = (os1 ++ [((⟨num, dn, txt, sp⟩ : Cp), X, d)]).flatMap row4 := by simp [row4, hm]
    rw [e2] at ro
    have hcp := rows_cps2 ro (texts_append (texts_below x1 hw hw.size) (fun o ho => by rw [List.mem_singleton.1 ho]; simp only [hm]; exact ⟨hd, hXw w' hw⟩))
    rw [List.map_append, e1] at hcp
    refine (rtwin_any A5 (n + 1) c5 _ (by omega) (fun x hx => ?_) w' hcp).mono ?_
    · rcases List.mem_append.1 hx with h | h
      · exact htx x h
      · rw [List.mem_singleton.1 h]; exact htc
    · rintro en w'' ⟨Ao, co, rfl, _, ho, _, hb5, _⟩
      exact ⟨Ao, co, rfl, hb5, ho⟩
  obtain ⟨A, hA⟩ : ∃ A, A = some ad := ⟨_, rfl⟩
  have r1' := r1
  have gm := Lib.hid hm
  have gln := Lib.hid ln
  have hs0 : Below w2.heap.size w2 w2 := Below.refl _ _
  clear hm h1 h2 hX2 e1 x1 ln hd htx hr0 hXw hck r1' A hA
  obtain ⟨z0, z1, z2, z3⟩ := SB w2 hs0
  go_wp2_with fail
  go_region_held3 (fun w' => w'.cell? (ad.add (k * 4)) = some (.int .i64 num) ∧ w'.cell? ⟨(ad.add (k * 4)).block, (ad.add (k * 4)).off + 1, none⟩ = some (.int .i64 dn) ∧ w'.cell? ⟨(ad.add (k * 4)).block, (ad.add (k * 4)).off + 2, none⟩ = some (.slice X m d) ∧ w'.cell? ⟨(ad.add (k * 4)).block, (ad.add (k * 4)).off + 3, none⟩ = some (.bool sp)) ((refine SB _ ?_; (repeat first | with_reducible assumption | with_reducible exact Below.refl _ _ | with_reducible refine Below.drew ?_ | (with_reducible refine Below.setCell ?_ (by first | exact Nat.le_refl _ | (simp only [World.size_alloc, World.size_drew, size_set]; omega) | omega) _) | (with_reducible refine Below.alloc ?_ (by first | exact Nat.le_refl _ | (simp only [World.size_alloc, World.size_drew, size_set]; omega) | omega) _)))) (first | (refine step_append_blk _ rfl (.tmp 23) (.tmp 24) 22 rfl w2.heap.size 25 i0 _ 4 48 Try.underlying22 hi0 hz0 hz1 hz2 rfl (by omega) (.slice (some ⟨w2.heap.size, 0, none⟩) 0 0) 0 [] rfl (own_empty (size := 4) (by first | with_reducible exact blk1 _ _ _ | with_reducible exact blk2 _ _ _ _ | with_reducible exact blk3 _ _ _ _ | with_reducible exact Blk.drew (blk1 _ _ _) | with_reducible exact Blk.drew (blk2 _ _ _ _) | with_reducible exact Blk.drew (blk3 _ _ _ _)) (by omega)) w2.heap.size (some ad) n c _ rfl (r1.below (by (repeat first | with_reducible assumption | with_reducible exact Below.refl _ _ | with_reducible refine Below.drew ?_ | (with_reducible refine Below.setCell ?_ (by first | exact Nat.le_refl _ | (simp only [World.size_alloc, World.size_drew, size_set]; omega) | omega) _) | (with_reducible refine Below.alloc ?_ (by first | exact Nat.le_refl _ | (simp only [World.size_alloc, World.size_drew, size_set]; omega) | omega) _)))) (flat4_one _) (by unfold maxLen; omega) (by omega) (by first | exact Nat.le_refl _ | (simp only [World.size_alloc, World.size_drew, size_set]; omega) | omega) (w2.heap.size + 1) 25 #[.int .i64 num, .int .i64 dn, .slice X m d, .bool sp] (by first | with_reducible exact blk1 _ _ _ | with_reducible exact blk2 _ _ _ _ | with_reducible exact blk3 _ _ _ _ | with_reducible exact Blk.drew (blk1 _ _ _) | with_reducible exact Blk.drew (blk2 _ _ _ _) | with_reducible exact Blk.drew (blk3 _ _ _ _)) (by simp [Value.ownBlock]) ?_; intro v3 w3 ho3 hg3 kB; rw [Nat.zero_add, List.nil_append] at ho3; have hb3 : Below w2.heap.size w2 w3 := Below.grown (by (repeat first | with_reducible assumption | with_reducible exact Below.refl _ _ | with_reducible refine Below.drew ?_ | (with_reducible refine Below.setCell ?_ (by first | exact Nat.le_refl _ | (simp only [World.size_alloc, World.size_drew, size_set]; omega) | omega) _) | (with_reducible refine Below.alloc ?_ (by first | exact Nat.le_refl _ | (simp only [World.size_alloc, World.size_drew, size_set]; omega) | omega) _))) hg3 (by first | exact Nat.le_refl _ | (simp only [World.size_alloc, World.size_drew, size_set]; omega) | omega) (fun q hq => by simp [Value.ownBlock] at hq; omega); obtain ⟨A3, c3, rfl, _, _⟩ := own_slice ho3; have hs3 := hb3.size) | (refine step_append_blk _ rfl (.tmp 23) (.tmp 24) 22 rfl w2.heap.size 25 i0 _ 4 48 Try.underlying22 hi0 hz0 hz1 hz2 rfl (by omega) (.slice (some ⟨w2.heap.size + 1, 0, none⟩) 0 0) 0 [] rfl (own_empty (size := 4) (by first | with_reducible exact blk1 _ _ _ | with_reducible exact blk2 _ _ _ _ | with_reducible exact blk3 _ _ _ _ | with_reducible exact Blk.drew (blk1 _ _ _) | with_reducible exact Blk.drew (blk2 _ _ _ _) | with_reducible exact Blk.drew (blk3 _ _ _ _)) (by omega)) w2.heap.size (some ad) n c _ rfl (r1.below (by (repeat first | with_reducible assumption | with_reducible exact Below.refl _ _ | with_reducible refine Below.drew ?_ | (with_reducible refine Below.setCell ?_ (by first | exact Nat.le_refl _ | (simp only [World.size_alloc, World.size_drew, size_set]; omega) | omega) _) | (with_reducible refine Below.alloc ?_ (by first | exact Nat.le_refl _ | (simp only [World.size_alloc, World.size_drew, size_set]; omega) | omega) _)))) (flat4_one _) (by unfold maxLen; omega) (by omega) (by first | exact Nat.le_refl _ | (simp only [World.size_alloc, World.size_drew, size_set]; omega) | omega) (w2.heap.size) 25 #[.int .i64 num, .int .i64 dn, .slice X m d, .bool sp] (by first | with_reducible exact blk1 _ _ _ | with_reducible exact blk2 _ _ _ _ | with_reducible exact blk3 _ _ _ _ | with_reducible exact Blk.drew (blk1 _ _ _) | with_reducible exact Blk.drew (blk2 _ _ _ _) | with_reducible exact Blk.drew (blk3 _ _ _ _)) (by simp [Value.ownBlock]) ?_; intro v3 w3 ho3 hg3 kB; rw [Nat.zero_add, List.nil_append] at ho3; have hb3 : Below w2.heap.size w2 w3 := Below.grown (by (repeat first | with_reducible assumption | with_reducible exact Below.refl _ _ | with_reducible refine Below.drew ?_ | (with_reducible refine Below.setCell ?_ (by first | exact Nat.le_refl _ | (simp only [World.size_alloc, World.size_drew, size_set]; omega) | omega) _) | (with_reducible refine Below.alloc ?_ (by first | exact Nat.le_refl _ | (simp only [World.size_alloc, World.size_drew, size_set]; omega) | omega) _))) hg3 (by first | exact Nat.le_refl _ | (simp only [World.size_alloc, World.size_drew, size_set]; omega) | omega) (fun q hq => by simp [Value.ownBlock] at hq; omega); obtain ⟨A3, c3, rfl, _, _⟩ := own_slice ho3; have hs3 := hb3.size) | (refine step_append_any _ rfl (.tmp 23) (.tmp 24) 22 rfl w2.heap.size 25 i0 _ 4 48 Try.underlying22 hi0 hz0 hz1 hz2 rfl (by omega) (.slice (some ⟨w2.heap.size, 0, none⟩) 0 0) 0 [] rfl (own_empty (size := 4) (by first | with_reducible exact blk1 _ _ _ | with_reducible exact blk2 _ _ _ _ | with_reducible exact blk3 _ _ _ _ | with_reducible exact Blk.drew (blk1 _ _ _) | with_reducible exact Blk.drew (blk2 _ _ _ _) | with_reducible exact Blk.drew (blk3 _ _ _ _)) (by omega)) w2.heap.size (some ad) n c _ rfl (r1.below (by (repeat first | with_reducible assumption | with_reducible exact Below.refl _ _ | with_reducible refine Below.drew ?_ | (with_reducible refine Below.setCell ?_ (by first | exact Nat.le_refl _ | (simp only [World.size_alloc, World.size_drew, size_set]; omega) | omega) _) | (with_reducible refine Below.alloc ?_ (by first | exact Nat.le_refl _ | (simp only [World.size_alloc, World.size_drew, size_set]; omega) | omega) _)))) (flat4_one _) (by unfold maxLen; omega) (by omega) (by first | exact Nat.le_refl _ | (simp only [World.size_alloc, World.size_drew, size_set]; omega) | omega) ?_; intro v3 w3 ho3 hg3 _; rw [Nat.zero_add, List.nil_append] at ho3; have hb3 : Below w2.heap.size w2 w3 := Below.grown (by (repeat first | with_reducible assumption | with_reducible exact Below.refl _ _ | with_reducible refine Below.drew ?_ | (with_reducible refine Below.setCell ?_ (by first | exact Nat.le_refl _ | (simp only [World.size_alloc, World.size_drew, size_set]; omega) | omega) _) | (with_reducible refine Below.alloc ?_ (by first | exact Nat.le_refl _ | (simp only [World.size_alloc, World.size_drew, size_set]; omega) | omega) _))) hg3 (by first | exact Nat.le_refl _ | (simp only [World.size_alloc, World.size_drew, size_set]; omega) | omega) (fun q hq => by simp [Value.ownBlock] at hq; omega); obtain ⟨A3, c3, rfl, _, _⟩ := own_slice ho3; have hs3 := hb3.size) | (refine step_append_any _ rfl (.tmp 25) (.tmp 30) 22 rfl w2.heap.size 25 i0 _ 4 48 Try.underlying22 hi0 hz0 hz1 hz2 rfl (by omega) (.slice A3 n c3) n _ rfl (by first | exact ho3 | exact ho3.alloc _) (w2.heap.size + 1 + 1) (some ⟨w2.heap.size + 1, 0, none⟩) 1 1 _ rfl (reads_blk (size := 4) kB rfl) (one4 _ _ _ _ _ _) (by unfold maxLen; omega) (by omega) (by first | exact Nat.le_refl _ | (simp only [World.size_alloc, World.size_drew, size_set]; omega) | omega) ?_; intro v5 w5 ho5 hg5 _; have hb5 : Below w2.heap.size w2 w5 := Below.grown (by (repeat first | with_reducible assumption | with_reducible exact Below.refl _ _ | with_reducible refine Below.drew ?_ | (with_reducible refine Below.setCell ?_ (by first | exact Nat.le_refl _ | (simp only [World.size_alloc, World.size_drew, size_set]; omega) | omega) _) | (with_reducible refine Below.alloc ?_ (by first | exact Nat.le_refl _ | (simp only [World.size_alloc, World.size_drew, size_set]; omega) | omega) _))) hg5 (by first | exact Nat.le_refl _ | (simp only [World.size_alloc, World.size_drew, size_set]; omega) | omega) (fun q hq => own_base ho3 hq); obtain ⟨A5, c5, rfl, _, ro⟩ := own_slice ho5) | (refine step_append_any _ rfl (.tmp 25) (.tmp 30) 22 rfl w2.heap.size 25 i0 _ 4 48 Try.underlying22 hi0 hz0 hz1 hz2 rfl (by omega) (.slice A3 n c3) n _ rfl (by first | exact ho3 | exact ho3.alloc _) (w2.heap.size + 1) (some ⟨w2.heap.size, 0, none⟩) 1 1 _ rfl (reads_blk (size := 4) kB rfl) (one4 _ _ _ _ _ _) (by unfold maxLen; omega) (by omega) (by first | exact Nat.le_refl _ | (simp only [World.size_alloc, World.size_drew, size_set]; omega) | omega) ?_; intro v5 w5 ho5 hg5 _; have hb5 : Below w2.heap.size w2 w5 := Below.grown (by (repeat first | with_reducible assumption | with_reducible exact Below.refl _ _ | with_reducible refine Below.drew ?_ | (with_reducible refine Below.setCell ?_ (by first | exact Nat.le_refl _ | (simp only [World.size_alloc, World.size_drew, size_set]; omega) | omega) _) | (with_reducible refine Below.alloc ?_ (by first | exact Nat.le_refl _ | (simp only [World.size_alloc, World.size_drew, size_set]; omega) | omega) _))) hg5 (by first | exact Nat.le_refl _ | (simp only [World.size_alloc, World.size_drew, size_set]; omega) | omega) (fun q hq => own_base ho3 hq); obtain ⟨A5, c5, rfl, _, ro⟩ := own_slice ho5) | (refine step_append_any _ rfl (.tmp 25) (.tmp 30) 22 rfl w2.heap.size 25 i0 _ 4 48 Try.underlying22 hi0 hz0 hz1 hz2 rfl (by omega) (.slice A3 n c3) n _ rfl (by first | exact ho3 | exact ho3.alloc _) (w3.heap.size + 1) (some ⟨w3.heap.size, 0, none⟩) 1 1 _ rfl (reads_blk (size := 4) (by first | with_reducible exact blk1 _ _ _ | with_reducible exact blk2 _ _ _ _ | with_reducible exact blk3 _ _ _ _ | with_reducible exact Blk.drew (blk1 _ _ _) | with_reducible exact Blk.drew (blk2 _ _ _ _) | with_reducible exact Blk.drew (blk3 _ _ _ _)) rfl) (one4 _ _ _ _ _ _) (by unfold maxLen; omega) (by omega) (by first | exact Nat.le_refl _ | (simp only [World.size_alloc, World.size_drew, size_set]; omega) | omega) ?_; intro v5 w5 ho5 hg5 _; have hb5 : Below w2.heap.size w2 w5 := Below.grown (by (repeat first | with_reducible assumption | with_reducible exact Below.refl _ _ | with_reducible refine Below.drew ?_ | (with_reducible refine Below.setCell ?_ (by first | exact Nat.le_refl _ | (simp only [World.size_alloc, World.size_drew, size_set]; omega) | omega) _) | (with_reducible refine Below.alloc ?_ (by first | exact Nat.le_refl _ | (simp only [World.size_alloc, World.size_drew, size_set]; omega) | omega) _))) hg5 (by first | exact Nat.le_refl _ | (simp only [World.size_alloc, World.size_drew, size_set]; omega) | omega) (fun q hq => own_base ho3 hq); obtain ⟨A5, c5, rfl, _, ro⟩ := own_slice ho5) | (go_at_call 5; (with_reducible refine (htw _ A5 c5 ro hb5).mono ?_); rintro en w6 ⟨Ao, co, rfl, hb6, ho6⟩; have hb7 : Below w2.heap.size w2 w6 := hb5.trans (hb6.mono hb5.size)))
  all_goals
    have hb10 := hb.trans (hb7.mono hb.size)
    clear hb6 hb5 hb7 SB htw
    go_wp2
    go_ret2
    exact ⟨Ao, co, by rw [List.length_append, gln.out]; rfl, by simp only [List.length_append, gln.out, List.length_cons, List.length_nil]; exact ho6, hb10⟩
end Go.Proofs.Ytbiodoeimbfbnaa
