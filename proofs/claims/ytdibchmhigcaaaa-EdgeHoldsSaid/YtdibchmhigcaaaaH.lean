/- Edge: each function of the program as a function of numbers; the laws' helper alive. -/
import Derived.Test.YtdibchmhigcaaaaG
namespace Go.Proofs.Ytdibchmhigcaaaa
open Go.ChangeShapes Go.WideShapes Go.ChangeAt Go.RowKit
set_option linter.unusedSimpArgs false
set_option linter.unusedVariables false
def z3 : St := (false, 0, 0)
instance (s : St) : Decidable (St.ok s) := by unfold St.ok; infer_instance
instance (l : List Int) : Decidable (AllOK l) := by unfold AllOK; infer_instance
def chkE (s : St) : Int := if St.ok s then 0 else 8
def allS (l : List Int) : St := if AllOK l then fld l else z3
def allE (l : List Int) : Int := if AllOK l then 0 else 2
def ofS (x : Int) : St := if ValOK x then (true, x, x) else z3
def ofE (x : Int) : Int := if ValOK x then 0 else 2
def joinS (s t : St) : St := if St.ok s ∧ St.ok t then jn s t else z3
def joinE (s t : St) : Int := if St.ok s ∧ St.ok t then 0 else 8
def inS (s : St) (x : Int) : Bool := if St.ok s ∧ ValOK x then inB s x else false
def inE (s : St) (x : Int) : Int := if St.ok s then (if ValOK x then 0 else 2) else 8
def wideS (s : St) : Int := if St.ok s ∧ s.1 = true then s.2.2 - s.2.1 else 0
def wideE (s : St) : Int := if St.ok s then (if s.1 = true then 0 else 6) else 8
theorem check_any (s : St) (w : World) : Calls Try.prog 13 #[s.v] w fun en w' => en = .returned (.int .i64 (chkE s)) ∧ Below w.heap.size w w' := by
  unfold chkE
  by_cases h : St.ok s
  · rw [if_pos h]; exact check_yes h w
  · rw [if_neg h]; exact check_no h w
theorem all_any (A : Option Addr) (n c : Nat) (zs : List Int) (hn : zs.length = n) (hm : n ≤ 1000000) (w : World) (hR : Reads w w.heap.size 1 A n (ints zs)) :
    Calls Try.prog 8 #[.slice A n c] w fun en w' => en = .returned (.tuple #[(allS zs).v, .int .i64 (allE zs)]) ∧ Below w.heap.size w w' := by
  unfold allS allE
  by_cases h : AllOK zs
  · rw [if_pos h, if_pos h]; exact all_yes A n c zs hn hm h w hR
  · rw [if_neg h, if_neg h]; exact all_no A n c zs hn hm h w hR
theorem of_one (x : Int) (w : World) : Calls Try.prog 10 #[.int .i64 x] w fun en w' => en = .returned (.tuple #[(ofS x).v, .int .i64 (ofE x)]) ∧ Below w.heap.size w w' := by
  unfold ofS ofE
  by_cases h : ValOK x
  · rw [if_pos h, if_pos h]; exact of_yes h w
  · rw [if_neg h, if_neg h]; exact of_no h w
theorem join_any (s t : St) (w : World) : Calls Try.prog 16 #[s.v, t.v] w fun en w' => en = .returned (.tuple #[(joinS s t).v, .int .i64 (joinE s t)]) ∧ Below w.heap.size w w' := by
  unfold joinS joinE
  by_cases hs : St.ok s
  · by_cases ht : St.ok t
    · rw [if_pos ⟨hs, ht⟩, if_pos ⟨hs, ht⟩]; exact join_yes hs ht w
    · rw [if_neg (fun h => ht h.2), if_neg (fun h => ht h.2)]; exact join_no2 hs ht w
  · rw [if_neg (fun h => hs h.1), if_neg (fun h => hs h.1)]; exact join_no1 hs w
theorem in_any (s : St) (x : Int) (w : World) : Calls Try.prog 12 #[s.v, .int .i64 x] w fun en w' => en = .returned (.tuple #[.bool (inS s x), .int .i64 (inE s x)]) ∧ Below w.heap.size w w' := by
  unfold inS inE
  by_cases hs : St.ok s
  · by_cases hx : ValOK x
    · rw [if_pos ⟨hs, hx⟩, if_pos hs, if_pos hx]; exact in_yes hs hx w
    · rw [if_neg (fun h => hx h.2), if_pos hs, if_neg hx]; exact in_arg hs hx w
  · rw [if_neg (fun h => hs h.1), if_neg hs]; exact in_bad hs w
theorem wide_any (s : St) (w : World) : Calls Try.prog 11 #[s.v] w fun en w' => en = .returned (.tuple #[.int .i64 (wideS s), .int .i64 (wideE s)]) ∧ Below w.heap.size w w' := by
  unfold wideS wideE
  by_cases hs : St.ok s
  · obtain ⟨h, a, b⟩ := s
    cases h
    · rw [if_neg (fun h => by cases h.2), if_pos hs, if_neg (fun h => by cases h)]; exact wide_none hs w
    · rw [if_pos ⟨hs, rfl⟩, if_pos hs, if_pos rfl]; exact wide_yes hs w
  · rw [if_neg (fun h => hs h.1), if_neg hs]; exact wide_bad hs w
theorem lit_all (zs : List Int) (s : St) (e : Int) (hs : allS zs = s) (he : allE zs = e) (A : Option Addr) (n c : Nat) (hn : zs.length = n) (hm : n ≤ 1000000) (w : World) (hR : Reads w w.heap.size 1 A n (ints zs)) :
    Calls Try.prog 8 #[.slice A n c] w fun en w' => en = .returned (.tuple #[s.v, .int .i64 e]) ∧ Below w.heap.size w w' := by subst hs he; exact all_any A n c zs hn hm w hR
theorem lit_of (x : Int) (s : St) (e : Int) (hs : ofS x = s) (he : ofE x = e) (w : World) :
    Calls Try.prog 10 #[.int .i64 x] w fun en w' => en = .returned (.tuple #[s.v, .int .i64 e]) ∧ Below w.heap.size w w' := by subst hs he; exact of_one x w
theorem lit_join (s t r : St) (e : Int) (hs : joinS s t = r) (he : joinE s t = e) (w : World) :
    Calls Try.prog 16 #[s.v, t.v] w fun en w' => en = .returned (.tuple #[r.v, .int .i64 e]) ∧ Below w.heap.size w w' := by subst hs he; exact join_any s t w
theorem lit_in (s : St) (x : Int) (r : Bool) (e : Int) (hs : inS s x = r) (he : inE s x = e) (w : World) :
    Calls Try.prog 12 #[s.v, .int .i64 x] w fun en w' => en = .returned (.tuple #[.bool r, .int .i64 e]) ∧ Below w.heap.size w w' := by subst hs he; exact in_any s x w
theorem lit_wide (s : St) (r e : Int) (hs : wideS s = r) (he : wideE s = e) (w : World) :
    Calls Try.prog 11 #[s.v] w fun en w' => en = .returned (.tuple #[.int .i64 r, .int .i64 e]) ∧ Below w.heap.size w w' := by subst hs he; exact wide_any s w
theorem lit_chk (s : St) (e : Int) (he : chkE s = e) (w : World) :
    Calls Try.prog 13 #[s.v] w fun en w' => en = .returned (.int .i64 e) ∧ Below w.heap.size w w' := by subst he; exact check_any s w
set_option maxHeartbeats 4000000 in
theorem alive_any (w : World) : Calls Try.prog 14 #[] w fun en w' => en = .returned (.bool true) ∧ Below w.heap.size w w' := by
  go_enter Try.func14, Try.ntmps14
  go_wp2_with fail
  refine (lit_all [3, -1, 2] (true, -1, 3) 0 (by decide) (by decide) (some ⟨w.heap.size, 0, none⟩) 3 3 rfl (by omega) _ ((reads_new w (ints [3, -1, 2]) 3 3 rfl).more (by simp))).mono ?_
  rintro en w1 ⟨rfl, hb1⟩
  have hz1 := hb1.size
  (try simp at hz1)
  go_wp2_with fail
  refine (lit_wide (true, -1, 3) 4 0 (by decide) (by decide) _).mono ?_
  rintro en w2 ⟨rfl, hb2⟩
  have hz2 := hb2.size
  (try simp at hz2)
  (have hc2a : ∀ o, w2.cell? ⟨w1.heap.size, o, none⟩ = _ := fun o => hb2.cell (p := ⟨w1.heap.size, o, none⟩) (by first | exact Nat.le_refl _ | omega | (simp; done) | (simp; omega)); (try simp at hc2a); have hl2a : w1.heap.size < w2.heap.size := (by omega); have hf2a : ∀ o, w2.frozen? ⟨w1.heap.size, o, none⟩ = _ := fun o => hb2.frozen (p := ⟨w1.heap.size, o, none⟩) (by first | exact Nat.le_refl _ | omega | (simp; done) | (simp; omega)); (try simp at hf2a))
  go_wp2_with fail
  refine (lit_of 7 (true, 7, 7) 0 (by decide) (by decide) _).mono ?_
  rintro en w3 ⟨rfl, hb3⟩
  have hz3 := hb3.size
  (try simp at hz3)
  (have hc3a : ∀ o, w3.cell? ⟨w1.heap.size, o, none⟩ = _ := fun o => hb3.cell (p := ⟨w1.heap.size, o, none⟩) (by first | exact Nat.le_refl _ | omega | (simp; done) | (simp; omega)); (try simp [World.cell?_alloc_past, World.frozen?_alloc_past, hc2a, hf2a, hl2a] at hc3a); have hl3a : w1.heap.size < w3.heap.size := (by omega); have hf3a : ∀ o, w3.frozen? ⟨w1.heap.size, o, none⟩ = _ := fun o => hb3.frozen (p := ⟨w1.heap.size, o, none⟩) (by first | exact Nat.le_refl _ | omega | (simp; done) | (simp; omega)); (try simp [World.cell?_alloc_past, World.frozen?_alloc_past, hc2a, hf2a, hl2a] at hf3a))
  clear hc2a hf2a hl2a
  go_wp2_with fail
  refine (lit_join (true, -1, 3) (true, 7, 7) (true, -1, 7) 0 (by decide) (by decide) _).mono ?_
  rintro en w4 ⟨rfl, hb4⟩
  have hz4 := hb4.size
  (try simp at hz4)
  (have hc4a : ∀ o, w4.cell? ⟨w1.heap.size, o, none⟩ = _ := fun o => hb4.cell (p := ⟨w1.heap.size, o, none⟩) (by first | exact Nat.le_refl _ | omega | (simp; done) | (simp; omega)); (try simp [World.cell?_alloc_past, World.frozen?_alloc_past, hc3a, hf3a, hl3a] at hc4a); have hl4a : w1.heap.size < w4.heap.size := (by omega); have hf4a : ∀ o, w4.frozen? ⟨w1.heap.size, o, none⟩ = _ := fun o => hb4.frozen (p := ⟨w1.heap.size, o, none⟩) (by first | exact Nat.le_refl _ | omega | (simp; done) | (simp; omega)); (try simp [World.cell?_alloc_past, World.frozen?_alloc_past, hc3a, hf3a, hl3a] at hf4a); have hc4s : ∀ o, w4.cell? ⟨w3.heap.size, o, none⟩ = _ := fun o => hb4.cell (p := ⟨w3.heap.size, o, none⟩) (by first | exact Nat.le_refl _ | omega | (simp; done) | (simp; omega)); (try simp [World.cell?_alloc_past, World.frozen?_alloc_past, hc3a, hf3a, hl3a] at hc4s); have hl4s : w3.heap.size < w4.heap.size := (by omega); have hf4s : ∀ o, w4.frozen? ⟨w3.heap.size, o, none⟩ = _ := fun o => hb4.frozen (p := ⟨w3.heap.size, o, none⟩) (by first | exact Nat.le_refl _ | omega | (simp; done) | (simp; omega)); (try simp [World.cell?_alloc_past, World.frozen?_alloc_past, hc3a, hf3a, hl3a] at hf4s))
  clear hc3a hf3a hl3a
  go_wp2_with fail
  refine (lit_in (true, -1, 7) 5 true 0 (by decide) (by decide) _).mono ?_
  rintro en w5 ⟨rfl, hb5⟩
  have hz5 := hb5.size
  (try simp at hz5)
  (have hc5a : ∀ o, w5.cell? ⟨w1.heap.size, o, none⟩ = _ := fun o => hb5.cell (p := ⟨w1.heap.size, o, none⟩) (by first | exact Nat.le_refl _ | omega | (simp; done) | (simp; omega)); (try simp [World.cell?_alloc_past, World.frozen?_alloc_past, hc4a, hf4a, hl4a, hc4s, hf4s, hl4s] at hc5a); have hl5a : w1.heap.size < w5.heap.size := (by omega); have hf5a : ∀ o, w5.frozen? ⟨w1.heap.size, o, none⟩ = _ := fun o => hb5.frozen (p := ⟨w1.heap.size, o, none⟩) (by first | exact Nat.le_refl _ | omega | (simp; done) | (simp; omega)); (try simp [World.cell?_alloc_past, World.frozen?_alloc_past, hc4a, hf4a, hl4a, hc4s, hf4s, hl4s] at hf5a); have hc5s : ∀ o, w5.cell? ⟨w3.heap.size, o, none⟩ = _ := fun o => hb5.cell (p := ⟨w3.heap.size, o, none⟩) (by first | exact Nat.le_refl _ | omega | (simp; done) | (simp; omega)); (try simp [World.cell?_alloc_past, World.frozen?_alloc_past, hc4a, hf4a, hl4a, hc4s, hf4s, hl4s] at hc5s); have hl5s : w3.heap.size < w5.heap.size := (by omega); have hf5s : ∀ o, w5.frozen? ⟨w3.heap.size, o, none⟩ = _ := fun o => hb5.frozen (p := ⟨w3.heap.size, o, none⟩) (by first | exact Nat.le_refl _ | omega | (simp; done) | (simp; omega)); (try simp [World.cell?_alloc_past, World.frozen?_alloc_past, hc4a, hf4a, hl4a, hc4s, hf4s, hl4s] at hf5s); have hc5b : ∀ o, w5.cell? ⟨w4.heap.size, o, none⟩ = _ := fun o => hb5.cell (p := ⟨w4.heap.size, o, none⟩) (by first | exact Nat.le_refl _ | omega | (simp; done) | (simp; omega)); (try simp [World.cell?_alloc_past, World.frozen?_alloc_past, hc4a, hf4a, hl4a, hc4s, hf4s, hl4s] at hc5b); have hl5b : w4.heap.size < w5.heap.size := (by omega); have hf5b : ∀ o, w5.frozen? ⟨w4.heap.size, o, none⟩ = _ := fun o => hb5.frozen (p := ⟨w4.heap.size, o, none⟩) (by first | exact Nat.le_refl _ | omega | (simp; done) | (simp; omega)); (try simp [World.cell?_alloc_past, World.frozen?_alloc_past, hc4a, hf4a, hl4a, hc4s, hf4s, hl4s] at hf5b))
  clear hc4a hf4a hl4a hc4s hf4s hl4s
  go_wp2
  go_ret
  refine ⟨rfl, ?_⟩
  repeat (first | (with_reducible exact Below.refl _ _) | (with_reducible refine Below.drew ?_) | (with_reducible refine below_drewN ?_ _) | ((with_reducible refine Below.setCell ?_ ?_ _); rotate_left; focus (first | exact Nat.le_refl _ | omega | (simp; done) | (simp; omega))) | ((with_reducible refine Below.alloc ?_ ?_ _); rotate_left; focus (first | exact Nat.le_refl _ | omega | (simp; done) | (simp; omega))) | ((with_reducible refine Below.trans ?_ (Below.mono hb1 ?_)); rotate_left; focus (first | exact Nat.le_refl _ | omega | (simp; done) | (simp; omega))) | ((with_reducible refine Below.trans ?_ (Below.mono hb2 ?_)); rotate_left; focus (first | exact Nat.le_refl _ | omega | (simp; done) | (simp; omega))) | ((with_reducible refine Below.trans ?_ (Below.mono hb3 ?_)); rotate_left; focus (first | exact Nat.le_refl _ | omega | (simp; done) | (simp; omega))) | ((with_reducible refine Below.trans ?_ (Below.mono hb4 ?_)); rotate_left; focus (first | exact Nat.le_refl _ | omega | (simp; done) | (simp; omega))) | ((with_reducible refine Below.trans ?_ (Below.mono hb5 ?_)); rotate_left; focus (first | exact Nat.le_refl _ | omega | (simp; done) | (simp; omega))))
end Go.Proofs.Ytdibchmhigcaaaa
