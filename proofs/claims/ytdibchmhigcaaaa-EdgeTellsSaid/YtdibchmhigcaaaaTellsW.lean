/- Edge: the walk of the law EdgeTells. -/
import Derived.Test.YtdibchmhigcaaaaS
import Derived.Deep.RegionHeld3
namespace Go.Proofs.Ytdibchmhigcaaaa.EdgeTells
open Go.ChangeShapes Go.WideShapes Go.ChangeAt Go.RowKit
set_option linter.unusedSimpArgs false
set_option linter.unusedVariables false
theorem al1 {w : World} {b i : Nat} {o1 : Obj} (h : b < w.heap.size) : (w.alloc o1).cell? ⟨b, i, none⟩ = w.cell? ⟨b, i, none⟩ := World.cell?_alloc_past o1 b i h
theorem al2 {w : World} {b i : Nat} {o1 o2 : Obj} (h : b < w.heap.size) : ((w.alloc o1).alloc o2).cell? ⟨b, i, none⟩ = w.cell? ⟨b, i, none⟩ := (al1 (by simp; omega)).trans (al1 h)
theorem al3 {w : World} {b i : Nat} {o1 o2 o3 : Obj} (h : b < w.heap.size) : (((w.alloc o1).alloc o2).alloc o3).cell? ⟨b, i, none⟩ = w.cell? ⟨b, i, none⟩ := (al1 (by simp; omega)).trans (al2 h)
set_option maxHeartbeats 4000000 in
theorem xcheck_yes {h : Bool} {a b : Int} (ho : EdgeOK h a b) (w : World) :
    Calls Try.prog 13 #[edg h a b] w fun en w' => en = .returned (.int .i64 0) ∧ w' = w.alloc (.cells #[.bool h, .int .i64 a, .int .i64 b] 24) := by
  rcases ho with ⟨rfl, ha, hb, hab⟩ | ⟨rfl, rfl, rfl⟩
  · have h1 : decide (b < a) = false := decide_eq_false (by omega)
    go_enter Try.func13, Try.ntmps13
    go_wp2_with (first | (go_at_call 23; refine (value_yes ha _).mono ?_; clear ha; rintro en w1 ⟨rfl, rfl⟩) | (go_at_call 23; refine (value_yes hb _).mono ?_; clear hb; rintro en w1 ⟨rfl, rfl⟩))
    go_ret
    exact ⟨rfl, rfl⟩
  · go_enter Try.func13, Try.ntmps13
    go_wp2
    go_ret
    exact ⟨rfl, rfl⟩
set_option maxHeartbeats 4000000 in
theorem xcheck_no {h : Bool} {a b : Int} (ho : ¬ EdgeOK h a b) (w : World) :
    Calls Try.prog 13 #[edg h a b] w fun en w' => en = .returned (.int .i64 8) ∧ w' = w.alloc (.cells #[.bool h, .int .i64 a, .int .i64 b] 24) := by
  cases h
  · have hab : ¬ (a = 0 ∧ b = 0) := fun hh => ho (Or.inr ⟨rfl, hh⟩)
    by_cases ha : a = 0
    · subst ha
      have hb : b ≠ 0 := fun hb => hab ⟨rfl, hb⟩
      have hb' : (b == 0) = false := by simpa using hb
      go_enter Try.func13, Try.ntmps13
      go_wp2
      go_ret
      exact ⟨rfl, rfl⟩
    · have ha' : (a == 0) = false := by simpa using ha
      go_enter Try.func13, Try.ntmps13
      go_wp2
      go_ret
      exact ⟨rfl, rfl⟩
  · by_cases ha : ValOK a
    · by_cases hb : ValOK b
      · have h1 : decide (b < a) = true := decide_eq_true (by
          by_cases h2 : b < a
          · exact h2
          · exact absurd (Or.inl ⟨rfl, ha, hb, by omega⟩) ho)
        go_enter Try.func13, Try.ntmps13
        go_wp2_with (first | (go_at_call 23; refine (value_yes ha _).mono ?_; clear ha; rintro en w1 ⟨rfl, rfl⟩) | (go_at_call 23; refine (value_yes hb _).mono ?_; clear hb; rintro en w1 ⟨rfl, rfl⟩))
        go_ret
        exact ⟨rfl, rfl⟩
      · go_enter Try.func13, Try.ntmps13
        go_wp2_with (first | (go_at_call 23; refine (value_yes ha _).mono ?_; clear ha; rintro en w1 ⟨rfl, rfl⟩) | (go_at_call 23; refine (value_no hb _).mono ?_; clear hb; rintro en w1 ⟨rfl, rfl⟩))
        go_ret
        exact ⟨rfl, rfl⟩
    · go_enter Try.func13, Try.ntmps13
      go_wp2_with (first | (go_at_call 23; refine (value_no ha _).mono ?_; clear ha; rintro en w1 ⟨rfl, rfl⟩))
      go_ret
      exact ⟨rfl, rfl⟩
set_option maxHeartbeats 4000000 in
theorem xmay_yes {h : Bool} {a b : Int} (ho : EdgeOK h a b) (w : World) :
    Calls Try.prog 29 #[edg h a b] w fun en w' => en = .returned (.bool true) ∧ w' = w.alloc (.cells #[.bool h, .int .i64 a, .int .i64 b] 24) := by
  rcases ho with ⟨rfl, ha, hb, hab⟩ | ⟨rfl, rfl, rfl⟩
  · have h1 : decide (a ≤ b) = true := decide_eq_true (by omega)
    go_enter Try.func29, Try.ntmps29
    go_wp2_with (first | (go_at_call 26; refine (rvalue_yes ha _).mono ?_; clear ha; rintro en w1 ⟨rfl, rfl⟩) | (go_at_call 26; refine (rvalue_yes hb _).mono ?_; clear hb; rintro en w1 ⟨rfl, rfl⟩))
    go_ret
    exact ⟨rfl, rfl⟩
  · go_enter Try.func29, Try.ntmps29
    go_wp2
    go_ret
    exact ⟨rfl, rfl⟩
set_option maxHeartbeats 4000000 in
theorem xmay_no {h : Bool} {a b : Int} (ho : ¬ EdgeOK h a b) (w : World) :
    Calls Try.prog 29 #[edg h a b] w fun en w' => en = .returned (.bool false) ∧ w' = w.alloc (.cells #[.bool h, .int .i64 a, .int .i64 b] 24) := by
  cases h
  · have hab : ¬ (a = 0 ∧ b = 0) := fun hh => ho (Or.inr ⟨rfl, hh⟩)
    by_cases ha : a = 0
    · subst ha
      have hb : b ≠ 0 := fun hb => hab ⟨rfl, hb⟩
      have hb' : (b == 0) = false := by simpa using hb
      go_enter Try.func29, Try.ntmps29
      go_wp2
      go_ret
      exact ⟨rfl, rfl⟩
    · have ha' : (a == 0) = false := by simpa using ha
      go_enter Try.func29, Try.ntmps29
      go_wp2
      go_ret
      exact ⟨rfl, rfl⟩
  · by_cases ha : ValOK a
    · by_cases hb : ValOK b
      · have h1 : decide (a ≤ b) = false := decide_eq_false (fun h2 => ho (Or.inl ⟨rfl, ha, hb, h2⟩))
        go_enter Try.func29, Try.ntmps29
        go_wp2_with (first | (go_at_call 26; refine (rvalue_yes ha _).mono ?_; clear ha; rintro en w1 ⟨rfl, rfl⟩) | (go_at_call 26; refine (rvalue_yes hb _).mono ?_; clear hb; rintro en w1 ⟨rfl, rfl⟩))
        go_ret
        exact ⟨rfl, rfl⟩
      · go_enter Try.func29, Try.ntmps29
        go_wp2_with (first | (go_at_call 26; refine (rvalue_yes ha _).mono ?_; clear ha; rintro en w1 ⟨rfl, rfl⟩) | (go_at_call 26; refine (rvalue_no hb _).mono ?_; clear hb; rintro en w1 ⟨rfl, rfl⟩))
        go_ret
        exact ⟨rfl, rfl⟩
    · go_enter Try.func29, Try.ntmps29
      go_wp2_with (first | (go_at_call 26; refine (rvalue_no ha _).mono ?_; clear ha; rintro en w1 ⟨rfl, rfl⟩))
      go_ret
      exact ⟨rfl, rfl⟩
set_option maxHeartbeats 2000000 in
theorem xrcheck_yes {s : St} (hs : s.ok) (w : World) :
    Calls Try.prog 20 #[s.v] w fun en w' => en = .returned (.int .i64 0) ∧ w' = (w.alloc (.cells #[.bool s.1, .int .i64 s.2.1, .int .i64 s.2.2] 24)).alloc (.cells #[.bool s.1, .int .i64 s.2.1, .int .i64 s.2.2] 24) := by
  go_enter Try.func20, Try.ntmps20
  go_wp2_with fail
  refine (xmay_yes hs _).mono ?_
  rintro en w1 ⟨rfl, rfl⟩
  go_wp2
  go_ret
  exact ⟨rfl, rfl⟩
set_option maxHeartbeats 2000000 in
theorem xrcheck_no {s : St} (hs : ¬ s.ok) (w : World) :
    Calls Try.prog 20 #[s.v] w fun en w' => en = .returned (.int .i64 8) ∧ w' = (w.alloc (.cells #[.bool s.1, .int .i64 s.2.1, .int .i64 s.2.2] 24)).alloc (.cells #[.bool s.1, .int .i64 s.2.1, .int .i64 s.2.2] 24) := by
  go_enter Try.func20, Try.ntmps20
  go_wp2_with fail
  refine (xmay_no hs _).mono ?_
  rintro en w1 ⟨rfl, rfl⟩
  go_wp2
  go_ret
  exact ⟨rfl, rfl⟩
theorem check_ex (s : St) (w : World) : Calls Try.prog 13 #[s.v] w fun en w' => en = .returned (.int .i64 (chkE s)) ∧ w' = w.alloc (.cells #[.bool s.1, .int .i64 s.2.1, .int .i64 s.2.2] 24) := by
  unfold chkE
  by_cases h : St.ok s
  · rw [if_pos h]; exact xcheck_yes h w
  · rw [if_neg h]; exact xcheck_no h w
theorem rcheck_ex (s : St) (w : World) : Calls Try.prog 20 #[s.v] w fun en w' => en = .returned (.int .i64 (chkE s)) ∧ w' = (w.alloc (.cells #[.bool s.1, .int .i64 s.2.1, .int .i64 s.2.2] 24)).alloc (.cells #[.bool s.1, .int .i64 s.2.1, .int .i64 s.2.2] 24) := by
  unfold chkE
  by_cases h : St.ok s
  · rw [if_pos h]; exact xrcheck_yes h w
  · rw [if_neg h]; exact xrcheck_no h w
theorem rlit_of (x : Int) (s : St) (e : Int) (hs : ofS x = s) (he : ofE x = e) (w : World) :
    Calls Try.prog 15 #[.int .i64 x] w fun en w' => en = .returned (.tuple #[s.v, .int .i64 e]) ∧ Below w.heap.size w w' := by subst hs he; exact rof_one x w
theorem rlit_join (s t r : St) (e : Int) (hs : joinS s t = r) (he : joinE s t = e) (w : World) :
    Calls Try.prog 17 #[s.v, t.v] w fun en w' => en = .returned (.tuple #[r.v, .int .i64 e]) ∧ Below w.heap.size w w' := by subst hs he; exact rjoin_any s t w
set_option maxHeartbeats 8000000 in
set_option maxRecDepth 100000 in
theorem walk (a b : St) (x : Int) (w : World) : Calls Try.prog 5 #[a.v, b.v, .int .i64 x] w fun en w' => en = .returned (.bool true) ∧ Below w.heap.size w w' := by
  obtain ⟨p, hp⟩ : ∃ p, ofS x = p := ⟨_, rfl⟩
  obtain ⟨e1, he1⟩ : ∃ p, ofE x = p := ⟨_, rfl⟩
  obtain ⟨c, hc⟩ : ∃ p, joinS a b = p := ⟨_, rfl⟩
  obtain ⟨e2, he2⟩ : ∃ p, joinE a b = p := ⟨_, rfl⟩
  go_enter Try.func5, Try.ntmps5
  go_wp2_with fail
  refine (lit_of x p e1 hp he1 _).mono ?_
  rintro en w1 ⟨rfl, hb1⟩
  have hz1 := hb1.size
  (try simp at hz1)
  (have hc1A : ∀ o, w1.cell? ⟨w.heap.size, o, none⟩ = _ := fun o => hb1.cell (p := ⟨w.heap.size, o, none⟩) (by first | exact Nat.le_refl _ | omega | (simp; done) | (simp; omega)); (try simp at hc1A); have hl1A : w.heap.size < w1.heap.size := (by omega); have hf1A : ∀ o, w1.frozen? ⟨w.heap.size, o, none⟩ = _ := fun o => hb1.frozen (p := ⟨w.heap.size, o, none⟩) (by first | exact Nat.le_refl _ | omega | (simp; done) | (simp; omega)); (try simp at hf1A); have hc1B : ∀ o, w1.cell? ⟨w.heap.size + 1, o, none⟩ = _ := fun o => hb1.cell (p := ⟨w.heap.size + 1, o, none⟩) (by first | exact Nat.le_refl _ | omega | (simp; done) | (simp; omega)); (try simp at hc1B); have hl1B : w.heap.size + 1 < w1.heap.size := (by omega); have hf1B : ∀ o, w1.frozen? ⟨w.heap.size + 1, o, none⟩ = _ := fun o => hb1.frozen (p := ⟨w.heap.size + 1, o, none⟩) (by first | exact Nat.le_refl _ | omega | (simp; done) | (simp; omega)); (try simp at hf1B))
  go_wp2_with fail
  refine (rlit_of x p e1 hp he1 _).mono ?_
  rintro en w2 ⟨rfl, hb2⟩
  have hz2 := hb2.size
  (try simp at hz2)
  (have hc2A : ∀ o, w2.cell? ⟨w.heap.size, o, none⟩ = _ := fun o => hb2.cell (p := ⟨w.heap.size, o, none⟩) (by first | exact Nat.le_refl _ | omega | (simp; done) | (simp; omega)); (try simp [World.cell?_alloc_past, World.frozen?_alloc_past, hc1A, hf1A, hl1A, hc1B, hf1B, hl1B] at hc2A); have hl2A : w.heap.size < w2.heap.size := (by omega); have hf2A : ∀ o, w2.frozen? ⟨w.heap.size, o, none⟩ = _ := fun o => hb2.frozen (p := ⟨w.heap.size, o, none⟩) (by first | exact Nat.le_refl _ | omega | (simp; done) | (simp; omega)); (try simp [World.cell?_alloc_past, World.frozen?_alloc_past, hc1A, hf1A, hl1A, hc1B, hf1B, hl1B] at hf2A); have hc2B : ∀ o, w2.cell? ⟨w.heap.size + 1, o, none⟩ = _ := fun o => hb2.cell (p := ⟨w.heap.size + 1, o, none⟩) (by first | exact Nat.le_refl _ | omega | (simp; done) | (simp; omega)); (try simp [World.cell?_alloc_past, World.frozen?_alloc_past, hc1A, hf1A, hl1A, hc1B, hf1B, hl1B] at hc2B); have hl2B : w.heap.size + 1 < w2.heap.size := (by omega); have hf2B : ∀ o, w2.frozen? ⟨w.heap.size + 1, o, none⟩ = _ := fun o => hb2.frozen (p := ⟨w.heap.size + 1, o, none⟩) (by first | exact Nat.le_refl _ | omega | (simp; done) | (simp; omega)); (try simp [World.cell?_alloc_past, World.frozen?_alloc_past, hc1A, hf1A, hl1A, hc1B, hf1B, hl1B] at hf2B); have hc2P : ∀ o, w2.cell? ⟨w1.heap.size, o, none⟩ = _ := fun o => hb2.cell (p := ⟨w1.heap.size, o, none⟩) (by first | exact Nat.le_refl _ | omega | (simp; done) | (simp; omega)); (try simp [World.cell?_alloc_past, World.frozen?_alloc_past, hc1A, hf1A, hl1A, hc1B, hf1B, hl1B] at hc2P); have hl2P : w1.heap.size < w2.heap.size := (by omega); have hf2P : ∀ o, w2.frozen? ⟨w1.heap.size, o, none⟩ = _ := fun o => hb2.frozen (p := ⟨w1.heap.size, o, none⟩) (by first | exact Nat.le_refl _ | omega | (simp; done) | (simp; omega)); (try simp [World.cell?_alloc_past, World.frozen?_alloc_past, hc1A, hf1A, hl1A, hc1B, hf1B, hl1B] at hf2P))
  clear hc1A hf1A hl1A hc1B hf1B hl1B
  go_wp2_with fail
  refine (lit_join a b c e2 hc he2 _).mono ?_
  rintro en w3 ⟨rfl, hb3⟩
  have hz3 := hb3.size
  (try simp at hz3)
  (have hc3A : ∀ o, w3.cell? ⟨w.heap.size, o, none⟩ = _ := fun o => hb3.cell (p := ⟨w.heap.size, o, none⟩) (by first | exact Nat.le_refl _ | omega | (simp; done) | (simp; omega)); (try simp [World.cell?_alloc_past, World.frozen?_alloc_past, hc2A, hf2A, hl2A, hc2B, hf2B, hl2B, hc2P, hf2P, hl2P] at hc3A); have hl3A : w.heap.size < w3.heap.size := (by omega); have hf3A : ∀ o, w3.frozen? ⟨w.heap.size, o, none⟩ = _ := fun o => hb3.frozen (p := ⟨w.heap.size, o, none⟩) (by first | exact Nat.le_refl _ | omega | (simp; done) | (simp; omega)); (try simp [World.cell?_alloc_past, World.frozen?_alloc_past, hc2A, hf2A, hl2A, hc2B, hf2B, hl2B, hc2P, hf2P, hl2P] at hf3A); have hc3B : ∀ o, w3.cell? ⟨w.heap.size + 1, o, none⟩ = _ := fun o => hb3.cell (p := ⟨w.heap.size + 1, o, none⟩) (by first | exact Nat.le_refl _ | omega | (simp; done) | (simp; omega)); (try simp [World.cell?_alloc_past, World.frozen?_alloc_past, hc2A, hf2A, hl2A, hc2B, hf2B, hl2B, hc2P, hf2P, hl2P] at hc3B); have hl3B : w.heap.size + 1 < w3.heap.size := (by omega); have hf3B : ∀ o, w3.frozen? ⟨w.heap.size + 1, o, none⟩ = _ := fun o => hb3.frozen (p := ⟨w.heap.size + 1, o, none⟩) (by first | exact Nat.le_refl _ | omega | (simp; done) | (simp; omega)); (try simp [World.cell?_alloc_past, World.frozen?_alloc_past, hc2A, hf2A, hl2A, hc2B, hf2B, hl2B, hc2P, hf2P, hl2P] at hf3B); have hc3P : ∀ o, w3.cell? ⟨w1.heap.size, o, none⟩ = _ := fun o => hb3.cell (p := ⟨w1.heap.size, o, none⟩) (by first | exact Nat.le_refl _ | omega | (simp; done) | (simp; omega)); (try simp [World.cell?_alloc_past, World.frozen?_alloc_past, hc2A, hf2A, hl2A, hc2B, hf2B, hl2B, hc2P, hf2P, hl2P] at hc3P); have hl3P : w1.heap.size < w3.heap.size := (by omega); have hf3P : ∀ o, w3.frozen? ⟨w1.heap.size, o, none⟩ = _ := fun o => hb3.frozen (p := ⟨w1.heap.size, o, none⟩) (by first | exact Nat.le_refl _ | omega | (simp; done) | (simp; omega)); (try simp [World.cell?_alloc_past, World.frozen?_alloc_past, hc2A, hf2A, hl2A, hc2B, hf2B, hl2B, hc2P, hf2P, hl2P] at hf3P); have hc3Q : ∀ o, w3.cell? ⟨w2.heap.size, o, none⟩ = _ := fun o => hb3.cell (p := ⟨w2.heap.size, o, none⟩) (by first | exact Nat.le_refl _ | omega | (simp; done) | (simp; omega)); (try simp [World.cell?_alloc_past, World.frozen?_alloc_past, hc2A, hf2A, hl2A, hc2B, hf2B, hl2B, hc2P, hf2P, hl2P] at hc3Q); have hl3Q : w2.heap.size < w3.heap.size := (by omega); have hf3Q : ∀ o, w3.frozen? ⟨w2.heap.size, o, none⟩ = _ := fun o => hb3.frozen (p := ⟨w2.heap.size, o, none⟩) (by first | exact Nat.le_refl _ | omega | (simp; done) | (simp; omega)); (try simp [World.cell?_alloc_past, World.frozen?_alloc_past, hc2A, hf2A, hl2A, hc2B, hf2B, hl2B, hc2P, hf2P, hl2P] at hf3Q))
  clear hc2A hf2A hl2A hc2B hf2B hl2B hc2P hf2P hl2P
  go_wp2_with fail
  refine (rlit_join a b c e2 hc he2 _).mono ?_
  rintro en w4 ⟨rfl, hb4⟩
  have hz4 := hb4.size
  (try simp at hz4)
  (have hc4A : ∀ o, w4.cell? ⟨w.heap.size, o, none⟩ = _ := fun o => hb4.cell (p := ⟨w.heap.size, o, none⟩) (by first | exact Nat.le_refl _ | omega | (simp; done) | (simp; omega)); (try simp [World.cell?_alloc_past, World.frozen?_alloc_past, hc3A, hf3A, hl3A, hc3B, hf3B, hl3B, hc3P, hf3P, hl3P, hc3Q, hf3Q, hl3Q] at hc4A); have hl4A : w.heap.size < w4.heap.size := (by omega); have hf4A : ∀ o, w4.frozen? ⟨w.heap.size, o, none⟩ = _ := fun o => hb4.frozen (p := ⟨w.heap.size, o, none⟩) (by first | exact Nat.le_refl _ | omega | (simp; done) | (simp; omega)); (try simp [World.cell?_alloc_past, World.frozen?_alloc_past, hc3A, hf3A, hl3A, hc3B, hf3B, hl3B, hc3P, hf3P, hl3P, hc3Q, hf3Q, hl3Q] at hf4A); have hc4B : ∀ o, w4.cell? ⟨w.heap.size + 1, o, none⟩ = _ := fun o => hb4.cell (p := ⟨w.heap.size + 1, o, none⟩) (by first | exact Nat.le_refl _ | omega | (simp; done) | (simp; omega)); (try simp [World.cell?_alloc_past, World.frozen?_alloc_past, hc3A, hf3A, hl3A, hc3B, hf3B, hl3B, hc3P, hf3P, hl3P, hc3Q, hf3Q, hl3Q] at hc4B); have hl4B : w.heap.size + 1 < w4.heap.size := (by omega); have hf4B : ∀ o, w4.frozen? ⟨w.heap.size + 1, o, none⟩ = _ := fun o => hb4.frozen (p := ⟨w.heap.size + 1, o, none⟩) (by first | exact Nat.le_refl _ | omega | (simp; done) | (simp; omega)); (try simp [World.cell?_alloc_past, World.frozen?_alloc_past, hc3A, hf3A, hl3A, hc3B, hf3B, hl3B, hc3P, hf3P, hl3P, hc3Q, hf3Q, hl3Q] at hf4B); have hc4P : ∀ o, w4.cell? ⟨w1.heap.size, o, none⟩ = _ := fun o => hb4.cell (p := ⟨w1.heap.size, o, none⟩) (by first | exact Nat.le_refl _ | omega | (simp; done) | (simp; omega)); (try simp [World.cell?_alloc_past, World.frozen?_alloc_past, hc3A, hf3A, hl3A, hc3B, hf3B, hl3B, hc3P, hf3P, hl3P, hc3Q, hf3Q, hl3Q] at hc4P); have hl4P : w1.heap.size < w4.heap.size := (by omega); have hf4P : ∀ o, w4.frozen? ⟨w1.heap.size, o, none⟩ = _ := fun o => hb4.frozen (p := ⟨w1.heap.size, o, none⟩) (by first | exact Nat.le_refl _ | omega | (simp; done) | (simp; omega)); (try simp [World.cell?_alloc_past, World.frozen?_alloc_past, hc3A, hf3A, hl3A, hc3B, hf3B, hl3B, hc3P, hf3P, hl3P, hc3Q, hf3Q, hl3Q] at hf4P); have hc4Q : ∀ o, w4.cell? ⟨w2.heap.size, o, none⟩ = _ := fun o => hb4.cell (p := ⟨w2.heap.size, o, none⟩) (by first | exact Nat.le_refl _ | omega | (simp; done) | (simp; omega)); (try simp [World.cell?_alloc_past, World.frozen?_alloc_past, hc3A, hf3A, hl3A, hc3B, hf3B, hl3B, hc3P, hf3P, hl3P, hc3Q, hf3Q, hl3Q] at hc4Q); have hl4Q : w2.heap.size < w4.heap.size := (by omega); have hf4Q : ∀ o, w4.frozen? ⟨w2.heap.size, o, none⟩ = _ := fun o => hb4.frozen (p := ⟨w2.heap.size, o, none⟩) (by first | exact Nat.le_refl _ | omega | (simp; done) | (simp; omega)); (try simp [World.cell?_alloc_past, World.frozen?_alloc_past, hc3A, hf3A, hl3A, hc3B, hf3B, hl3B, hc3P, hf3P, hl3P, hc3Q, hf3Q, hl3Q] at hf4Q); have hc4C : ∀ o, w4.cell? ⟨w3.heap.size, o, none⟩ = _ := fun o => hb4.cell (p := ⟨w3.heap.size, o, none⟩) (by first | exact Nat.le_refl _ | omega | (simp; done) | (simp; omega)); (try simp [World.cell?_alloc_past, World.frozen?_alloc_past, hc3A, hf3A, hl3A, hc3B, hf3B, hl3B, hc3P, hf3P, hl3P, hc3Q, hf3Q, hl3Q] at hc4C); have hl4C : w3.heap.size < w4.heap.size := (by omega); have hf4C : ∀ o, w4.frozen? ⟨w3.heap.size, o, none⟩ = _ := fun o => hb4.frozen (p := ⟨w3.heap.size, o, none⟩) (by first | exact Nat.le_refl _ | omega | (simp; done) | (simp; omega)); (try simp [World.cell?_alloc_past, World.frozen?_alloc_past, hc3A, hf3A, hl3A, hc3B, hf3B, hl3B, hc3P, hf3P, hl3P, hc3Q, hf3Q, hl3Q] at hf4C))
  clear hc3A hf3A hl3A hc3B hf3B hl3B hc3P hf3P hl3P hc3Q hf3Q hl3Q
  go_wp2_with fail
  refine (in_any a x _).mono ?_
  rintro en w5 ⟨rfl, hb5⟩
  have hz5 := hb5.size
  (try simp at hz5)
  (have hc5A : ∀ o, w5.cell? ⟨w.heap.size, o, none⟩ = _ := fun o => hb5.cell (p := ⟨w.heap.size, o, none⟩) (by first | exact Nat.le_refl _ | omega | (simp; done) | (simp; omega)); (try simp [World.cell?_alloc_past, World.frozen?_alloc_past, hc4A, hf4A, hl4A, hc4B, hf4B, hl4B, hc4P, hf4P, hl4P, hc4Q, hf4Q, hl4Q, hc4C, hf4C, hl4C] at hc5A); have hl5A : w.heap.size < w5.heap.size := (by omega); have hf5A : ∀ o, w5.frozen? ⟨w.heap.size, o, none⟩ = _ := fun o => hb5.frozen (p := ⟨w.heap.size, o, none⟩) (by first | exact Nat.le_refl _ | omega | (simp; done) | (simp; omega)); (try simp [World.cell?_alloc_past, World.frozen?_alloc_past, hc4A, hf4A, hl4A, hc4B, hf4B, hl4B, hc4P, hf4P, hl4P, hc4Q, hf4Q, hl4Q, hc4C, hf4C, hl4C] at hf5A); have hc5B : ∀ o, w5.cell? ⟨w.heap.size + 1, o, none⟩ = _ := fun o => hb5.cell (p := ⟨w.heap.size + 1, o, none⟩) (by first | exact Nat.le_refl _ | omega | (simp; done) | (simp; omega)); (try simp [World.cell?_alloc_past, World.frozen?_alloc_past, hc4A, hf4A, hl4A, hc4B, hf4B, hl4B, hc4P, hf4P, hl4P, hc4Q, hf4Q, hl4Q, hc4C, hf4C, hl4C] at hc5B); have hl5B : w.heap.size + 1 < w5.heap.size := (by omega); have hf5B : ∀ o, w5.frozen? ⟨w.heap.size + 1, o, none⟩ = _ := fun o => hb5.frozen (p := ⟨w.heap.size + 1, o, none⟩) (by first | exact Nat.le_refl _ | omega | (simp; done) | (simp; omega)); (try simp [World.cell?_alloc_past, World.frozen?_alloc_past, hc4A, hf4A, hl4A, hc4B, hf4B, hl4B, hc4P, hf4P, hl4P, hc4Q, hf4Q, hl4Q, hc4C, hf4C, hl4C] at hf5B); have hc5P : ∀ o, w5.cell? ⟨w1.heap.size, o, none⟩ = _ := fun o => hb5.cell (p := ⟨w1.heap.size, o, none⟩) (by first | exact Nat.le_refl _ | omega | (simp; done) | (simp; omega)); (try simp [World.cell?_alloc_past, World.frozen?_alloc_past, hc4A, hf4A, hl4A, hc4B, hf4B, hl4B, hc4P, hf4P, hl4P, hc4Q, hf4Q, hl4Q, hc4C, hf4C, hl4C] at hc5P); have hl5P : w1.heap.size < w5.heap.size := (by omega); have hf5P : ∀ o, w5.frozen? ⟨w1.heap.size, o, none⟩ = _ := fun o => hb5.frozen (p := ⟨w1.heap.size, o, none⟩) (by first | exact Nat.le_refl _ | omega | (simp; done) | (simp; omega)); (try simp [World.cell?_alloc_past, World.frozen?_alloc_past, hc4A, hf4A, hl4A, hc4B, hf4B, hl4B, hc4P, hf4P, hl4P, hc4Q, hf4Q, hl4Q, hc4C, hf4C, hl4C] at hf5P); have hc5Q : ∀ o, w5.cell? ⟨w2.heap.size, o, none⟩ = _ := fun o => hb5.cell (p := ⟨w2.heap.size, o, none⟩) (by first | exact Nat.le_refl _ | omega | (simp; done) | (simp; omega)); (try simp [World.cell?_alloc_past, World.frozen?_alloc_past, hc4A, hf4A, hl4A, hc4B, hf4B, hl4B, hc4P, hf4P, hl4P, hc4Q, hf4Q, hl4Q, hc4C, hf4C, hl4C] at hc5Q); have hl5Q : w2.heap.size < w5.heap.size := (by omega); have hf5Q : ∀ o, w5.frozen? ⟨w2.heap.size, o, none⟩ = _ := fun o => hb5.frozen (p := ⟨w2.heap.size, o, none⟩) (by first | exact Nat.le_refl _ | omega | (simp; done) | (simp; omega)); (try simp [World.cell?_alloc_past, World.frozen?_alloc_past, hc4A, hf4A, hl4A, hc4B, hf4B, hl4B, hc4P, hf4P, hl4P, hc4Q, hf4Q, hl4Q, hc4C, hf4C, hl4C] at hf5Q); have hc5C : ∀ o, w5.cell? ⟨w3.heap.size, o, none⟩ = _ := fun o => hb5.cell (p := ⟨w3.heap.size, o, none⟩) (by first | exact Nat.le_refl _ | omega | (simp; done) | (simp; omega)); (try simp [World.cell?_alloc_past, World.frozen?_alloc_past, hc4A, hf4A, hl4A, hc4B, hf4B, hl4B, hc4P, hf4P, hl4P, hc4Q, hf4Q, hl4Q, hc4C, hf4C, hl4C] at hc5C); have hl5C : w3.heap.size < w5.heap.size := (by omega); have hf5C : ∀ o, w5.frozen? ⟨w3.heap.size, o, none⟩ = _ := fun o => hb5.frozen (p := ⟨w3.heap.size, o, none⟩) (by first | exact Nat.le_refl _ | omega | (simp; done) | (simp; omega)); (try simp [World.cell?_alloc_past, World.frozen?_alloc_past, hc4A, hf4A, hl4A, hc4B, hf4B, hl4B, hc4P, hf4P, hl4P, hc4Q, hf4Q, hl4Q, hc4C, hf4C, hl4C] at hf5C); have hc5D : ∀ o, w5.cell? ⟨w4.heap.size, o, none⟩ = _ := fun o => hb5.cell (p := ⟨w4.heap.size, o, none⟩) (by first | exact Nat.le_refl _ | omega | (simp; done) | (simp; omega)); (try simp [World.cell?_alloc_past, World.frozen?_alloc_past, hc4A, hf4A, hl4A, hc4B, hf4B, hl4B, hc4P, hf4P, hl4P, hc4Q, hf4Q, hl4Q, hc4C, hf4C, hl4C] at hc5D); have hl5D : w4.heap.size < w5.heap.size := (by omega); have hf5D : ∀ o, w5.frozen? ⟨w4.heap.size, o, none⟩ = _ := fun o => hb5.frozen (p := ⟨w4.heap.size, o, none⟩) (by first | exact Nat.le_refl _ | omega | (simp; done) | (simp; omega)); (try simp [World.cell?_alloc_past, World.frozen?_alloc_past, hc4A, hf4A, hl4A, hc4B, hf4B, hl4B, hc4P, hf4P, hl4P, hc4Q, hf4Q, hl4Q, hc4C, hf4C, hl4C] at hf5D))
  clear hc4A hf4A hl4A hc4B hf4B hl4B hc4P hf4P hl4P hc4Q hf4Q hl4Q hc4C hf4C hl4C
  go_wp2_with fail
  refine (rin_any a x _).mono ?_
  rintro en w6 ⟨rfl, hb6⟩
  have hz6 := hb6.size
  (try simp at hz6)
  (have hc6A : ∀ o, w6.cell? ⟨w.heap.size, o, none⟩ = _ := fun o => hb6.cell (p := ⟨w.heap.size, o, none⟩) (by first | exact Nat.le_refl _ | omega | (simp; done) | (simp; omega)); (try simp [World.cell?_alloc_past, World.frozen?_alloc_past, hc5A, hf5A, hl5A, hc5B, hf5B, hl5B, hc5P, hf5P, hl5P, hc5Q, hf5Q, hl5Q, hc5C, hf5C, hl5C, hc5D, hf5D, hl5D] at hc6A); have hl6A : w.heap.size < w6.heap.size := (by omega); have hf6A : ∀ o, w6.frozen? ⟨w.heap.size, o, none⟩ = _ := fun o => hb6.frozen (p := ⟨w.heap.size, o, none⟩) (by first | exact Nat.le_refl _ | omega | (simp; done) | (simp; omega)); (try simp [World.cell?_alloc_past, World.frozen?_alloc_past, hc5A, hf5A, hl5A, hc5B, hf5B, hl5B, hc5P, hf5P, hl5P, hc5Q, hf5Q, hl5Q, hc5C, hf5C, hl5C, hc5D, hf5D, hl5D] at hf6A); have hc6B : ∀ o, w6.cell? ⟨w.heap.size + 1, o, none⟩ = _ := fun o => hb6.cell (p := ⟨w.heap.size + 1, o, none⟩) (by first | exact Nat.le_refl _ | omega | (simp; done) | (simp; omega)); (try simp [World.cell?_alloc_past, World.frozen?_alloc_past, hc5A, hf5A, hl5A, hc5B, hf5B, hl5B, hc5P, hf5P, hl5P, hc5Q, hf5Q, hl5Q, hc5C, hf5C, hl5C, hc5D, hf5D, hl5D] at hc6B); have hl6B : w.heap.size + 1 < w6.heap.size := (by omega); have hf6B : ∀ o, w6.frozen? ⟨w.heap.size + 1, o, none⟩ = _ := fun o => hb6.frozen (p := ⟨w.heap.size + 1, o, none⟩) (by first | exact Nat.le_refl _ | omega | (simp; done) | (simp; omega)); (try simp [World.cell?_alloc_past, World.frozen?_alloc_past, hc5A, hf5A, hl5A, hc5B, hf5B, hl5B, hc5P, hf5P, hl5P, hc5Q, hf5Q, hl5Q, hc5C, hf5C, hl5C, hc5D, hf5D, hl5D] at hf6B); have hc6P : ∀ o, w6.cell? ⟨w1.heap.size, o, none⟩ = _ := fun o => hb6.cell (p := ⟨w1.heap.size, o, none⟩) (by first | exact Nat.le_refl _ | omega | (simp; done) | (simp; omega)); (try simp [World.cell?_alloc_past, World.frozen?_alloc_past, hc5A, hf5A, hl5A, hc5B, hf5B, hl5B, hc5P, hf5P, hl5P, hc5Q, hf5Q, hl5Q, hc5C, hf5C, hl5C, hc5D, hf5D, hl5D] at hc6P); have hl6P : w1.heap.size < w6.heap.size := (by omega); have hf6P : ∀ o, w6.frozen? ⟨w1.heap.size, o, none⟩ = _ := fun o => hb6.frozen (p := ⟨w1.heap.size, o, none⟩) (by first | exact Nat.le_refl _ | omega | (simp; done) | (simp; omega)); (try simp [World.cell?_alloc_past, World.frozen?_alloc_past, hc5A, hf5A, hl5A, hc5B, hf5B, hl5B, hc5P, hf5P, hl5P, hc5Q, hf5Q, hl5Q, hc5C, hf5C, hl5C, hc5D, hf5D, hl5D] at hf6P); have hc6Q : ∀ o, w6.cell? ⟨w2.heap.size, o, none⟩ = _ := fun o => hb6.cell (p := ⟨w2.heap.size, o, none⟩) (by first | exact Nat.le_refl _ | omega | (simp; done) | (simp; omega)); (try simp [World.cell?_alloc_past, World.frozen?_alloc_past, hc5A, hf5A, hl5A, hc5B, hf5B, hl5B, hc5P, hf5P, hl5P, hc5Q, hf5Q, hl5Q, hc5C, hf5C, hl5C, hc5D, hf5D, hl5D] at hc6Q); have hl6Q : w2.heap.size < w6.heap.size := (by omega); have hf6Q : ∀ o, w6.frozen? ⟨w2.heap.size, o, none⟩ = _ := fun o => hb6.frozen (p := ⟨w2.heap.size, o, none⟩) (by first | exact Nat.le_refl _ | omega | (simp; done) | (simp; omega)); (try simp [World.cell?_alloc_past, World.frozen?_alloc_past, hc5A, hf5A, hl5A, hc5B, hf5B, hl5B, hc5P, hf5P, hl5P, hc5Q, hf5Q, hl5Q, hc5C, hf5C, hl5C, hc5D, hf5D, hl5D] at hf6Q); have hc6C : ∀ o, w6.cell? ⟨w3.heap.size, o, none⟩ = _ := fun o => hb6.cell (p := ⟨w3.heap.size, o, none⟩) (by first | exact Nat.le_refl _ | omega | (simp; done) | (simp; omega)); (try simp [World.cell?_alloc_past, World.frozen?_alloc_past, hc5A, hf5A, hl5A, hc5B, hf5B, hl5B, hc5P, hf5P, hl5P, hc5Q, hf5Q, hl5Q, hc5C, hf5C, hl5C, hc5D, hf5D, hl5D] at hc6C); have hl6C : w3.heap.size < w6.heap.size := (by omega); have hf6C : ∀ o, w6.frozen? ⟨w3.heap.size, o, none⟩ = _ := fun o => hb6.frozen (p := ⟨w3.heap.size, o, none⟩) (by first | exact Nat.le_refl _ | omega | (simp; done) | (simp; omega)); (try simp [World.cell?_alloc_past, World.frozen?_alloc_past, hc5A, hf5A, hl5A, hc5B, hf5B, hl5B, hc5P, hf5P, hl5P, hc5Q, hf5Q, hl5Q, hc5C, hf5C, hl5C, hc5D, hf5D, hl5D] at hf6C); have hc6D : ∀ o, w6.cell? ⟨w4.heap.size, o, none⟩ = _ := fun o => hb6.cell (p := ⟨w4.heap.size, o, none⟩) (by first | exact Nat.le_refl _ | omega | (simp; done) | (simp; omega)); (try simp [World.cell?_alloc_past, World.frozen?_alloc_past, hc5A, hf5A, hl5A, hc5B, hf5B, hl5B, hc5P, hf5P, hl5P, hc5Q, hf5Q, hl5Q, hc5C, hf5C, hl5C, hc5D, hf5D, hl5D] at hc6D); have hl6D : w4.heap.size < w6.heap.size := (by omega); have hf6D : ∀ o, w6.frozen? ⟨w4.heap.size, o, none⟩ = _ := fun o => hb6.frozen (p := ⟨w4.heap.size, o, none⟩) (by first | exact Nat.le_refl _ | omega | (simp; done) | (simp; omega)); (try simp [World.cell?_alloc_past, World.frozen?_alloc_past, hc5A, hf5A, hl5A, hc5B, hf5B, hl5B, hc5P, hf5P, hl5P, hc5Q, hf5Q, hl5Q, hc5C, hf5C, hl5C, hc5D, hf5D, hl5D] at hf6D))
  clear hc5A hf5A hl5A hc5B hf5B hl5B hc5P hf5P hl5P hc5Q hf5Q hl5Q hc5C hf5C hl5C hc5D hf5D hl5D
  go_wp2_with fail
  refine (wide_any a _).mono ?_
  rintro en w7 ⟨rfl, hb7⟩
  have hz7 := hb7.size
  (try simp at hz7)
  (have hc7A : ∀ o, w7.cell? ⟨w.heap.size, o, none⟩ = _ := fun o => hb7.cell (p := ⟨w.heap.size, o, none⟩) (by first | exact Nat.le_refl _ | omega | (simp; done) | (simp; omega)); (try simp [World.cell?_alloc_past, World.frozen?_alloc_past, hc6A, hf6A, hl6A, hc6B, hf6B, hl6B, hc6P, hf6P, hl6P, hc6Q, hf6Q, hl6Q, hc6C, hf6C, hl6C, hc6D, hf6D, hl6D] at hc7A); have hl7A : w.heap.size < w7.heap.size := (by omega); have hf7A : ∀ o, w7.frozen? ⟨w.heap.size, o, none⟩ = _ := fun o => hb7.frozen (p := ⟨w.heap.size, o, none⟩) (by first | exact Nat.le_refl _ | omega | (simp; done) | (simp; omega)); (try simp [World.cell?_alloc_past, World.frozen?_alloc_past, hc6A, hf6A, hl6A, hc6B, hf6B, hl6B, hc6P, hf6P, hl6P, hc6Q, hf6Q, hl6Q, hc6C, hf6C, hl6C, hc6D, hf6D, hl6D] at hf7A); have hc7B : ∀ o, w7.cell? ⟨w.heap.size + 1, o, none⟩ = _ := fun o => hb7.cell (p := ⟨w.heap.size + 1, o, none⟩) (by first | exact Nat.le_refl _ | omega | (simp; done) | (simp; omega)); (try simp [World.cell?_alloc_past, World.frozen?_alloc_past, hc6A, hf6A, hl6A, hc6B, hf6B, hl6B, hc6P, hf6P, hl6P, hc6Q, hf6Q, hl6Q, hc6C, hf6C, hl6C, hc6D, hf6D, hl6D] at hc7B); have hl7B : w.heap.size + 1 < w7.heap.size := (by omega); have hf7B : ∀ o, w7.frozen? ⟨w.heap.size + 1, o, none⟩ = _ := fun o => hb7.frozen (p := ⟨w.heap.size + 1, o, none⟩) (by first | exact Nat.le_refl _ | omega | (simp; done) | (simp; omega)); (try simp [World.cell?_alloc_past, World.frozen?_alloc_past, hc6A, hf6A, hl6A, hc6B, hf6B, hl6B, hc6P, hf6P, hl6P, hc6Q, hf6Q, hl6Q, hc6C, hf6C, hl6C, hc6D, hf6D, hl6D] at hf7B); have hc7P : ∀ o, w7.cell? ⟨w1.heap.size, o, none⟩ = _ := fun o => hb7.cell (p := ⟨w1.heap.size, o, none⟩) (by first | exact Nat.le_refl _ | omega | (simp; done) | (simp; omega)); (try simp [World.cell?_alloc_past, World.frozen?_alloc_past, hc6A, hf6A, hl6A, hc6B, hf6B, hl6B, hc6P, hf6P, hl6P, hc6Q, hf6Q, hl6Q, hc6C, hf6C, hl6C, hc6D, hf6D, hl6D] at hc7P); have hl7P : w1.heap.size < w7.heap.size := (by omega); have hf7P : ∀ o, w7.frozen? ⟨w1.heap.size, o, none⟩ = _ := fun o => hb7.frozen (p := ⟨w1.heap.size, o, none⟩) (by first | exact Nat.le_refl _ | omega | (simp; done) | (simp; omega)); (try simp [World.cell?_alloc_past, World.frozen?_alloc_past, hc6A, hf6A, hl6A, hc6B, hf6B, hl6B, hc6P, hf6P, hl6P, hc6Q, hf6Q, hl6Q, hc6C, hf6C, hl6C, hc6D, hf6D, hl6D] at hf7P); have hc7Q : ∀ o, w7.cell? ⟨w2.heap.size, o, none⟩ = _ := fun o => hb7.cell (p := ⟨w2.heap.size, o, none⟩) (by first | exact Nat.le_refl _ | omega | (simp; done) | (simp; omega)); (try simp [World.cell?_alloc_past, World.frozen?_alloc_past, hc6A, hf6A, hl6A, hc6B, hf6B, hl6B, hc6P, hf6P, hl6P, hc6Q, hf6Q, hl6Q, hc6C, hf6C, hl6C, hc6D, hf6D, hl6D] at hc7Q); have hl7Q : w2.heap.size < w7.heap.size := (by omega); have hf7Q : ∀ o, w7.frozen? ⟨w2.heap.size, o, none⟩ = _ := fun o => hb7.frozen (p := ⟨w2.heap.size, o, none⟩) (by first | exact Nat.le_refl _ | omega | (simp; done) | (simp; omega)); (try simp [World.cell?_alloc_past, World.frozen?_alloc_past, hc6A, hf6A, hl6A, hc6B, hf6B, hl6B, hc6P, hf6P, hl6P, hc6Q, hf6Q, hl6Q, hc6C, hf6C, hl6C, hc6D, hf6D, hl6D] at hf7Q); have hc7C : ∀ o, w7.cell? ⟨w3.heap.size, o, none⟩ = _ := fun o => hb7.cell (p := ⟨w3.heap.size, o, none⟩) (by first | exact Nat.le_refl _ | omega | (simp; done) | (simp; omega)); (try simp [World.cell?_alloc_past, World.frozen?_alloc_past, hc6A, hf6A, hl6A, hc6B, hf6B, hl6B, hc6P, hf6P, hl6P, hc6Q, hf6Q, hl6Q, hc6C, hf6C, hl6C, hc6D, hf6D, hl6D] at hc7C); have hl7C : w3.heap.size < w7.heap.size := (by omega); have hf7C : ∀ o, w7.frozen? ⟨w3.heap.size, o, none⟩ = _ := fun o => hb7.frozen (p := ⟨w3.heap.size, o, none⟩) (by first | exact Nat.le_refl _ | omega | (simp; done) | (simp; omega)); (try simp [World.cell?_alloc_past, World.frozen?_alloc_past, hc6A, hf6A, hl6A, hc6B, hf6B, hl6B, hc6P, hf6P, hl6P, hc6Q, hf6Q, hl6Q, hc6C, hf6C, hl6C, hc6D, hf6D, hl6D] at hf7C); have hc7D : ∀ o, w7.cell? ⟨w4.heap.size, o, none⟩ = _ := fun o => hb7.cell (p := ⟨w4.heap.size, o, none⟩) (by first | exact Nat.le_refl _ | omega | (simp; done) | (simp; omega)); (try simp [World.cell?_alloc_past, World.frozen?_alloc_past, hc6A, hf6A, hl6A, hc6B, hf6B, hl6B, hc6P, hf6P, hl6P, hc6Q, hf6Q, hl6Q, hc6C, hf6C, hl6C, hc6D, hf6D, hl6D] at hc7D); have hl7D : w4.heap.size < w7.heap.size := (by omega); have hf7D : ∀ o, w7.frozen? ⟨w4.heap.size, o, none⟩ = _ := fun o => hb7.frozen (p := ⟨w4.heap.size, o, none⟩) (by first | exact Nat.le_refl _ | omega | (simp; done) | (simp; omega)); (try simp [World.cell?_alloc_past, World.frozen?_alloc_past, hc6A, hf6A, hl6A, hc6B, hf6B, hl6B, hc6P, hf6P, hl6P, hc6Q, hf6Q, hl6Q, hc6C, hf6C, hl6C, hc6D, hf6D, hl6D] at hf7D))
  clear hc6A hf6A hl6A hc6B hf6B hl6B hc6P hf6P hl6P hc6Q hf6Q hl6Q hc6C hf6C hl6C hc6D hf6D hl6D
  go_wp2_with fail
  refine (rwide_any a _).mono ?_
  rintro en w8 ⟨rfl, hb8⟩
  have hz8 := hb8.size
  (try simp at hz8)
  (have hc8A : ∀ o, w8.cell? ⟨w.heap.size, o, none⟩ = _ := fun o => hb8.cell (p := ⟨w.heap.size, o, none⟩) (by first | exact Nat.le_refl _ | omega | (simp; done) | (simp; omega)); (try simp [World.cell?_alloc_past, World.frozen?_alloc_past, hc7A, hf7A, hl7A, hc7B, hf7B, hl7B, hc7P, hf7P, hl7P, hc7Q, hf7Q, hl7Q, hc7C, hf7C, hl7C, hc7D, hf7D, hl7D] at hc8A); have hl8A : w.heap.size < w8.heap.size := (by omega); have hf8A : ∀ o, w8.frozen? ⟨w.heap.size, o, none⟩ = _ := fun o => hb8.frozen (p := ⟨w.heap.size, o, none⟩) (by first | exact Nat.le_refl _ | omega | (simp; done) | (simp; omega)); (try simp [World.cell?_alloc_past, World.frozen?_alloc_past, hc7A, hf7A, hl7A, hc7B, hf7B, hl7B, hc7P, hf7P, hl7P, hc7Q, hf7Q, hl7Q, hc7C, hf7C, hl7C, hc7D, hf7D, hl7D] at hf8A); have hc8B : ∀ o, w8.cell? ⟨w.heap.size + 1, o, none⟩ = _ := fun o => hb8.cell (p := ⟨w.heap.size + 1, o, none⟩) (by first | exact Nat.le_refl _ | omega | (simp; done) | (simp; omega)); (try simp [World.cell?_alloc_past, World.frozen?_alloc_past, hc7A, hf7A, hl7A, hc7B, hf7B, hl7B, hc7P, hf7P, hl7P, hc7Q, hf7Q, hl7Q, hc7C, hf7C, hl7C, hc7D, hf7D, hl7D] at hc8B); have hl8B : w.heap.size + 1 < w8.heap.size := (by omega); have hf8B : ∀ o, w8.frozen? ⟨w.heap.size + 1, o, none⟩ = _ := fun o => hb8.frozen (p := ⟨w.heap.size + 1, o, none⟩) (by first | exact Nat.le_refl _ | omega | (simp; done) | (simp; omega)); (try simp [World.cell?_alloc_past, World.frozen?_alloc_past, hc7A, hf7A, hl7A, hc7B, hf7B, hl7B, hc7P, hf7P, hl7P, hc7Q, hf7Q, hl7Q, hc7C, hf7C, hl7C, hc7D, hf7D, hl7D] at hf8B); have hc8P : ∀ o, w8.cell? ⟨w1.heap.size, o, none⟩ = _ := fun o => hb8.cell (p := ⟨w1.heap.size, o, none⟩) (by first | exact Nat.le_refl _ | omega | (simp; done) | (simp; omega)); (try simp [World.cell?_alloc_past, World.frozen?_alloc_past, hc7A, hf7A, hl7A, hc7B, hf7B, hl7B, hc7P, hf7P, hl7P, hc7Q, hf7Q, hl7Q, hc7C, hf7C, hl7C, hc7D, hf7D, hl7D] at hc8P); have hl8P : w1.heap.size < w8.heap.size := (by omega); have hf8P : ∀ o, w8.frozen? ⟨w1.heap.size, o, none⟩ = _ := fun o => hb8.frozen (p := ⟨w1.heap.size, o, none⟩) (by first | exact Nat.le_refl _ | omega | (simp; done) | (simp; omega)); (try simp [World.cell?_alloc_past, World.frozen?_alloc_past, hc7A, hf7A, hl7A, hc7B, hf7B, hl7B, hc7P, hf7P, hl7P, hc7Q, hf7Q, hl7Q, hc7C, hf7C, hl7C, hc7D, hf7D, hl7D] at hf8P); have hc8Q : ∀ o, w8.cell? ⟨w2.heap.size, o, none⟩ = _ := fun o => hb8.cell (p := ⟨w2.heap.size, o, none⟩) (by first | exact Nat.le_refl _ | omega | (simp; done) | (simp; omega)); (try simp [World.cell?_alloc_past, World.frozen?_alloc_past, hc7A, hf7A, hl7A, hc7B, hf7B, hl7B, hc7P, hf7P, hl7P, hc7Q, hf7Q, hl7Q, hc7C, hf7C, hl7C, hc7D, hf7D, hl7D] at hc8Q); have hl8Q : w2.heap.size < w8.heap.size := (by omega); have hf8Q : ∀ o, w8.frozen? ⟨w2.heap.size, o, none⟩ = _ := fun o => hb8.frozen (p := ⟨w2.heap.size, o, none⟩) (by first | exact Nat.le_refl _ | omega | (simp; done) | (simp; omega)); (try simp [World.cell?_alloc_past, World.frozen?_alloc_past, hc7A, hf7A, hl7A, hc7B, hf7B, hl7B, hc7P, hf7P, hl7P, hc7Q, hf7Q, hl7Q, hc7C, hf7C, hl7C, hc7D, hf7D, hl7D] at hf8Q); have hc8C : ∀ o, w8.cell? ⟨w3.heap.size, o, none⟩ = _ := fun o => hb8.cell (p := ⟨w3.heap.size, o, none⟩) (by first | exact Nat.le_refl _ | omega | (simp; done) | (simp; omega)); (try simp [World.cell?_alloc_past, World.frozen?_alloc_past, hc7A, hf7A, hl7A, hc7B, hf7B, hl7B, hc7P, hf7P, hl7P, hc7Q, hf7Q, hl7Q, hc7C, hf7C, hl7C, hc7D, hf7D, hl7D] at hc8C); have hl8C : w3.heap.size < w8.heap.size := (by omega); have hf8C : ∀ o, w8.frozen? ⟨w3.heap.size, o, none⟩ = _ := fun o => hb8.frozen (p := ⟨w3.heap.size, o, none⟩) (by first | exact Nat.le_refl _ | omega | (simp; done) | (simp; omega)); (try simp [World.cell?_alloc_past, World.frozen?_alloc_past, hc7A, hf7A, hl7A, hc7B, hf7B, hl7B, hc7P, hf7P, hl7P, hc7Q, hf7Q, hl7Q, hc7C, hf7C, hl7C, hc7D, hf7D, hl7D] at hf8C); have hc8D : ∀ o, w8.cell? ⟨w4.heap.size, o, none⟩ = _ := fun o => hb8.cell (p := ⟨w4.heap.size, o, none⟩) (by first | exact Nat.le_refl _ | omega | (simp; done) | (simp; omega)); (try simp [World.cell?_alloc_past, World.frozen?_alloc_past, hc7A, hf7A, hl7A, hc7B, hf7B, hl7B, hc7P, hf7P, hl7P, hc7Q, hf7Q, hl7Q, hc7C, hf7C, hl7C, hc7D, hf7D, hl7D] at hc8D); have hl8D : w4.heap.size < w8.heap.size := (by omega); have hf8D : ∀ o, w8.frozen? ⟨w4.heap.size, o, none⟩ = _ := fun o => hb8.frozen (p := ⟨w4.heap.size, o, none⟩) (by first | exact Nat.le_refl _ | omega | (simp; done) | (simp; omega)); (try simp [World.cell?_alloc_past, World.frozen?_alloc_past, hc7A, hf7A, hl7A, hc7B, hf7B, hl7B, hc7P, hf7P, hl7P, hc7Q, hf7Q, hl7Q, hc7C, hf7C, hl7C, hc7D, hf7D, hl7D] at hf8D))
  clear hc7A hf7A hl7A hc7B hf7B hl7B hc7P hf7P hl7P hc7Q hf7Q hl7Q hc7C hf7C hl7C hc7D hf7D hl7D
  clear hp he1 hc he2
  go_wp2_with fail
  go_region_held3 (fun w' => w'.cell? ⟨w.heap.size, 0, none⟩ = some (.bool a.1) ∧ w'.cell? ⟨w.heap.size, 1, none⟩ = some (.int .i64 a.2.1) ∧ w'.cell? ⟨w.heap.size, 2, none⟩ = some (.int .i64 a.2.2) ∧ w'.cell? ⟨w1.heap.size, 0, none⟩ = some (.bool p.1) ∧ w'.cell? ⟨w1.heap.size, 1, none⟩ = some (.int .i64 p.2.1) ∧ w'.cell? ⟨w1.heap.size, 2, none⟩ = some (.int .i64 p.2.2) ∧ w'.cell? ⟨w2.heap.size, 0, none⟩ = some (.bool p.1) ∧ w'.cell? ⟨w2.heap.size, 1, none⟩ = some (.int .i64 p.2.1) ∧ w'.cell? ⟨w2.heap.size, 2, none⟩ = some (.int .i64 p.2.2) ∧ w'.cell? ⟨w3.heap.size, 0, none⟩ = some (.bool c.1) ∧ w'.cell? ⟨w3.heap.size, 1, none⟩ = some (.int .i64 c.2.1) ∧ w'.cell? ⟨w3.heap.size, 2, none⟩ = some (.int .i64 c.2.2) ∧ w'.cell? ⟨w4.heap.size, 0, none⟩ = some (.bool c.1) ∧ w'.cell? ⟨w4.heap.size, 1, none⟩ = some (.int .i64 c.2.1) ∧ w'.cell? ⟨w4.heap.size, 2, none⟩ = some (.int .i64 c.2.2)) ((simp only [World.cell?_drew, al1 hl8A, al2 hl8A, al3 hl8A, al1 hl8P, al2 hl8P, al3 hl8P, al1 hl8Q, al2 hl8Q, al3 hl8Q, al1 hl8C, al2 hl8C, al3 hl8C, al1 hl8D, al2 hl8D, al3 hl8D, hc8A, hc8P, hc8Q, hc8C, hc8D]; simp)) (first | (go_at_call 13; refine (check_ex a _).mono ?_; rintro en w9 ⟨rfl, rfl⟩) | (go_at_call 20; refine (rcheck_ex a _).mono ?_; rintro en w10 ⟨rfl, rfl⟩))
  go_wp2
  go_ret
  refine ⟨by simp, ?_⟩
  repeat (first | (with_reducible exact Below.refl _ _) | (with_reducible refine Below.drew ?_) | (with_reducible refine below_drewN ?_ _) | ((with_reducible refine Below.setCell ?_ ?_ _); rotate_left; focus (first | exact Nat.le_refl _ | omega | (simp; done) | (simp; omega))) | ((with_reducible refine Below.alloc ?_ ?_ _); rotate_left; focus (first | exact Nat.le_refl _ | omega | (simp; done) | (simp; omega))) | ((with_reducible refine Below.trans ?_ (Below.mono hb1 ?_)); rotate_left; focus (first | exact Nat.le_refl _ | omega | (simp; done) | (simp; omega))) | ((with_reducible refine Below.trans ?_ (Below.mono hb2 ?_)); rotate_left; focus (first | exact Nat.le_refl _ | omega | (simp; done) | (simp; omega))) | ((with_reducible refine Below.trans ?_ (Below.mono hb3 ?_)); rotate_left; focus (first | exact Nat.le_refl _ | omega | (simp; done) | (simp; omega))) | ((with_reducible refine Below.trans ?_ (Below.mono hb4 ?_)); rotate_left; focus (first | exact Nat.le_refl _ | omega | (simp; done) | (simp; omega))) | ((with_reducible refine Below.trans ?_ (Below.mono hb5 ?_)); rotate_left; focus (first | exact Nat.le_refl _ | omega | (simp; done) | (simp; omega))) | ((with_reducible refine Below.trans ?_ (Below.mono hb6 ?_)); rotate_left; focus (first | exact Nat.le_refl _ | omega | (simp; done) | (simp; omega))) | ((with_reducible refine Below.trans ?_ (Below.mono hb7 ?_)); rotate_left; focus (first | exact Nat.le_refl _ | omega | (simp; done) | (simp; omega))) | ((with_reducible refine Below.trans ?_ (Below.mono hb8 ?_)); rotate_left; focus (first | exact Nat.le_refl _ | omega | (simp; done) | (simp; omega))))
end Go.Proofs.Ytdibchmhigcaaaa.EdgeTells
