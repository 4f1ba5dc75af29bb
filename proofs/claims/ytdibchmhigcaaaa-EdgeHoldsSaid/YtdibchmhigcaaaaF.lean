/- Edge: the contracts of All, Of, Join, In and Wide. -/
import Derived.Test.YtdibchmhigcaaaaE
namespace Go.Proofs.Ytdibchmhigcaaaa
open Go.ChangeShapes Go.WideShapes Go.ChangeAt Go.RowKit Go.Shelf
set_option linter.unusedSimpArgs false
set_option linter.unusedVariables false
def AllOK (l : List Int) : Prop := ∀ x ∈ l, ValOK x
set_option maxHeartbeats 1000000 in
theorem not_yes {x : Int} (h : ValOK x) (w : World) : Calls Try.prog 22 #[.int .i64 x] w fun en w' => en = .returned (.bool false) ∧ w = w' := by
  go_enter Try.func22, Try.ntmps22
  go_wp2_with (go_at_call 23; refine (value_yes h _).mono ?_; rintro en w1 ⟨rfl, rfl⟩)
  go_ret
  exact ⟨rfl, rfl⟩
set_option maxHeartbeats 1000000 in
theorem not_no {x : Int} (h : ¬ ValOK x) (w : World) : Calls Try.prog 22 #[.int .i64 x] w fun en w' => en = .returned (.bool true) ∧ w = w' := by
  go_enter Try.func22, Try.ntmps22
  go_wp2_with (go_at_call 23; refine (value_no h _).mono ?_; rintro en w1 ⟨rfl, rfl⟩)
  go_ret
  exact ⟨rfl, rfl⟩
set_option maxHeartbeats 1000000 in
theorem index_any (A : Option Addr) (n c B : Nat) (zs : List Int) (hn : zs.length = n) (hm : n ≤ 1000000) (w : World) (hR : Reads w B 1 A n (ints zs)) :
    Calls Try.prog 30 #[.slice A n c, .func (.func 22) #[] #[]] w fun en w' => ((AllOK zs ∧ en = .returned (.int .i64 (-1))) ∨ (¬ AllOK zs ∧ ∃ k : Nat, en = .returned (.int .i64 k))) ∧ w = w' := by
  go_enter Try.func30, Try.ntmps30
  go_wp2
  go_loop [8] (fun i => ∃ k : Nat, k ≤ n ∧ i = .int .i64 k ∧ ∀ x ∈ zs.take k, ValOK x) (fun i => n - (intOf i).toNat)
  case atStart => exact ⟨0, by omega, rfl, by simp⟩
  case round =>
    obtain ⟨k, hk, rfl, hv⟩ := hrel
    by_cases hlt : k < n
    · obtain ⟨ad, u, rfl, hab, hu, cA⟩ := hR.at_ hlt
      obtain ⟨x, hx⟩ : ∃ x, x = zs[k]'(by omega) := ⟨_, rfl⟩
      have hu' : u = .int .i64 x := by
        rw [List.getElem?_map, List.getElem?_eq_getElem (by omega)] at hu
        simp only [Option.map_some, Option.some.injEq] at hu
        rw [← hu, hx]
      subst hu'
      have hmem : x ∈ zs := by rw [hx]; exact List.getElem_mem _
      have htk : zs.take (k + 1) = zs.take k ++ [x] := by rw [hx]; exact List.take_succ_eq_append_getElem (by omega)
      clear hu hx
      by_cases hox : ValOK x
      · go_wp2_with (go_at_call 22; refine (not_yes hox _).mono ?_; rintro en w1 ⟨rfl, rfl⟩)
        go_round
        case rel => exact ⟨k + 1, by omega, by go_num, fun y hy => by
          rw [htk] at hy
          rcases List.mem_append.mp hy with h | h
          · exact hv y h
          · simp at h; subst h; exact hox⟩
        case measure => simp [intOf]; omega
      · go_wp2_with (go_at_call 22; refine (not_no hox _).mono ?_; rintro en w1 ⟨rfl, rfl⟩)
        go_ret
        exact ⟨Or.inr ⟨fun h => hox (h x hmem), k, rfl⟩, rfl⟩
    · have hall : AllOK zs := fun y hy => hv y (by rw [List.take_of_length_le (by omega)]; exact hy)
      clear hv
      go_wp2
      go_ret
      first | exact ⟨Or.inl ⟨hall, rfl⟩, rfl⟩ | exact ⟨rfl, rfl⟩
set_option maxHeartbeats 1000000 in
theorem contains_yes (A : Option Addr) (n c B : Nat) (zs : List Int) (hn : zs.length = n) (hm : n ≤ 1000000) (h : AllOK zs) (w : World) (hR : Reads w B 1 A n (ints zs)) :
    Calls Try.prog 21 #[.slice A n c, .func (.func 22) #[] #[]] w fun en w' => en = .returned (.bool false) ∧ w = w' := by
  go_enter Try.func21, Try.ntmps21
  go_wp2_with fail
  refine (index_any A n c B zs hn hm _ hR).mono ?_
  rintro en w1 ⟨⟨_, rfl⟩ | ⟨hno, _⟩, rfl⟩
  · go_wp2
    go_ret
    exact ⟨rfl, rfl⟩
  · exact absurd h hno
set_option maxHeartbeats 1000000 in
theorem contains_no (A : Option Addr) (n c B : Nat) (zs : List Int) (hn : zs.length = n) (hm : n ≤ 1000000) (h : ¬ AllOK zs) (w : World) (hR : Reads w B 1 A n (ints zs)) :
    Calls Try.prog 21 #[.slice A n c, .func (.func 22) #[] #[]] w fun en w' => en = .returned (.bool true) ∧ w = w' := by
  go_enter Try.func21, Try.ntmps21
  go_wp2_with fail
  refine (index_any A n c B zs hn hm _ hR).mono ?_
  rintro en w1 ⟨⟨hy, _⟩ | ⟨hno, k, rfl⟩, rfl⟩
  · exact absurd hy h
  · go_wp2
    go_ret
    exact ⟨rfl, rfl⟩
set_option maxHeartbeats 1000000 in
theorem values_any (A : Option Addr) (n c : Nat) (w : World) :
    Calls Try.prog 25 #[.slice A n c] w fun e w' => e = .returned (.func (.func 33) #[] #[.pointer (some ⟨w.heap.size, 0, none⟩)]) ∧ w' = w.alloc (.cells #[.slice A n c] 22) :=
  (callsIn_wide (n := 6)).1 (values_in Fence.wide 6 trivial rfl A n c w)
set_option maxHeartbeats 1000000 in
theorem ends_any (A : Option Addr) (n c : Nat) (w : World) :
    Calls Try.prog 28 #[.slice A n c] w fun e w' => e = .returned (.func (.func 34) #[] #[.pointer (some ⟨w.heap.size, 0, none⟩)]) ∧ w' = w.alloc (.cells #[.slice A n c] 66) := by
  go_enter Try.func28, Try.ntmps28
  go_wp2
  go_ret
  exact ⟨rfl, rfl⟩
theorem of_values (A : Option Addr) (n c Bs : Nat) (zs : List Int) (hn : zs.length = n) (hm : n ≤ 1000000) (w : World) (hBs : Bs < w.heap.size) (hc : w.cell? ⟨Bs, 0, none⟩ = some (.slice A n c)) (hR : Reads w w.heap.size 1 A n (ints zs)) :
    Calls Try.prog 24 #[.func (.func 33) #[] #[.pointer (some ⟨Bs, 0, none⟩)]] w fun en w' => en = .returned (edg (fld zs).1 (fld zs).2.1 (fld zs).2.2) ∧ Below w.heap.size w w' := by
  refine of_any 33 _ zs w (enters_of Try.func33 (by kernel_rfl) rfl) (fun K w0 hK hK2 hB => ?_)
  intro l J Jx W hW hJ hJx hY h0
  exact values_stops Fence.wide 5 trivial rfl (by omega) Bs w.heap.size A n c zs hn (by omega) w0 (Nat.lt_of_lt_of_le hBs hB.size) hB.size ((hB.cell (p := ⟨Bs, 0, none⟩) hBs).trans hc) (hR.below hB) l J Jx W hW hJ hJx
    (fun pre x W1 hj hl => (hY pre x W1 hj hl).mono (by
      rintro e W' (⟨he, hj', hk⟩ | h)
      · exact Or.inl ⟨he, hj', hk.1⟩
      · exact Or.inr h)) h0
theorem of_ends (Bs b : Nat) (h1 h2 : Bool) (a1 b1 a2 b2 : Int) (w : World) (hBs : Bs < w.heap.size) (hb : b < w.heap.size) (hc : w.cell? ⟨Bs, 0, none⟩ = some (.slice (some ⟨b, 0, none⟩) 2 2))
    (hB : Blk w b 24 #[.bool h1, .int .i64 a1, .int .i64 b1, .bool h2, .int .i64 a2, .int .i64 b2]) :
    Calls Try.prog 24 #[.func (.func 34) #[] #[.pointer (some ⟨Bs, 0, none⟩)]] w fun en w' => en = .returned (edg (fld (vals h1 a1 b1 ++ vals h2 a2 b2)).1 (fld (vals h1 a1 b1 ++ vals h2 a2 b2)).2.1 (fld (vals h1 a1 b1 ++ vals h2 a2 b2)).2.2) ∧ Below w.heap.size w w' := by
  refine of_any 34 _ _ w (enters_of Try.func34 (by kernel_rfl) rfl) (fun K w0 hK hK2 hBe => ?_)
  intro l J Jx W hW hJ hJx hY h0
  have hBW := hBe.trans (hW.mono hBe.size)
  exact ends1_in 5 (by omega) l Bs w.heap.size b K h1 h2 a1 b1 a2 b2 hb J Jx W (Nat.le_trans hBe.size hW.size) (Nat.lt_of_lt_of_le hK2 hW.size) (fun s A o hs => hJ s A _ none hs (World.grownBy_alloc A o none) (fun r e => by cases e)) hY
    ((hBW.cell (p := ⟨Bs, 0, none⟩) hBs).trans hc) (hB.below hBW hb) h0
theorem add_mk (g i : Nat) : (⟨g, 0, none⟩ : Addr).add i = ⟨g, i, none⟩ := by unfold Addr.add; split <;> simp_all
theorem reads_new (w : World) (cs : List Value) (t : TypeId) (n : Nat) (hn : cs.length = n) : Reads (w.alloc (.cells cs.toArray t)) (w.heap.size + 1) 1 (some ⟨w.heap.size, 0, none⟩) n cs := by
  refine ⟨by simp [hn], fun _ => ⟨_, rfl, by simp, fun j u hu => ?_⟩⟩
  rw [add_mk]
  have := (Blk.new w t cs.toArray).cell j
  rw [this]
  simpa using hu
set_option maxHeartbeats 2000000 in
theorem all_yes (A : Option Addr) (n c : Nat) (zs : List Int) (hn : zs.length = n) (hm : n ≤ 1000000) (h : AllOK zs) (w : World) (hR : Reads w w.heap.size 1 A n (ints zs)) :
    Calls Try.prog 8 #[.slice A n c] w fun en w' => en = .returned (.tuple #[edg (fld zs).1 (fld zs).2.1 (fld zs).2.2, .int .i64 0]) ∧ Below w.heap.size w w' := by
  have B0 := Blk.new w 24 #[.bool false, .int .i64 0, .int .i64 0]
  have hB0 : Below w.heap.size w (w.alloc (.cells #[.bool false, .int .i64 0, .int .i64 0] 24)) := (Below.refl _ w).alloc (Nat.le_refl _) _
  go_enter Try.func8, Try.ntmps8
  go_wp2_with fail
  refine (contains_yes A n c w.heap.size zs hn hm h _ (hR.below hB0)).mono ?_
  rintro en w1 ⟨rfl, rfl⟩
  go_wp2_with fail
  refine (values_any A n c _).mono ?_
  rintro en w1 ⟨rfl, rfl⟩
  have hB1 := hB0.alloc (by simp) (.cells #[.slice A n c] 22)
  have b1 := Blk.new (w.alloc (.cells #[.bool false, .int .i64 0, .int .i64 0] 24)) 22 #[.slice A n c]
  rw [World.size_alloc] at b1
  have c1 : World.cell? _ ⟨w.heap.size + 1, 0, none⟩ = some (.slice A n c) := b1.cell 0
  go_wp2_with fail
  refine (of_values A n c (w.heap.size + 1) zs hn hm _ (by simp) c1 ((hR.below hB1).more (by simp; omega))).mono ?_
  rintro en w2 ⟨rfl, hb2⟩
  have B2 := (B0.alloc (.cells #[.slice A n c] 22)).below hb2 (by simp; omega)
  have d0 := B2.cell 0
  have d1 := B2.cell 1
  have d2 := B2.cell 2
  have e0 := B2.frozen 0
  have e1 := B2.frozen 1
  have e2 := B2.frozen 2
  simp at d0 d1 d2
  have hB2 := hB1.trans (hb2.mono (by simp; omega))
  have B5 := ((B2.set_ 0 (.bool (fld zs).1)).set_ 1 (.int .i64 (fld zs).2.1)).set_ 2 (.int .i64 (fld zs).2.2)
  have q0 := B5.cell 0
  have q1 := B5.cell 1
  have q2 := B5.cell 2
  simp at q0 q1 q2
  clear hR c1 b1 B0 B2 B5
  go_wp2
  refine bodyPost_ret (v := .tuple #[edg (fld zs).1 (fld zs).2.1 (fld zs).2.2, .int .i64 0]) (by simp [results, Try.results8, go_sem, q0, q1, q2]) rfl ⟨rfl, ?_⟩
  exact ((hB2.setCell (p := ⟨w.heap.size, 0, none⟩) (Nat.le_refl _) _).setCell (p := ⟨w.heap.size, 1, none⟩) (Nat.le_refl _) _).setCell (p := ⟨w.heap.size, 2, none⟩) (Nat.le_refl _) _
set_option maxHeartbeats 2000000 in
theorem all_no (A : Option Addr) (n c : Nat) (zs : List Int) (hn : zs.length = n) (hm : n ≤ 1000000) (h : ¬ AllOK zs) (w : World) (hR : Reads w w.heap.size 1 A n (ints zs)) :
    Calls Try.prog 8 #[.slice A n c] w fun en w' => en = .returned (.tuple #[edg false 0 0, .int .i64 2]) ∧ Below w.heap.size w w' := by
  have hB0 : Below w.heap.size w (w.alloc (.cells #[.bool false, .int .i64 0, .int .i64 0] 24)) := (Below.refl _ w).alloc (Nat.le_refl _) _
  go_enter Try.func8, Try.ntmps8
  go_wp2_with fail
  refine (contains_no A n c w.heap.size zs hn hm h _ (hR.below hB0)).mono ?_
  rintro en w1 ⟨rfl, rfl⟩
  clear hR
  go_wp2
  refine bodyPost_ret (v := .tuple #[edg false 0 0, .int .i64 2]) (by simp [results, Try.results8, go_sem, World.cell?_alloc_past]) rfl ⟨rfl, ?_⟩
  repeat (first | exact hB0 | (refine Below.setCell ?_ ?_ _; rotate_left; focus (simp)))
set_option maxHeartbeats 2000000 in
theorem of_yes {x : Int} (h : ValOK x) (w : World) :
    Calls Try.prog 10 #[.int .i64 x] w fun en w' => en = .returned (.tuple #[edg true x x, .int .i64 0]) ∧ Below w.heap.size w w' := by
  have B0 := Blk.new w 24 #[.bool false, .int .i64 0, .int .i64 0]
  have hR1 : Reads ((w.alloc (.cells #[.bool false, .int .i64 0, .int .i64 0] 24)).alloc (.cells #[.int .i64 x] 3)) (w.heap.size + 2) 1 (some ⟨w.heap.size + 1, 0, none⟩) 1 (ints [x]) := by
    have := reads_new (w.alloc (.cells #[.bool false, .int .i64 0, .int .i64 0] 24)) (ints [x]) 3 1 rfl
    rw [World.size_alloc] at this
    exact this
  have hB1 : Below w.heap.size w ((w.alloc (.cells #[.bool false, .int .i64 0, .int .i64 0] 24)).alloc (.cells #[.int .i64 x] 3)) := ((Below.refl _ w).alloc (Nat.le_refl _) _).alloc (by simp) _
  go_enter Try.func10, Try.ntmps10
  go_wp2_with fail
  refine (all_yes (some ⟨w.heap.size + 1, 0, none⟩) 1 1 [x] rfl (by omega) (by intro y hy; simp at hy; subst hy; exact h) _ (hR1.more (by simp))).mono ?_
  rintro en w2 ⟨rfl, hb2⟩
  have B2 := (B0.alloc (.cells #[.int .i64 x] 3)).below hb2 (by simp; omega)
  have d0 := B2.cell 0
  have d1 := B2.cell 1
  have d2 := B2.cell 2
  have e0 := B2.frozen 0
  have e1 := B2.frozen 1
  have e2 := B2.frozen 2
  simp at d0 d1 d2
  have hB2 := hB1.trans (hb2.mono (by simp; omega))
  have B5 := ((B2.set_ 0 (.bool true)).set_ 1 (.int .i64 x)).set_ 2 (.int .i64 x)
  have q0 := B5.cell 0
  have q1 := B5.cell 1
  have q2 := B5.cell 2
  simp at q0 q1 q2
  rw [show fld [x] = (true, x, x) by simp [fld, stp, putLo, putHi]]
  clear hR1 B0 B2 B5
  go_wp2
  refine bodyPost_ret (v := .tuple #[edg true x x, .int .i64 0]) (by simp [results, Try.results10, go_sem, q0, q1, q2]) rfl ⟨rfl, ?_⟩
  exact ((hB2.setCell (p := ⟨w.heap.size, 0, none⟩) (Nat.le_refl _) _).setCell (p := ⟨w.heap.size, 1, none⟩) (Nat.le_refl _) _).setCell (p := ⟨w.heap.size, 2, none⟩) (Nat.le_refl _) _
set_option maxHeartbeats 2000000 in
theorem of_no {x : Int} (h : ¬ ValOK x) (w : World) :
    Calls Try.prog 10 #[.int .i64 x] w fun en w' => en = .returned (.tuple #[edg false 0 0, .int .i64 2]) ∧ Below w.heap.size w w' := by
  have B0 := Blk.new w 24 #[.bool false, .int .i64 0, .int .i64 0]
  have hR1 : Reads ((w.alloc (.cells #[.bool false, .int .i64 0, .int .i64 0] 24)).alloc (.cells #[.int .i64 x] 3)) (w.heap.size + 2) 1 (some ⟨w.heap.size + 1, 0, none⟩) 1 (ints [x]) := by
    have := reads_new (w.alloc (.cells #[.bool false, .int .i64 0, .int .i64 0] 24)) (ints [x]) 3 1 rfl
    rw [World.size_alloc] at this
    exact this
  have hB1 : Below w.heap.size w ((w.alloc (.cells #[.bool false, .int .i64 0, .int .i64 0] 24)).alloc (.cells #[.int .i64 x] 3)) := ((Below.refl _ w).alloc (Nat.le_refl _) _).alloc (by simp) _
  go_enter Try.func10, Try.ntmps10
  go_wp2_with fail
  refine (all_no (some ⟨w.heap.size + 1, 0, none⟩) 1 1 [x] rfl (by omega) (fun hh => h (hh x (by simp))) _ (hR1.more (by simp))).mono ?_
  rintro en w2 ⟨rfl, hb2⟩
  have B2 := (B0.alloc (.cells #[.int .i64 x] 3)).below hb2 (by simp; omega)
  have d0 := B2.cell 0
  have d1 := B2.cell 1
  have d2 := B2.cell 2
  have e0 := B2.frozen 0
  have e1 := B2.frozen 1
  have e2 := B2.frozen 2
  simp at d0 d1 d2
  have hB2 := hB1.trans (hb2.mono (by simp; omega))
  have B5 := ((B2.set_ 0 (.bool false)).set_ 1 (.int .i64 0)).set_ 2 (.int .i64 0)
  have q0 := B5.cell 0
  have q1 := B5.cell 1
  have q2 := B5.cell 2
  simp at q0 q1 q2
  clear hR1 B0 B2 B5
  go_wp2
  refine bodyPost_ret (v := .tuple #[edg false 0 0, .int .i64 2]) (by simp [results, Try.results10, go_sem, q0, q1, q2]) rfl ⟨rfl, ?_⟩
  exact ((hB2.setCell (p := ⟨w.heap.size, 0, none⟩) (Nat.le_refl _) _).setCell (p := ⟨w.heap.size, 1, none⟩) (Nat.le_refl _) _).setCell (p := ⟨w.heap.size, 2, none⟩) (Nat.le_refl _) _
end Go.Proofs.Ytdibchmhigcaaaa
