/- Edge: the iterator over the ends of two edges. -/
import Derived.Test.YtdibchmhigcaaaaD
namespace Go.Proofs.Ytdibchmhigcaaaa
open Go.RowKit Go.Shelf Go.ChangeShapes Go.WideShapes Go.ChangeAt
set_option linter.unusedSimpArgs false
set_option linter.unusedVariables false
attribute [local go_sem] Oper.semAt_some
def vals (h : Bool) (a b : Int) : List Int := if h = true then [a, b] else []
set_option maxRecDepth 100000 in
set_option maxHeartbeats 4000000 in
theorem ends1_in (n : Nat) (hn : 1 ≤ n) (l Bs n₀ b K : Nat) (h1 h2 : Bool) (a1 b1 a2 b2 : Int) (hbn : b < n₀) (J Jx : List Int → World → Prop) (W : World) (hn₀ : n₀ ≤ W.heap.size) (hK : K < W.heap.size) (hJa : ∀ s A o, J s A → J s (A.alloc o))
    (hY : ∀ pre x W1, J pre W1 → pre.length < (vals h1 a1 b1 ++ vals h2 a2 b2).length → YieldAt Fence.wide (n - 1) Try.prog l #[.int .i64 x] W1 fun e W' =>
      (e = .returned (.bool true) ∧ J (pre ++ [x]) W' ∧ Kp n₀ K W1 W') ∨ (e = .returned (.bool false) ∧ Jx (pre ++ [x]) W'))
    (hBs : W.cell? ⟨Bs, 0, none⟩ = some (.slice (some ⟨b, 0, none⟩) 2 2)) (hc : Blk W b 24 #[.bool h1, .int .i64 a1, .int .i64 b1, .bool h2, .int .i64 a2, .int .i64 b2]) (h0 : J [] W) :
    CallsIn Fence.wide n Try.prog 34 #[.func (.yield l) #[] #[], .pointer (some ⟨Bs, 0, none⟩)] W fun e W' => (∃ v, e = .returned v) ∧
      ((∃ ys, ys = vals h1 a1 b1 ++ vals h2 a2 b2 ∧ J ys W') ∨ (∃ pre, True ∧ Jx pre W')) := by
  refine callsIn_of_wp Try.func34 rfl trivial ?_ rfl
  simp only [Try.ntmps34, List.size_toArray, List.length_cons, List.length_nil, Nat.reduceAdd, Nat.reduceSub, Array.replicate_succ, Array.replicate_zero, List.push_toArray, List.append_toArray, List.nil_append, List.cons_append]
  gi_wp2
  gi_loopw [7] (fun i wr => ((i = .int .i64 0 ∧ J [] wr) ∨ (i = .int .i64 1 ∧ J (vals h1 a1 b1) wr) ∨ (i = .int .i64 2 ∧ J (vals h1 a1 b1 ++ vals h2 a2 b2) wr)) ∧ Below n₀ W wr ∧ W.heap.size ≤ wr.heap.size)
    (fun i _ => 2 - (intOf i).toNat)
  case atStart => exact ⟨.inl ⟨rfl, h0⟩, Below.refl _ _, Nat.le_refl _⟩
  case round =>
    obtain ⟨hcase, hnx, hsz⟩ := hrel
    have hcr := hc.below hnx hbn
    have k0 := hcr.cell 0
    have k1 := hcr.cell 1
    have k2 := hcr.cell 2
    have k3 := hcr.cell 3
    have k4 := hcr.cell 4
    have k5 := hcr.cell 5
    simp at k0 k1 k2 k3 k4 k5
    rcases hcase with ⟨rfl, hJs⟩ | ⟨rfl, hJs⟩ | ⟨rfl, hJs⟩
    · cases hh : h1
      · rw [hh] at k0
        have hJn : J (vals false a1 b1) (wr.alloc (.cells #[.bool false, .int .i64 a1, .int .i64 b1] 24)) := hJa _ _ _ (by simpa [vals] using hJs)
        gi_wp2
        repeat (refine ⟨fun _ h => (by cases h), ?_⟩; gi_wp2)
        all_goals (try (rename_i hq _; exact absurd hq (by simp [undef])))
        go_roundw
        case rel => exact ⟨(.inr (.inl ⟨by go_num, hJn⟩)), hnx.alloc (by omega) _, by simp; omega⟩
        case measure => simp [intOf]
      · rw [hh] at k0
        have hJ1 := hJa _ _ (.cells #[.bool true, .int .i64 a1, .int .i64 b1] 24) hJs
        have hlen : (vals h1 a1 b1).length ≤ 2 := by unfold vals; split <;> simp
        obtain ⟨fn, tmps, assign, body, hy, hR⟩ := hY [] a1 _ hJ1 (by simp [vals, hh])
        have N1 := Blk.new wr 24 #[.bool true, .int .i64 a1, .int .i64 b1]
        gi_wp2
        refine hR.mono ?_
        rintro e W3 (⟨rfl, hJ3, hk3⟩ | ⟨rfl, hJx3⟩)
        · have N3 := hk3.2.1 _ _ _ (by omega) N1
          have n1 := N3.cell 1
          have n2 := N3.cell 2
          simp at n1 n2
          obtain ⟨fn', tmps', assign', body', hy', hR'⟩ := hY _ b1 _ hJ3 (by simp [vals, hh]; try omega)
          gi_wp2
          refine hR'.mono ?_
          rintro e W4 (⟨rfl, hJ4, hk4⟩ | ⟨rfl, hJx4⟩)
          · have hJn : J (vals true a1 b1) W4 := by
              have := hJ4
              simpa [vals] using this
            gi_wp2
            go_roundw
            case rel => exact ⟨(.inr (.inl ⟨by go_num, hJn⟩)), ((hnx.alloc (by omega) _).trans hk3.1).trans hk4.1, by have h3 := hk3.2.2; have h4 := hk4.2.2; rw [World.size_alloc] at h3; omega⟩
            case measure => simp [intOf]
          · gi_wp2
            refine bodyPost_ret (results_none rfl _ _ _) rfl ?_
            exact ⟨⟨_, rfl⟩, .inr ⟨_, trivial, hJx4⟩⟩
        · gi_wp2
          repeat (refine ⟨fun _ h => (by cases h), ?_⟩; gi_wp2)
          refine bodyPost_ret (results_none rfl _ _ _) rfl ?_
          exact ⟨⟨_, rfl⟩, .inr ⟨_, trivial, hJx3⟩⟩
    · cases hh : h2
      · rw [hh] at k3
        have hJn : J (vals h1 a1 b1 ++ vals false a2 b2) (wr.alloc (.cells #[.bool false, .int .i64 a2, .int .i64 b2] 24)) := hJa _ _ _ (by simpa [vals] using hJs)
        gi_wp2
        repeat (refine ⟨fun _ h => (by cases h), ?_⟩; gi_wp2)
        all_goals (try (rename_i hq _; exact absurd hq (by simp [undef])))
        go_roundw
        case rel => exact ⟨(.inr (.inr ⟨by go_num, hJn⟩)), hnx.alloc (by omega) _, by simp; omega⟩
        case measure => simp [intOf]
      · rw [hh] at k3
        have hJ1 := hJa _ _ (.cells #[.bool true, .int .i64 a2, .int .i64 b2] 24) hJs
        have hlen : (vals h1 a1 b1).length ≤ 2 := by unfold vals; split <;> simp
        obtain ⟨fn, tmps, assign, body, hy, hR⟩ := hY (vals h1 a1 b1) a2 _ hJ1 (by simp [vals, hh])
        have N1 := Blk.new wr 24 #[.bool true, .int .i64 a2, .int .i64 b2]
        gi_wp2
        refine hR.mono ?_
        rintro e W3 (⟨rfl, hJ3, hk3⟩ | ⟨rfl, hJx3⟩)
        · have N3 := hk3.2.1 _ _ _ (by omega) N1
          have n1 := N3.cell 1
          have n2 := N3.cell 2
          simp at n1 n2
          obtain ⟨fn', tmps', assign', body', hy', hR'⟩ := hY _ b2 _ hJ3 (by simp [vals, hh]; try omega)
          gi_wp2
          refine hR'.mono ?_
          rintro e W4 (⟨rfl, hJ4, hk4⟩ | ⟨rfl, hJx4⟩)
          · have hJn : J (vals h1 a1 b1 ++ vals true a2 b2) W4 := by
              have := hJ4
              simpa [vals] using this
            gi_wp2
            go_roundw
            case rel => exact ⟨(.inr (.inr ⟨by go_num, hJn⟩)), ((hnx.alloc (by omega) _).trans hk3.1).trans hk4.1, by have h3 := hk3.2.2; have h4 := hk4.2.2; rw [World.size_alloc] at h3; omega⟩
            case measure => simp [intOf]
          · gi_wp2
            refine bodyPost_ret (results_none rfl _ _ _) rfl ?_
            exact ⟨⟨_, rfl⟩, .inr ⟨_, trivial, hJx4⟩⟩
        · gi_wp2
          repeat (refine ⟨fun _ h => (by cases h), ?_⟩; gi_wp2)
          refine bodyPost_ret (results_none rfl _ _ _) rfl ?_
          exact ⟨⟨_, rfl⟩, .inr ⟨_, trivial, hJx3⟩⟩
    · gi_wp2
      go_end0
      exact ⟨⟨_, rfl⟩, .inl ⟨_, rfl, hJs⟩⟩
end Go.Proofs.Ytdibchmhigcaaaa
