/- Flight: the reference's without -/
import Derived.Test.YtdmjdpaehnhdoaaLQ
import Derived.IntWalk
namespace Go.Proofs.Ytdmjdpaehnhdoaa
open Go.ChangeShapes Go.WideShapes Go.ChangeAt Go.RowKit
set_option linter.unusedSimpArgs false
set_option linter.unusedVariables false
theorem tk_sm {l : List En} {k : Nat} (h : ∀ x ∈ l, smM x.give) : ∀ x ∈ l.take k ++ l.drop (k + 1), smM x.give := by
  intro x hx
  rcases List.mem_append.1 hx with h1 | h1
  · exact h x (List.mem_of_mem_take h1)
  · exact h x (List.mem_of_mem_drop h1)
theorem rds_below {w w' : World} {B B' : Nat} {os : List EO} (ht : ∀ o ∈ os, rdE w B o) (hb : Below B w w') (hB : B ≤ B') : ∀ o ∈ os, rdE w' B' o := fun o ho => (ht o ho).below hb hB
theorem rds_append {w : World} {B : Nat} {os os2 : List EO} (ht : ∀ o ∈ os, rdE w B o) (ht2 : ∀ o ∈ os2, rdE w B o) : ∀ o ∈ os ++ os2, rdE w B o := fun o ho => by exact (List.mem_append.1 ho).elim (ht o) (ht2 o)
set_option maxRecDepth 100000 in
set_option maxHeartbeats 8000000 in
theorem rwithout_any (A : Option Addr) (n c : Nat) (l : List En) (k : Nat) (hk : k < n) (hn : n ≤ 1000) (hnc : n ≤ c) (hs : ∀ x ∈ l, smM x.give) (w : World) (h1 : Ens w w.heap.size A n l) :
    Calls Try.prog 42 #[.slice A n c, .int .i64 (k : Int)] w fun en w' => ∃ Ao co, en = .returned (.slice Ao (n - 1) co) ∧ TwE w (n - 1) (l.take k ++ l.drop (k + 1)) Ao co w' := by
  obtain ⟨i0, hi0, hz0, hz1, hz2⟩ := info_parts infoE
  obtain ⟨ad, e, _⟩ := h1.2 (by omega)
  subst e
  have t1 := Recs.take h1 (show k ≤ n by omega)
  have t2 := Recs.cut h1 (show k + 1 ≤ n by omega) hnc
  rw [Option.map_some] at t2
  obtain ⟨A4, hA4⟩ : ∃ x, (if c = k + 1 then some ad else some (ad.add ((k + 1) * 15))) = x := ⟨_, rfl⟩
  rw [hA4] at t2
  rw [← List.map_take] at t1
  rw [← List.map_drop] at t2
  obtain ⟨os1, e1, r1, x1⟩ := ens_rows t1
  obtain ⟨os2, e2, r2, x2⟩ := ens_rows t2
  have i1 : (0 : Int) ≤ k := by omega
  have i2 : (k : Int) < n := by omega
  have i3 : (k : Int) ≤ n := by omega
  have i5 : (k : Int) + 1 ≤ n := by omega
  have i7 : (k : Int) ≤ c := by omega
  have i8 : (0 : Int) ≤ (k : Int) + 1 := by omega
  have i9 : ((k : Int) + 1).toNat = k + 1 := by omega
  have i11 : ¬ c = 0 := by omega
  have i13 : (k : Int) + 1 ≤ c := by omega
  have w9 : IntKind.i64.wrap ((k : Int) + 1) = (k : Int) + 1 := IntWalk.i64_in _ (by omega)
  have hown0 := own_empty (size := 15) (Blk.new w 40 #[]) (Nat.le_refl _)
  have hb0 := (Below.refl w.heap.size w).alloc (Nat.le_refl _) (.cells #[] 40)
  have r1' := r1.below hb0
  have g1 := Lib.hid e1
  have g2 := Lib.hid e2
  have gt := Lib.hid (tk_sm (k := k) hs)
  have he : k + (n - (k + 1)) = n - 1 := by omega
  have gx1 := Lib.hid x1
  have gx2 := Lib.hid x2
  have ghe := Lib.hid he
  clear e1 e2 hs t1 t2 x1 x2 he h1 r1
  go_enter Try.func42, Try.ntmps42
  go_wp2_with (first | (at_builtin; refine wpList_append_any _ rfl (.tmp 6) (.tmp 9) 22 rfl w.heap.size 40 i0 _ 15 184 Try.underlying22 hi0 hz0 hz1 hz2 rfl (by omega) (.slice (some ⟨w.heap.size, 0, none⟩) 0 0) 0 [] rfl hown0 w.heap.size (some ad) k c _ rfl r1' (flat15_one _) (by unfold maxLen; omega) (by omega) (by simp) ?_; intro v3 w3 ho3 hg3 _; rw [Nat.zero_add, List.nil_append] at ho3; have hb3 := hb0.grown hg3 (by simp) (fun q hq => own_base hown0 hq); have hs3 := hb3.size; have r2' := r2.below hb3; obtain ⟨A3, c3, rfl, _, _⟩ := own_slice ho3; clear hown0 r1' hg3 r2 hb0) | (at_builtin; refine wpList_append_any _ rfl (.tmp 11) (.tmp 15) 22 rfl w.heap.size 40 i0 _ 15 184 Try.underlying22 hi0 hz0 hz1 hz2 rfl (by omega) (.slice A3 k c3) k _ rfl ho3 w.heap.size A4 (n - (k + 1)) (c - (k + 1)) _ rfl r2' (flat15_one _) (by unfold maxLen; omega) (by omega) hs3 ?_; intro v4 w4 ho4 hg4 _; rw [ghe.out, ← List.flatMap_append] at ho4; have hb4 := hb3.grown hg4 hs3 (fun q hq => own_base ho3 hq); obtain ⟨A5, c5, rfl, _, ro⟩ := own_slice ho4; clear ho3 r2' hg4 hb3 hs3 ho4))
  have hcp := rows_ens ro (rds_below (rds_append gx1.out gx2.out) hb4 hb4.size)
  rw [List.map_append, g1.out, g2.out] at hcp
  refine (retwin_any A5 (n - 1) c5 _ (by omega) gt.out w4 hcp).mono ?_
  rintro en w5 ⟨Ao, co, rfl, hT⟩
  have gT : Hid (TwE w (n - 1) (l.take k ++ l.drop (k + 1)) Ao co w5) := Lib.hid (accE_done (hT.2.2.2.2.base_le hb4.size) (hb4.trans (hT.2.2.2.1.mono hb4.size)))
  clear hcp ro hT hb4 hi0 hz0 hz1 hz2
  go_wp2
  go_ret
  exact ⟨Ao, co, rfl, gT.out⟩
end Go.Proofs.Ytdmjdpaehnhdoaa
