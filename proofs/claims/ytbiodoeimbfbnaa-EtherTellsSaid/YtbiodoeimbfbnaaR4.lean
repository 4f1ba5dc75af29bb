/- Ether: the reference's Take -/
import Derived.Test.YtbiodoeimbfbnaaR3
import Derived.Deep.QuietTactic
import Derived.BigQuiet
namespace Go.Proofs.Ytbiodoeimbfbnaa
open Go.ChangeShapes Go.WideShapes Go.ChangeAt Go.RowKit
set_option linter.unusedSimpArgs false
set_option linter.unusedVariables false
theorem take_drop_one {l : List Cp} {k : Nat} {x : Cp} (h : l[k]? = some x) : (l.drop k).take 1 = [x] := by
  rw [List.drop_eq_getElem_cons (List.getElem?_eq_some_iff.1 h).1, (List.getElem?_eq_some_iff.1 h).2]
  rfl
/-- What the reference's Take answers, read. -/
def TkRead (w : World) (R : List Cp × Cp × Int) (en : Ending) (w' : World) : Prop :=
  ∃ Ao co X m d, en = .returned (.tuple #[.slice Ao R.1.length co, .agg #[.int .i64 R.2.1.num, .int .i64 R.2.1.dn, .slice X m d, .bool R.2.1.sp], .int .i64 R.2.2]) ∧ Cps w' w'.heap.size Ao R.1.length R.1 ∧
    R.2.1.txt.length = m ∧ OwnR w' w.heap.size 5 X m (ints .u8 R.2.1.txt) ∧ Below w.heap.size w w'
theorem tkr_nil {w w' : World} (hb : Below w.heap.size w w') (E : Int) : TkRead w ([], ⟨0, 0, [], false⟩, E) (.returned (.tuple #[.slice none 0 0, .agg #[.int .i64 0, .int .i64 0, .slice none 0 0, .bool false], .int .i64 E])) w' :=
  ⟨none, 0, none, 0, 0, rfl, Recs.none_, rfl, OwnR.none_, hb⟩
set_option maxRecDepth 100000 in
set_option maxHeartbeats 8000000 in
theorem rtake_any (A : Option Addr) (n c : Nat) (l : List Cp) (hn : n ≤ 1000) (hnc : n ≤ c) (i : Int) (w : World) (h1 : Cps w w.heap.size A n l) :
    Calls Try.prog 9 #[.slice A n c, .int .i64 i] w (TkRead w (tkS l i)) := by
  have hA := (Below.refl w.heap.size w).alloc (Nat.le_refl _) (.cells #[.int .i64 0, .int .i64 0, .slice none 0 0, .bool false] 25)
  have kb := Blk.new w 25 #[.int .i64 0, .int .i64 0, .slice none 0 0, .bool false]
  have hA1 := (h1.below hA).more hA.size
  have ln := cps_len h1
  by_cases hE : chkE l = 0
  rotate_left
  · rw [tk_err rfl hE]
    obtain ⟨E, hE'⟩ : ∃ E, chkE l = E := ⟨_, rfl⟩
    rw [hE'] at hE ⊢
    have hck := rcheck_any A n c l (by omega) E hE' (w.alloc (.cells #[.int .i64 0, .int .i64 0, .slice none 0 0, .bool false] 25)) hA1
    have t1 : (E != 0) = true := bne_iff_ne.2 hE
    clear hE hE' h1 ln hA1
    go_enter Try.func9, Try.ntmps9
    go_wp2_with fail
    refine hck.mono ?_
    rintro en w1 ⟨rfl, hb1⟩
    have hb := hA.trans (hb1.mono hA.size)
    have kb1 := kb.below hb1 kb.lt
    have ce0 := kb1.cell 0
    have ce1 := kb1.cell 1
    have ce2 := kb1.cell 2
    have ce3 := kb1.cell 3
    have cf0 := kb1.frozen 0
    have cf1 := kb1.frozen 1
    have cf2 := kb1.frozen 2
    have cf3 := kb1.frozen 3
    simp at ce0 ce1 ce2 ce3
    have kl := kb1.lt
    have k2 := box4 kb1 (.int .i64 0) (.int .i64 0) (.slice none 0 0) (.bool false)
    have hb2 := box4_below hb (Nat.le_refl _) (.int .i64 0) (.int .i64 0) (.slice none 0 0) (.bool false)
    have q0 := k2.cell 0
    have q1 := k2.cell 1
    have q2 := k2.cell 2
    have q3 := k2.cell 3
    simp only [List.getElem?_toArray, List.getElem?_cons_zero, List.getElem?_cons_succ] at q0 q1 q2 q3
    clear hb1 kb kb1 k2
    go_wp2
    refine ⟨rfl, .tuple #[.slice none 0 0, .agg #[.int .i64 0, .int .i64 0, .slice none 0 0, .bool false], .int .i64 E], ?_, tkr_nil hb2 E⟩
    simp [results, Try.f9, go_sem, q0, q1, q2, q3]
  by_cases hi : i < 0 ∨ (n : Int) ≤ i
  · rw [tk_out hE (by rw [ln]; exact hi)]
    have hck := rcheck_any A n c l (by omega) 0 hE (w.alloc (.cells #[.int .i64 0, .int .i64 0, .slice none 0 0, .bool false] 25)) hA1
    clear hE h1 ln hA1
    by_cases h0 : i < 0
    · have d1 : decide (i < 0) = true := decide_eq_true h0
      clear hi h0
      go_enter Try.func9, Try.ntmps9
      go_wp2_with fail
      refine hck.mono ?_
      rintro en w1 ⟨rfl, hb1⟩
      have hb := hA.trans (hb1.mono hA.size)
      have kb1 := kb.below hb1 kb.lt
      have ce0 := kb1.cell 0
      have ce1 := kb1.cell 1
      have ce2 := kb1.cell 2
      have ce3 := kb1.cell 3
      have cf0 := kb1.frozen 0
      have cf1 := kb1.frozen 1
      have cf2 := kb1.frozen 2
      have cf3 := kb1.frozen 3
      simp at ce0 ce1 ce2 ce3
      have kl := kb1.lt
      have k2 := box4 kb1 (.int .i64 0) (.int .i64 0) (.slice none 0 0) (.bool false)
      have hb2 := box4_below hb (Nat.le_refl _) (.int .i64 0) (.int .i64 0) (.slice none 0 0) (.bool false)
      have q0 := k2.cell 0
      have q1 := k2.cell 1
      have q2 := k2.cell 2
      have q3 := k2.cell 3
      simp only [List.getElem?_toArray, List.getElem?_cons_zero, List.getElem?_cons_succ] at q0 q1 q2 q3
      clear hb1 kb kb1 k2
      go_wp2
      refine ⟨rfl, .tuple #[.slice none 0 0, .agg #[.int .i64 0, .int .i64 0, .slice none 0 0, .bool false], .int .i64 2], ?_, tkr_nil hb2 2⟩
      simp [results, Try.f9, go_sem, q0, q1, q2, q3]
    · have d1 : decide (i < 0) = false := decide_eq_false h0
      have d2 : decide ((n : Int) ≤ i) = true := decide_eq_true (by omega)
      clear hi h0
      go_enter Try.func9, Try.ntmps9
      go_wp2_with fail
      refine hck.mono ?_
      rintro en w1 ⟨rfl, hb1⟩
      have hb := hA.trans (hb1.mono hA.size)
      have kb1 := kb.below hb1 kb.lt
      have ce0 := kb1.cell 0
      have ce1 := kb1.cell 1
      have ce2 := kb1.cell 2
      have ce3 := kb1.cell 3
      have cf0 := kb1.frozen 0
      have cf1 := kb1.frozen 1
      have cf2 := kb1.frozen 2
      have cf3 := kb1.frozen 3
      simp at ce0 ce1 ce2 ce3
      have kl := kb1.lt
      have k2 := box4 kb1 (.int .i64 0) (.int .i64 0) (.slice none 0 0) (.bool false)
      have hb2 := box4_below hb (Nat.le_refl _) (.int .i64 0) (.int .i64 0) (.slice none 0 0) (.bool false)
      have q0 := k2.cell 0
      have q1 := k2.cell 1
      have q2 := k2.cell 2
      have q3 := k2.cell 3
      simp only [List.getElem?_toArray, List.getElem?_cons_zero, List.getElem?_cons_succ] at q0 q1 q2 q3
      clear hb1 kb kb1 k2
      go_wp2
      refine ⟨rfl, .tuple #[.slice none 0 0, .agg #[.int .i64 0, .int .i64 0, .slice none 0 0, .bool false], .int .i64 2], ?_, tkr_nil hb2 2⟩
      simp [results, Try.f9, go_sem, q0, q1, q2, q3]
  obtain ⟨k, rfl⟩ : ∃ k : Nat, i = k := ⟨i.toNat, by omega⟩
  have hk : k < n := by omega
  have d1 : decide ((k : Int) < 0) = false := decide_eq_false (by omega)
  have d2 : decide ((n : Int) ≤ k) = false := decide_eq_false (by omega)
  have d3 : decide (n ≤ k) = false := decide_eq_false (by omega)
  have i1 : (0 : Int) ≤ k := by omega
  have i2 : (k : Int) < n := by omega
  have hck := rcheck_any A n c l (by omega) 0 hE _ hA1
  obtain ⟨ad, num, dn, txt, sp, X, m, d, rfl, ha, hl1, hm, hd, hr0⟩ := cps_rel h1 hk
  have htx : ∀ x ∈ l, x.txt.length ≤ 10000 := fun x hx => by have := chk_txt hE hx; omega
  rw [tk_in hE hl1]
  have gl1 := Lib.hid hl1
  have hdr := take_drop_one hl1
  clear hE hl1 hi
  go_enter Try.func9, Try.ntmps9
  go_wp2_with fail
  refine hck.mono ?_
  rintro en w1 ⟨rfl, hb1⟩
  have hb := hA.trans (hb1.mono hA.size)
  have kb1 := kb.below hb1 kb.lt
  have h2 := (h1.below hb).more hb.size
  have hwo : ∀ w', Below w1.heap.size w1 w' → Calls Try.prog 26 #[.slice (some ad) n c, .int .i64 (k : Int)] w' fun en w'' => ∃ Ao co, en = .returned (.slice Ao (n - 1) co) ∧ Acc w'' w'.heap.size (.slice Ao (n - 1) co) (n - 1) (l.take k ++ l.drop (k + 1)) ∧ Below w'.heap.size w' w'' :=
    fun w' hw => without_any (some ad) n c l k hk hn hnc htx w' ((h2.below hw).more hw.size)
  have htw : ∀ w', Below w1.heap.size w1 w' → Calls Try.prog 5 #[.slice (some (ad.add (k * 4))) 1 (c - k)] w' fun en w'' => ∃ ao co Xo do_, en = .returned (.slice (some ao) 1 co) ∧ w''.cell? ao = some (.int .i64 num) ∧ w''.cell? ⟨ao.block, ao.off + 1, none⟩ = some (.int .i64 dn) ∧ w''.cell? ⟨ao.block, ao.off + 2, none⟩ = some (.slice Xo m do_) ∧ w''.cell? ⟨ao.block, ao.off + 3, none⟩ = some (.bool sp) ∧ OwnR w'' w'.heap.size 5 Xo m (ints .u8 txt) ∧ Below w'.heap.size w' w'' := by
    intro w' hw
    have d2 := ((h2.below hw).more hw.size).cut (show k ≤ n by omega) hnc
    rw [if_neg (by omega), Option.map_some, ← List.map_drop] at d2
    have d3 := d2.take (show 1 ≤ n - k by omega)
    rw [← List.map_take, hdr] at d3
    refine (rtwin_any _ 1 (c - k) _ (by omega) (fun x hx => ?_) w' d3).mono ?_
    · rw [List.mem_singleton.1 hx]; exact htx _ (List.mem_of_getElem? gl1.out)
    · rintro en w'' ⟨Ao, co, rfl, _, _, _, hb5, ho⟩
      obtain ⟨ao, Xo, do_, rfl, c0, c1, c2, c3, hx⟩ := acc_one ho
      simp only [hm] at c0 c1 c2 c3 hx
      exact ⟨ao, co, Xo, do_, rfl, c0, c1, c2, c3, hx, hb5⟩
  have i3 : (k : Int) ≤ (k : Int) + 1 := by omega
  have i5 : (k : Int) + 1 ≤ n := by omega
  have i7 : (k : Int) ≤ c := by omega
  have i8 : (0 : Int) ≤ (k : Int) + 1 := by omega
  have i9 : ((k : Int) + 1).toNat = k + 1 := by omega
  have i10 : ¬ c = k := by omega
  have i11 : ¬ c = 0 := by omega
  have i13 : (k : Int) + 1 ≤ c := by omega
  have w9 : IntKind.i64.wrap ((k : Int) + 1) = (k : Int) + 1 := IntWalk.i64_in _ (by omega)
  have gm := Lib.hid hm
  have ghr := Lib.hid hdr
  have gln := Lib.hid (show (l.take k ++ l.drop (k + 1)).length = n - 1 by simp [ln]; omega)
  have hs0 : Below w1.heap.size w1 w1 := Below.refl _ _
  clear hm h1 h2 hA hA1 hdr ln hd htx hr0 hck kb hb1
  go_wp2_with fail
  refine wp_region_noPanic ?_
  refine wp_region_held_drew (S := fun _ => True) (by kernel_rfl) (trivial) (fun hHeld => ?_)
  refine wpAnyH_take (i := 0) (oi := ?o0) (v := ?v0) ?ho0 (by kernel_rfl) (by kernel_rfl) (by kernel_rfl) (fun _ _ _ h => h) (Or.inl ⟨?wn0, ?yn0⟩) (by assumption) ?rest0
  case ho0 => (simp only [List.getElem?_toArray, List.getElem?_cons_zero, List.getElem?_cons_succ]; rfl)
  case wn0 => rfl
  case yn0 => (intro w hSw; (try dsimp only at hSw); go_simp; (try with_reducible rfl))
  (try simp only [Act.put, List.setIfInBounds_toArray, List.set_cons_zero, List.set_cons_succ])
  refine wpAnyH_take (i := 1) (oi := ?o1) (v := ?v1) ?ho1 (by kernel_rfl) (by kernel_rfl) (by kernel_rfl) (fun _ _ _ h => h) (Or.inl ⟨?wn1, ?yn1⟩) (by assumption) ?rest1
  case ho1 => (simp only [List.getElem?_toArray, List.getElem?_cons_zero, List.getElem?_cons_succ]; rfl)
  case wn1 => rfl
  case yn1 => (intro w hSw; (try dsimp only at hSw); go_simp; (try with_reducible rfl))
  (try simp only [Act.put, List.setIfInBounds_toArray, List.set_cons_zero, List.set_cons_succ])
  refine wpAnyH_take (i := 3) (oi := ?o3) (v := ?v3) ?ho3 (by kernel_rfl) (by kernel_rfl) (by kernel_rfl) (fun _ _ _ h => h) (Or.inl ⟨?wn3, ?yn3⟩) (by assumption) ?rest3
  case ho3 => (simp only [List.getElem?_toArray, List.getElem?_cons_zero, List.getElem?_cons_succ]; rfl)
  case wn3 => rfl
  case yn3 => (intro w hSw; (try dsimp only at hSw); go_simp; (try with_reducible rfl))
  (try simp only [Act.put, List.setIfInBounds_toArray, List.set_cons_zero, List.set_cons_succ])
  refine wpAnyH_take (i := 4) (oi := ?o4) (v := ?v4) ?ho4 (by kernel_rfl) (by kernel_rfl) (by kernel_rfl) (fun _ _ _ h => h) (Or.inl ⟨?wn4, ?yn4⟩) (by assumption) ?rest4
  case ho4 => (simp only [List.getElem?_toArray, List.getElem?_cons_zero, List.getElem?_cons_succ]; rfl)
  case wn4 => rfl
  case yn4 => (intro w hSw; (try dsimp only at hSw); go_simp; (try with_reducible rfl))
  (try simp only [Act.put, List.setIfInBounds_toArray, List.set_cons_zero, List.set_cons_succ])
  refine wpAnyH_take (i := 5) (oi := ?o5) (v := ?v5) ?ho5 (by kernel_rfl) (by kernel_rfl) (by kernel_rfl) (fun _ _ _ h => h) (Or.inl ⟨?wn5, ?yn5⟩) (by assumption) ?rest5
  case ho5 => (simp only [List.getElem?_toArray, List.getElem?_cons_zero, List.getElem?_cons_succ]; rfl)
  case wn5 => rfl
  case yn5 => (intro w hSw; (try dsimp only at hSw); go_simp; (try with_reducible rfl))
  (try simp only [Act.put, List.setIfInBounds_toArray, List.set_cons_zero, List.set_cons_succ])
  refine wpAnyH_take (i := 6) (oi := ?o6) (v := ?v6) ?ho6 (by kernel_rfl) (by kernel_rfl) (by kernel_rfl) (fun _ _ _ h => h) (Or.inl ⟨?wn6, ?yn6⟩) (by assumption) ?rest6
  case ho6 => (simp only [List.getElem?_toArray, List.getElem?_cons_zero, List.getElem?_cons_succ]; rfl)
  case wn6 => rfl
  case yn6 => (intro w hSw; (try dsimp only at hSw); go_simp; (try with_reducible rfl))
  (try simp only [Act.put, List.setIfInBounds_toArray, List.set_cons_zero, List.set_cons_succ])
  refine wpAnyH_take (i := 7) (oi := ?o7) (v := ?v7) ?ho7 (by kernel_rfl) (by kernel_rfl) (by kernel_rfl) (fun _ _ _ h => h) (Or.inl ⟨?wn7, ?yn7⟩) (by assumption) ?rest7
  case ho7 => (simp only [List.getElem?_toArray, List.getElem?_cons_zero, List.getElem?_cons_succ]; rfl)
  case wn7 => rfl
  case yn7 => (intro w hSw; (try dsimp only at hSw); go_simp; (try with_reducible rfl))
  (try simp only [Act.put, List.setIfInBounds_toArray, List.set_cons_zero, List.set_cons_succ])
  refine wpAnyH_ready (rs := [2]) (by kernel_rfl) (by simp) ?_
  refine AllReadyH.cons (o := ?o2) ?ho2 (fun K hK => ?rest2) AllReadyH.nil
  case ho2 => (simp only [List.getElem?_toArray, List.getElem?_cons_zero, List.getElem?_cons_succ]; rfl)
  go_simp
  with_reducible refine (hwo _ (by (repeat first | with_reducible assumption | with_reducible exact Below.refl _ _ | with_reducible refine Below.drew ?_ | (with_reducible refine Below.setCell ?_ (by first | exact Nat.le_refl _ | (simp only [World.size_alloc, World.size_drew, size_set]; omega) | omega) _) | (with_reducible refine Below.alloc ?_ (by first | exact Nat.le_refl _ | (simp only [World.size_alloc, World.size_drew, size_set]; omega) | omega) _)))).mono ?_
  rintro en w8 ⟨Ao, co, rfl, ho8, hb8⟩
  have hb9 : Below w1.heap.size w1 w8 := Below.trans (by (repeat first | with_reducible assumption | with_reducible exact Below.refl _ _ | with_reducible refine Below.drew ?_ | (with_reducible refine Below.setCell ?_ (by first | exact Nat.le_refl _ | (simp only [World.size_alloc, World.size_drew, size_set]; omega) | omega) _) | (with_reducible refine Below.alloc ?_ (by first | exact Nat.le_refl _ | (simp only [World.size_alloc, World.size_drew, size_set]; omega) | omega) _))) (hb8.mono (by first | exact Nat.le_refl _ | (simp only [World.size_alloc, World.size_drew, size_set]; omega) | omega))
  refine hK.out _ _ (trivial) (fun hHeld => ?_)
  clear hK K
  (try simp only [Act.put, List.setIfInBounds_toArray, List.set_cons_zero, List.set_cons_succ])
  refine wpAnyH_ready (rs := [8]) (by kernel_rfl) (by simp) ?_
  refine AllReadyH.cons (o := ?o8) ?ho8 (fun K hK => ?rest8) AllReadyH.nil
  case ho8 => (simp only [List.getElem?_toArray, List.getElem?_cons_zero, List.getElem?_cons_succ]; rfl)
  go_simp
  with_reducible refine (htw _ (by (repeat first | with_reducible assumption | with_reducible exact Below.refl _ _ | with_reducible refine Below.drew ?_ | (with_reducible refine Below.setCell ?_ (by first | exact Nat.le_refl _ | (simp only [World.size_alloc, World.size_drew, size_set]; omega) | omega) _) | (with_reducible refine Below.alloc ?_ (by first | exact Nat.le_refl _ | (simp only [World.size_alloc, World.size_drew, size_set]; omega) | omega) _)))).mono ?_
  rintro en w9 ⟨ao, c9, Xo, do_, rfl, c0, c1, c2, c3, rX9, hb10⟩
  have hb11 : Below w1.heap.size w1 w9 := hb9.trans (hb10.mono hb9.size)
  have kb9 := kb1.below hb11 kb1.lt
  have ce0 := kb9.cell 0
  have ce1 := kb9.cell 1
  have ce2 := kb9.cell 2
  have ce3 := kb9.cell 3
  have cf0 := kb9.frozen 0
  have cf1 := kb9.frozen 1
  have cf2 := kb9.frozen 2
  have cf3 := kb9.frozen 3
  simp at ce0 ce1 ce2 ce3
  have kl := kb9.lt
  refine hK.out _ _ (trivial) (fun hHeld => ?_)
  clear hK K
  (try simp only [Act.put, List.setIfInBounds_toArray, List.set_cons_zero, List.set_cons_succ])
  refine wpAnyH_take (i := 9) (oi := ?o9) (v := ?v9) ?ho9 (by kernel_rfl) (by kernel_rfl) (by kernel_rfl) (fun _ _ _ h => h) (Or.inl ⟨?wn9, ?yn9⟩) (by assumption) ?rest9
  case ho9 => (simp only [List.getElem?_toArray, List.getElem?_cons_zero, List.getElem?_cons_succ]; rfl)
  case wn9 => rfl
  case yn9 => (intro w hSw; (try dsimp only at hSw); go_simp; (try with_reducible rfl))
  (try simp only [Act.put, List.setIfInBounds_toArray, List.set_cons_zero, List.set_cons_succ])
  refine wpAnyH_take (i := 11) (oi := ?o11) (v := ?v11) ?ho11 (by kernel_rfl) (by kernel_rfl) (by kernel_rfl) (fun _ _ _ h => h) (Or.inl ⟨?wn11, ?yn11⟩) (by assumption) ?rest11
  case ho11 => (simp only [List.getElem?_toArray, List.getElem?_cons_zero, List.getElem?_cons_succ]; rfl)
  case wn11 => rfl
  case yn11 => (intro w hSw; (try dsimp only at hSw); go_simp; (try with_reducible rfl))
  (try simp only [Act.put, List.setIfInBounds_toArray, List.set_cons_zero, List.set_cons_succ])
  refine wpAnyH_ready (rs := [10]) (by kernel_rfl) (by simp) ?_
  refine AllReadyH.cons (o := ?o10) ?ho10 (fun K hK => ?rest10) AllReadyH.nil
  case ho10 => (simp only [List.getElem?_toArray, List.getElem?_cons_zero, List.getElem?_cons_succ]; rfl)
  go_simp
  refine hK.out _ _ (trivial) (fun hHeld => ?_)
  clear hK K
  (try simp only [Act.put, List.setIfInBounds_toArray, List.set_cons_zero, List.set_cons_succ])
  refine wpAnyH_ready (rs := [12]) (by kernel_rfl) (by simp) ?_
  refine AllReadyH.cons (o := ?o12) ?ho12 (fun K hK => ?rest12) AllReadyH.nil
  case ho12 => (simp only [List.getElem?_toArray, List.getElem?_cons_zero, List.getElem?_cons_succ]; rfl)
  go_simp
  refine hK.out _ _ (trivial) (fun hHeld => ?_)
  clear hK K
  (try simp only [Act.put, List.setIfInBounds_toArray, List.set_cons_zero, List.set_cons_succ])
  refine wpAnyH_take (i := 13) (oi := ?o13) (v := ?v13) ?ho13 (by kernel_rfl) (by kernel_rfl) (by kernel_rfl) (fun _ _ _ h => h) (Or.inl ⟨?wn13, ?yn13⟩) (by assumption) ?rest13
  case ho13 => (simp only [List.getElem?_toArray, List.getElem?_cons_zero, List.getElem?_cons_succ]; rfl)
  case wn13 => rfl
  case yn13 => (intro w hSw; (try dsimp only at hSw); go_simp; (try with_reducible rfl))
  (try simp only [Act.put, List.setIfInBounds_toArray, List.set_cons_zero, List.set_cons_succ])
  refine wpAnyH_done (by kernel_rfl) ?_ _
  refine NoPanic.normal ?_
  have k2 := box4 kb9 (.int .i64 num) (.int .i64 dn) (.slice Xo m do_) (.bool sp)
  have q0 := k2.cell 0
  have q1 := k2.cell 1
  have q2 := k2.cell 2
  have q3 := k2.cell 3
  simp only [List.getElem?_toArray, List.getElem?_cons_zero, List.getElem?_cons_succ] at q0 q1 q2 q3
  have hbz := box4_below (hb.trans (hb11.mono hb.size)) (Nat.le_refl _) (.int .i64 num) (.int .i64 dn) (.slice Xo m do_) (.bool sp)
  have hlw : w.heap.size < w1.heap.size := kb1.lt
  have ho9 := acc_base_le (ho8.below hb10) (show w1.heap.size ≤ _ by first | exact Nat.le_refl _ | (simp only [World.size_alloc, World.size_drew, size_set]; omega) | omega)
  have hx9 := rX9.base_le (show w1.heap.size ≤ _ by first | exact Nat.le_refl _ | exact hb9.size | exact (by (repeat first | with_reducible assumption | with_reducible exact Below.refl _ _ | with_reducible refine Below.drew ?_ | (with_reducible refine Below.setCell ?_ (by first | exact Nat.le_refl _ | (simp only [World.size_alloc, World.size_drew, size_set]; omega) | omega) _) | (with_reducible refine Below.alloc ?_ (by first | exact Nat.le_refl _ | (simp only [World.size_alloc, World.size_drew, size_set]; omega) | omega) _)) : Below w1.heap.size w1 _).size)
  have hoz := acc_cps (acc_far (acc_far (acc_far (acc_far ho9 (p := ⟨w.heap.size, 0, none⟩) hlw (.int .i64 num)) (p := ⟨w.heap.size, 1, none⟩) hlw (.int .i64 dn)) (p := ⟨w.heap.size, 2, none⟩) hlw (.slice Xo m do_)) (p := ⟨w.heap.size, 3, none⟩) hlw (.bool sp))
  have hxz := (OwnR.far (OwnR.far (OwnR.far (OwnR.far hx9 (p := ⟨w.heap.size, 0, none⟩) hlw (.int .i64 num)) (p := ⟨w.heap.size, 1, none⟩) hlw (.int .i64 dn)) (p := ⟨w.heap.size, 2, none⟩) hlw (.slice Xo m do_)) (p := ⟨w.heap.size, 3, none⟩) hlw (.bool sp)).base_le (Nat.le_of_lt hlw)
  clear kb9 k2 hb8 hb9 hb10 hb11 ce0 ce1 ce2 ce3 cf0 cf1 cf2 cf3 ho9 hx9 ho8 rX9
  go_wp2
  refine ⟨rfl, .tuple #[.slice Ao (n - 1) co, .agg #[.int .i64 num, .int .i64 dn, .slice Xo m do_, .bool sp], .int .i64 0], ?_, Ao, co, Xo, m, do_, ?_, ?_, gm.out, hxz, hbz⟩
  · simp [results, Try.f9, go_sem, q0, q1, q2, q3]
  · simp only [gln.out]
  · simp only [gln.out]; exact hoz
end Go.Proofs.Ytbiodoeimbfbnaa
