/- Ether: the cells of a row of copies, as they lie, and what is appended -/
import Derived.Test.YtbiodoeimbfbnaaO
import Derived.Deep.QuietTactic
import Derived.BigQuiet
namespace Go.Proofs.Ytbiodoeimbfbnaa
open Go.ChangeShapes Go.WideShapes Go.ChangeAt Go.RowKit
set_option linter.unusedSimpArgs false
set_option linter.unusedVariables false
theorem flat4_len : ∀ os : List (Cp × Option Addr × Nat), (os.flatMap row4).length = os.length * 4
  | [] => rfl
  | x :: r => by rw [List.flatMap_cons, List.length_append, flat4_len r, List.length_cons]; simp [row4]; omega
theorem flat4_one (os : List (Cp × Option Addr × Nat)) : ∀ u ∈ os.flatMap row4, u.oneCell' = true := by
  intro u hu
  obtain ⟨o, _, ho⟩ := List.mem_flatMap.1 hu
  exact one4 _ _ _ _ _ _ u ho
theorem cps_rows {w : World} {B n : Nat} {A : Option Addr} {l : List Cp} (h : Cps w B A n l) : ∃ os : List (Cp × Option Addr × Nat), os.map (·.1) = l ∧ Reads w B 4 A n (os.flatMap row4) ∧ ∀ o ∈ os, o.1.txt.length ≤ o.2.2 ∧ Reads w B 1 o.2.1 o.1.txt.length (ints .u8 o.1.txt) := by
  have ln := cps_len h
  have hch : ∀ i : Nat, ∃ o : Cp × Option Addr × Nat, ∀ c, l[i]? = some c → o.1 = c ∧ (c.txt.length ≤ o.2.2 ∧ Reads w B 1 o.2.1 c.txt.length (ints .u8 c.txt)) ∧ ∀ ad, A = some ad → w.cell? (ad.add (i * 4 + 2)) = some (.slice o.2.1 c.txt.length o.2.2) := by
    intro i
    rcases hl : l[i]? with _ | c
    · exact ⟨(⟨0, 0, [], false⟩, none, 0), fun c hc => by cases hc⟩
    · have hi : i < n := by have := (List.getElem?_eq_some_iff.1 hl).1; omega
      obtain ⟨ad, r, e, hb, hr, hc⟩ := h.at_ hi
      rw [List.getElem?_map, hl] at hr
      injection hr with hr
      subst hr
      obtain ⟨X, m, d, h2, h3, h4, h5⟩ := hc 2 _ rfl
      subst h2
      exact ⟨(c, X, d), fun c' hc' => by
        injection hc' with hc'
        subst hc'
        exact ⟨rfl, ⟨h3, h4⟩, fun ad' e' => by rw [e] at e'; injection e' with e'; subst e'; exact h5⟩⟩
  obtain ⟨F, hF⟩ := Classical.axiomOfChoice hch
  have hat : ∀ i, i < n → ((List.range n).map F)[i]? = some (F i) := fun i hi => by rw [List.getElem?_map, List.getElem?_range hi]; rfl
  have hl : ∀ i, i < n → ∃ c, l[i]? = some c := fun i hi => ⟨_, List.getElem?_eq_getElem (by omega)⟩
  refine ⟨(List.range n).map F, ?_, ?_, ?_⟩
  · apply List.ext_getElem?
    intro i
    rw [List.getElem?_map]
    by_cases hi : i < n
    · obtain ⟨c, hc⟩ := hl i hi
      rw [hat i hi, hc, Option.map_some, (hF i c hc).1]
    · rw [List.getElem?_eq_none (by simp; omega), List.getElem?_eq_none (by omega)]
      rfl
  · refine ⟨by rw [flat4_len]; simp, fun h0 => ?_⟩
    obtain ⟨ad, e, hb, hc⟩ := h.2 h0
    refine ⟨ad, e, hb, fun j u hu => ?_⟩
    have hj : j < n * 4 := by
      have := (List.getElem?_eq_some_iff.1 hu).1
      rw [flat4_len] at this
      simpa using this
    obtain ⟨i, hi'⟩ : ∃ i, j / 4 = i := ⟨_, rfl⟩
    have hi : i < n := by omega
    obtain ⟨c, hlc⟩ := hl i hi
    obtain ⟨e1, ⟨h3, h4⟩, h5⟩ := hF i c hlc
    have hr : (l.map fds)[i]? = some (fds c) := by rw [List.getElem?_map, hlc]; rfl
    have key : ∀ r v, r < 4 → j = i * 4 + r → (row4 (F i))[r]? = some v → w.cell? (ad.add (i * 4 + r)) = some v → w.cell? (ad.add j) = some u := by
      intro r v hr4 hj2 hv hcell
      have := flat_at _ i r _ v (hat i hi) hv hr4
      rw [← hj2, hu] at this
      injection this with this
      rw [hj2, this]
      exact hcell
    have hm : j % 4 = 0 ∨ j % 4 = 1 ∨ j % 4 = 2 ∨ j % 4 = 3 := by omega
    rcases hm with hm | hm | hm | hm
    · exact key 0 _ (by omega) (by omega) rfl (by rw [e1]; exact hc i _ hr 0 _ rfl)
    · exact key 1 _ (by omega) (by omega) rfl (by rw [e1]; exact hc i _ hr 1 _ rfl)
    · exact key 2 _ (by omega) (by omega) rfl (by rw [e1]; exact h5 ad e)
    · exact key 3 _ (by omega) (by omega) rfl (by rw [e1]; exact hc i _ hr 3 _ rfl)
  · intro o ho
    obtain ⟨i, hi, rfl⟩ := List.mem_map.1 ho
    obtain ⟨c, hlc⟩ := hl i (List.mem_range.1 hi)
    obtain ⟨e1, h2, _⟩ := hF i c hlc
    rw [e1]
    exact h2
theorem rows_cps2 {w : World} {B n : Nat} {A : Option Addr} {os : List (Cp × Option Addr × Nat)} (ho : Reads w B 4 A n (os.flatMap row4)) (ht : ∀ o ∈ os, o.1.txt.length ≤ o.2.2 ∧ Reads w B 1 o.2.1 o.1.txt.length (ints .u8 o.1.txt)) : Cps w B A n (os.map (·.1)) := by
  have hlen : os.length = n := by
    have h1 := ho.1
    rw [flat4_len] at h1
    omega
  refine ⟨by simp [hlen], fun h0 => ?_⟩
  obtain ⟨ad, e, hb, hc⟩ := ho.2 h0
  refine ⟨ad, e, hb, fun i r' hr j f hf => ?_⟩
  rw [List.map_map, List.getElem?_map] at hr
  obtain ⟨o, hoo, rfl⟩ := Option.map_eq_some_iff.1 hr
  have hto := ht o (List.mem_of_getElem? hoo)
  match j, hf with
  | 0, hf => injection hf with hf; subst hf; exact hc _ _ (flat_at os i 0 o _ hoo rfl (by omega))
  | 1, hf => injection hf with hf; subst hf; exact hc _ _ (flat_at os i 1 o _ hoo rfl (by omega))
  | 2, hf => injection hf with hf; subst hf; exact ⟨o.2.1, _, o.2.2, rfl, hto.1, hto.2, hc _ _ (flat_at os i 2 o _ hoo rfl (by omega))⟩
  | 3, hf => injection hf with hf; subst hf; exact hc _ _ (flat_at os i 3 o _ hoo rfl (by omega))
  | j + 4, hf => simp [fds] at hf
/-- Texts that read so still do. -/
theorem texts_below {w w' : World} {B B' : Nat} {os : List (Cp × Option Addr × Nat)} (ht : ∀ o ∈ os, o.1.txt.length ≤ o.2.2 ∧ Reads w B 1 o.2.1 o.1.txt.length (ints .u8 o.1.txt)) (hb : Below B w w') (hB : B ≤ B') : ∀ o ∈ os, o.1.txt.length ≤ o.2.2 ∧ Reads w' B' 1 o.2.1 o.1.txt.length (ints .u8 o.1.txt) :=
  fun o ho => ⟨(ht o ho).1, ((ht o ho).2.below hb).more hB⟩
theorem texts_append {w : World} {B : Nat} {os os2 : List (Cp × Option Addr × Nat)} (ht : ∀ o ∈ os, o.1.txt.length ≤ o.2.2 ∧ Reads w B 1 o.2.1 o.1.txt.length (ints .u8 o.1.txt)) (ht2 : ∀ o ∈ os2, o.1.txt.length ≤ o.2.2 ∧ Reads w B 1 o.2.1 o.1.txt.length (ints .u8 o.1.txt)) : ∀ o ∈ os ++ os2, o.1.txt.length ≤ o.2.2 ∧ Reads w B 1 o.2.1 o.1.txt.length (ints .u8 o.1.txt) :=
  fun o ho => by exact (List.mem_append.1 ho).elim (ht o) (ht2 o)
theorem reads_blk {w : World} {g size n : Nat} {t : TypeId} {cs : Array Value} (h : Blk w g t cs) (hn : cs.size = n * size) : Reads w (g + 1) size (some ⟨g, 0, none⟩) n cs.toList := by
  refine ⟨by simpa using hn, fun _ => ⟨_, rfl, by simp, fun j u hu => ?_⟩⟩
  have e : (⟨g, 0, none⟩ : Addr).add j = ⟨g, j, none⟩ := by unfold Addr.add; split <;> simp_all
  rw [e, h.cell]
  simpa using hu
theorem own_empty {W : World} {g : Nat} {e : TypeId} {size base : Nat} (h : Blk W g e #[]) (hb : base ≤ g) : W.ownsRow base e size (.slice (some ⟨g, 0, none⟩) 0 0) 0 [] :=
  ⟨by simp, .inr ⟨g, 0, #[], rfl, hb, h, Nat.le_refl _, Nat.zero_le _, by simp, by simp⟩⟩
theorem own_base_le {w : World} {b base size n : Nat} {e : TypeId} {v : Value} {xs : List Value} (h : w.ownsRow base e size v n xs) (hb : b ≤ base) : w.ownsRow b e size v n xs :=
  ⟨h.1, h.2.imp id fun ⟨g, c, cur, e1, h1, r⟩ => ⟨g, c, cur, e1, Nat.le_trans hb h1, r⟩⟩
theorem acc_base_le {w : World} {b base r : Nat} {v : Value} {l : List Cp} (h : Acc w base v r l) (hb : b ≤ base) : Acc w b v r l := by
  obtain ⟨os, e, ho, ht, hs⟩ := h
  exact ⟨os, e, own_base_le ho hb, fun o ho => ⟨(ht o ho).1, (ht o ho).2.base_le hb⟩, hs⟩
theorem acc_cps {w : World} {base r c : Nat} {A : Option Addr} {l : List Cp} (h : Acc w base (.slice A r c) r l) : Cps w w.heap.size A r l := by
  obtain ⟨os, rfl, ho, ht, _⟩ := h
  exact rows_cps ho ht
theorem acc_far {w : World} {base r : Nat} {v : Value} {l : List Cp} (h : Acc w base v r l) {p : Addr} (hp : p.block < base) (u : Value) : Acc (w.setCell p u) base v r l := by
  obtain ⟨os, e, ho, ht, hs⟩ := h
  exact ⟨os, e, own_set ho hp u, fun o ho => ⟨(ht o ho).1, (ht o ho).2.far hp u⟩, hs⟩
theorem acc_one {w : World} {B c : Nat} {A : Option Addr} {x : Cp} (h : Acc w B (.slice A 1 c) 1 [x]) : ∃ ao X d, A = some ao ∧ w.cell? ao = some (.int .i64 x.num) ∧ w.cell? ⟨ao.block, ao.off + 1, none⟩ = some (.int .i64 x.dn) ∧ w.cell? ⟨ao.block, ao.off + 2, none⟩ = some (.slice X x.txt.length d) ∧ w.cell? ⟨ao.block, ao.off + 3, none⟩ = some (.bool x.sp) ∧ OwnR w B 5 X x.txt.length (ints .u8 x.txt) := by
  obtain ⟨os, e, ho, ht, _⟩ := h
  match os, e with
  | [o], e =>
    injection e with e _
    subst e
    obtain ⟨ao, hA, _, hc⟩ := (Reads.of_own ho).2 (by omega)
    have h0 := hc 0 _ rfl
    have h1 := hc 1 _ rfl
    have h2 := hc 2 _ rfl
    have h3 := hc 3 _ rfl
    rw [add_lit _ (by omega)] at h1 h2 h3
    exact ⟨ao, o.2.1, o.2.2, hA, h0, h1, h2, h3, (ht o (by simp)).2⟩
theorem tk_txt {l : List Cp} {k : Nat} {N : Nat} (h : ∀ x ∈ l, x.txt.length ≤ N) : ∀ x ∈ l.take k ++ l.drop (k + 1), x.txt.length ≤ N := by
  intro x hx
  rcases List.mem_append.1 hx with h1 | h1
  · exact h x (List.mem_of_mem_take h1)
  · exact h x (List.mem_of_mem_drop h1)
set_option maxHeartbeats 8000000 in
theorem without_any (A : Option Addr) (n c : Nat) (l : List Cp) (k : Nat) (hk : k < n) (hn : n ≤ 1000) (hnc : n ≤ c) (hs : ∀ x ∈ l, x.txt.length ≤ 10000) (w : World) (h1 : Cps w w.heap.size A n l) :
    Calls Try.prog 26 #[.slice A n c, .int .i64 (k : Int)] w fun en w' => ∃ Ao co, en = .returned (.slice Ao (n - 1) co) ∧ Acc w' w.heap.size (.slice Ao (n - 1) co) (n - 1) (l.take k ++ l.drop (k + 1)) ∧ Below w.heap.size w w' := by
  obtain ⟨i0, hi0, hz0, hz1, hz2⟩ := info_parts infoC
  obtain ⟨ad, e, _⟩ := h1.2 (by omega)
  subst e
  have t1 := h1.take (show k ≤ n by omega)
  have t2 := h1.cut (show k + 1 ≤ n by omega) hnc
  rw [Option.map_some] at t2
  obtain ⟨A4, hA4⟩ : ∃ x, (if c = k + 1 then some ad else some (ad.add ((k + 1) * 4))) = x := ⟨_, rfl⟩
  rw [hA4] at t2
  rw [← List.map_take] at t1
  rw [← List.map_drop] at t2
  obtain ⟨os1, e1, r1, x1⟩ := cps_rows t1
  obtain ⟨os2, e2, r2, x2⟩ := cps_rows t2
  have i1 : (0 : Int) ≤ k := by omega
  have i2 : (k : Int) < n := by omega
  have i3 : (k : Int) ≤ n := by omega
  have i5 : (k : Int) + 1 ≤ n := by omega
  have i7 : (k : Int) ≤ c := by omega
  have i8 : (0 : Int) ≤ (k : Int) + 1 := by omega
  have i9 : ((k : Int) + 1).toNat = k + 1 := by omega
  have i11 : ¬ c = 0 := by omega
  have i13 : (k : Int) + 1 ≤ c := by omega
  have w9 : IntKind.i64.wrap ((k : Int) + 1) = (k : Int) + 1 := IntWalk.i64_in _ (by omega)
  have hown0 := own_empty (size := 4) (Blk.new w 25 #[]) (Nat.le_refl _)
  have hb0 := (Below.refl w.heap.size w).alloc (Nat.le_refl _) (.cells #[] 25)
  have r1' := r1.below hb0
  have g1 := Lib.hid e1
  have g2 := Lib.hid e2
  have gt := Lib.hid (tk_txt (k := k) hs)
  have he : k + (n - (k + 1)) = n - 1 := by omega
  have gx1 := Lib.hid x1
  have gx2 := Lib.hid x2
  have ghe := Lib.hid he
  clear e1 e2 hs t1 t2 x1 x2 he h1 r1
  go_enter Try.func26, Try.ntmps26
  go_wp2_with (first | (at_builtin; refine wpList_append_any _ rfl (.tmp 6) (.tmp 9) 22 rfl w.heap.size 25 i0 _ 4 48 Try.underlying22 hi0 hz0 hz1 hz2 rfl (by omega) (.slice (some ⟨w.heap.size, 0, none⟩) 0 0) 0 [] rfl hown0 w.heap.size (some ad) k c _ rfl r1' (flat4_one _) (by unfold maxLen; omega) (by omega) (by simp) ?_; intro v3 w3 ho3 hg3 _; rw [Nat.zero_add, List.nil_append] at ho3; have hb3 := hb0.grown hg3 (by simp) (fun q hq => own_base hown0 hq); have hs3 := hb3.size; have r2' := r2.below hb3; obtain ⟨A3, c3, rfl, _, _⟩ := own_slice ho3; clear hown0 r1' hg3 r2 hb0) | (at_builtin; refine wpList_append_any _ rfl (.tmp 11) (.tmp 15) 22 rfl w.heap.size 25 i0 _ 4 48 Try.underlying22 hi0 hz0 hz1 hz2 rfl (by omega) (.slice A3 k c3) k _ rfl ho3 w.heap.size A4 (n - (k + 1)) (c - (k + 1)) _ rfl r2' (flat4_one _) (by unfold maxLen; omega) (by omega) hs3 ?_; intro v4 w4 ho4 hg4 _; rw [ghe.out, ← List.flatMap_append] at ho4; have hb4 := hb3.grown hg4 hs3 (fun q hq => own_base ho3 hq); obtain ⟨A5, c5, rfl, _, ro⟩ := own_slice ho4; clear ho3 r2' hg4 hb3 hs3 ho4))
  have hcp := rows_cps2 ro (texts_below (texts_append gx1.out gx2.out) hb4 hb4.size)
  rw [List.map_append, g1.out, g2.out] at hcp
  refine (rtwin_any A5 (n - 1) c5 _ (by omega) gt.out w4 hcp).mono ?_
  rintro en w5 ⟨Ao, co, rfl, hco, _, _, hb5, ho⟩
  replace ho := acc_base_le ho hb4.size
  have hb6 := hb4.trans (hb5.mono hb4.size)
  clear hcp ro hb5 hb4 hi0 hz0 hz1 hz2
  go_wp2
  go_ret
  exact ⟨Ao, co, rfl, ho, hb6⟩
end Go.Proofs.Ytbiodoeimbfbnaa
