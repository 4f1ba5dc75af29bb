/- Ether: what spoiling answers; the reference's. -/
import Derived.Test.YtbiodoeimbfbnaaDoorH
namespace Go.Proofs.YtbiodoeimbfbnaaDoor
open Go.ChangeShapes Go.WideShapes Go.ChangeAt Go.RowKit
set_option linter.unusedSimpArgs false
set_option linter.unusedVariables false
theorem flat_set : ∀ (os : List (Cp × Option Addr × Nat)) (k j : Nat) (o o' : Cp × Option Addr × Nat) (v : Value), os[k]? = some o → (row4 o).set j v = row4 o' → j < 4 → (os.flatMap row4).set (k * 4 + j) v = (os.set k o').flatMap row4
  | [], k, j, o, o', v, h, _, _ => by simp at h
  | x :: r, 0, j, o, o', v, h, hv, hj => by
    have : x = o := by simpa using h
    subst this
    rw [List.flatMap_cons, List.set_append_left _ _ (by simp [row4]; omega), Nat.zero_mul, Nat.zero_add, hv]
    rfl
  | x :: r, k + 1, j, o, o', v, h, hv, hj => by
    have e : (row4 x).length = 4 := rfl
    rw [List.flatMap_cons, List.set_append_right _ _ (by rw [e]; omega), e, show (k + 1) * 4 + j - 4 = k * 4 + j by omega, flat_set r k j o o' v (by simpa using h) hv hj]
    rfl
theorem OwnR.set_other {w : World} {base n : Nat} {e E : TypeId} {X : Option Addr} {xs : List Value} {g : Nat} {cs : Array Value} (h : OwnR w base e X n xs) (hb : Blk w g E cs) (hE : e ≠ E) (j : Nat) (u : Value) : OwnR (w.setCell ⟨g, j, none⟩ u) base e X n xs :=
  ⟨h.1, fun h0 => by obtain ⟨g', cur, hA, hg, hh, ht⟩ := h.2 h0; exact ⟨g', cur, hA, hg, hh.far (p := ⟨g, j, none⟩) (hh.ne_ hb hE) u, ht⟩⟩
theorem rows_cps {w' : World} {base : Nat} {A : Option Addr} {r c : Nat} {os : List (Cp × Option Addr × Nat)} (ho : w'.ownsRow base 37 4 (.slice A r c) r (os.flatMap row4)) (ht : ∀ o ∈ os, o.1.txt.length ≤ o.2.2 ∧ OwnR w' base 5 o.2.1 o.1.txt.length (ints .u8 o.1.txt)) : Cps w' w'.heap.size A r (os.map (·.1)) := by
  have hlen : os.length = r := by
    have h1 := ho.1
    have h2 : ∀ os : List (Cp × Option Addr × Nat), (os.flatMap row4).length = os.length * 4 := by
      intro os
      induction os with
      | nil => rfl
      | cons x r ih => rw [List.flatMap_cons, List.length_append, ih, List.length_cons]; simp [row4]; omega
    rw [h2] at h1
    omega
  refine ⟨by simp [hlen], fun h0 => ?_⟩
  obtain ⟨ad, e, hb, hc⟩ := (Reads.of_own ho).2 h0
  refine ⟨ad, e, hb, fun i r' hr j f hf => ?_⟩
  rw [List.map_map, List.getElem?_map] at hr
  obtain ⟨o, hoo, rfl⟩ := Option.map_eq_some_iff.1 hr
  have hto := ht o (List.mem_of_getElem? hoo)
  match j, hf with
  | 0, hf => injection hf with hf; subst hf; exact hc _ _ (flat_at os i 0 o _ hoo rfl (by omega))
  | 1, hf => injection hf with hf; subst hf; exact hc _ _ (flat_at os i 1 o _ hoo rfl (by omega))
  | 2, hf => injection hf with hf; subst hf; exact ⟨o.2.1, _, o.2.2, rfl, hto.1, hto.2.reads, hc _ _ (flat_at os i 2 o _ hoo rfl (by omega))⟩
  | 3, hf => injection hf with hf; subst hf; exact hc _ _ (flat_at os i 3 o _ hoo rfl (by omega))
  | j + 4, hf => simp [fds] at hf
/-- What spoiling answers. -/
def splS (l : List Cp) (i a : Int) (m : Nat) : List Cp × Int :=
  if chkE l = 0 then
    match (if 0 ≤ i then l[i.toNat]? else none) with
    | none => ([], 2)
    | some c => if fitB c.txt.length a m = true then (if c.sp = true then ([], 12) else (l.set i.toNat ⟨c.num, c.dn, turned c.txt a.toNat m, true⟩, 0)) else ([], 2)
  else ([], chkE l)
theorem spl_err {l : List Cp} {i a : Int} {m : Nat} {E : Int} (h : chkE l = E) (h0 : E ≠ 0) : splS l i a m = ([], E) := by
  unfold splS
  rw [if_neg (by rw [h]; exact h0), h]
theorem spl_out {l : List Cp} {i a : Int} {m : Nat} (h : chkE l = 0) (hi : i < 0 ∨ (l.length : Int) ≤ i) : splS l i a m = ([], 2) := by
  unfold splS
  rw [if_pos h]
  by_cases h0 : 0 ≤ i
  · rw [if_pos h0, List.getElem?_eq_none (by omega)]
  · rw [if_neg h0]
theorem spl_in {l : List Cp} {k : Nat} {a : Int} {m : Nat} {c : Cp} (h : chkE l = 0) (hc : l[k]? = some c) : splS l (k : Int) a m = if fitB c.txt.length a m = true then (if c.sp = true then ([], 12) else (l.set k ⟨c.num, c.dn, turned c.txt a.toNat m, true⟩, 0)) else ([], 2) := by
  unfold splS
  rw [if_pos h, if_pos (by omega), Int.toNat_natCast, hc]
theorem chk_len {l : List Cp} (h : chkE l = 0) : l.length ≤ 16 := by
  unfold chkE at h
  split at h
  · exact absurd h (by decide)
  · omega
theorem chk_txt {l : List Cp} (h : chkE l = 0) {x : Cp} (hx : x ∈ l) : x.txt.length ≤ 4105 := by
  unfold chkE at h
  split at h
  · exact absurd h (by decide)
  · split at h
    · rename_i h1
      have := List.all_eq_true.1 h1 x hx
      unfold mayOf mayC at this
      simp only [decide_eq_true_eq] at this
      omega
    · exact absurd h (by decide)
def SpRead (w : World) (R : List Cp × Int) (en : Ending) (w' : World) : Prop := ∃ Ao co, en = .returned (.tuple #[.slice Ao R.1.length co, .int .i64 R.2]) ∧ Cps w' w'.heap.size Ao R.1.length R.1 ∧ Below w.heap.size w w'
theorem sp_nil {w w' : World} (hb : Below w.heap.size w w') (E : Int) : SpRead w ([], E) (.returned (.tuple #[.slice none 0 0, .int .i64 E])) w' := ⟨none, 0, rfl, Recs.none_, hb⟩
set_option maxHeartbeats 8000000 in
theorem rspoil_any (A : Option Addr) (n c : Nat) (l : List Cp) (i a : Int) (m : Nat) (hm : n ≤ 1000) (hm32 : m < 4294967296) (hby : ∀ x ∈ l, ∀ b ∈ x.txt, b < 256) (w : World) (h1 : Cps w w.heap.size A n l) :
    Calls Tryd.prog 10 #[.slice A n c, .int .i64 i, .int .i64 a, .int .u32 (m : Int)] w (SpRead w (splS l i a m)) := by
  have ln := cps_len h1
  obtain ⟨E, hE⟩ : ∃ E, chkE l = E := ⟨_, rfl⟩
  have hck := rcheck_any A n c l (by omega) E hE w h1
  by_cases hE0 : E = 0
  rotate_left
  · rw [spl_err hE hE0]
    have t1 : (E != 0) = true := bne_iff_ne.2 hE0
    clear hE hE0 h1 ln hby
    go_enter Tryd.func10, Tryd.ntmps10
    go_wp2_with (go_at_call 25; (with_reducible refine hck.mono ?_); rintro en w1 ⟨rfl, hb1⟩)
    go_ret2
    exact sp_nil hb1 E
  subst hE0
  by_cases hi0 : i < 0
  · rw [spl_out hE (Or.inl hi0)]
    have t1 : decide (i < 0) = true := decide_eq_true hi0
    clear hE h1 ln hi0 hby
    go_enter Tryd.func10, Tryd.ntmps10
    go_wp2_with (go_at_call 25; (with_reducible refine hck.mono ?_); rintro en w1 ⟨rfl, hb1⟩)
    go_ret2
    exact sp_nil hb1 2
  have t1 : decide (i < 0) = false := decide_eq_false hi0
  by_cases hin : (n : Int) ≤ i
  · rw [spl_out hE (Or.inr (by omega))]
    have t2 : decide ((n : Int) ≤ i) = true := decide_eq_true hin
    clear hE h1 ln hi0 hin hby
    go_enter Tryd.func10, Tryd.ntmps10
    go_wp2_with (go_at_call 25; (with_reducible refine hck.mono ?_); rintro en w1 ⟨rfl, hb1⟩)
    go_ret2
    exact sp_nil hb1 2
  have t2 : decide ((n : Int) ≤ i) = false := decide_eq_false hin
  obtain ⟨k, rfl⟩ : ∃ k : Nat, i = (k : Int) := ⟨i.toNat, by omega⟩
  have t3 : decide (n ≤ k) = false := decide_eq_false (by omega)
  have hkn : k < n := by omega
  obtain ⟨ad, num, dn, txt, sp, X, q, d, rfl, hb1, hl1, hx1, hxd1, hrel1⟩ := cps_rel h1 hkn
  have hq : q ≤ 4105 := by have := chk_txt hE (List.mem_of_getElem? hl1); simp only at this; omega
  rw [spl_in hE hl1]
  simp only [hx1]
  have hl16 := chk_len hE
  obtain ⟨Ft, hF⟩ : ∃ Ft, fitB q a m = Ft := ⟨_, rfl⟩
  have hfit := fits_any q a m (by omega) hm32 Ft hF
  have hrelW := fun w' h => (hrel1 w' h).2
  have i1 : (0 : Int) ≤ k := by omega
  have i2 : (k : Int) < n := by omega
  rw [hF]
  cases Ft
  · rw [if_neg (by decide)]
    clear hE h1 ln hi0 hin hrel1 hl1 hx1 hF hby
    go_enter Tryd.func10, Tryd.ntmps10
    go_wp2_with fail
    refine hck.mono ?_
    rintro en w1 ⟨rfl, hb1⟩
    obtain ⟨a0, a1, a2, a3⟩ := hrelW w1 hb1
    clear hck hrelW
    go_wp2_with (go_at_call 26; (with_reducible refine (hfit _).mono ?_); rintro en w2 ⟨rfl, rfl⟩)
    go_ret2
    exact sp_nil hb1 2
  rw [if_pos rfl]
  cases sp
  rotate_left
  · rw [if_pos rfl]
    clear hE h1 ln hi0 hin hrel1 hl1 hx1 hF hby
    go_enter Tryd.func10, Tryd.ntmps10
    go_wp2_with fail
    refine hck.mono ?_
    rintro en w1 ⟨rfl, hb1⟩
    obtain ⟨a0, a1, a2, a3⟩ := hrelW w1 hb1
    clear hck hrelW
    go_wp2_with (go_at_call 26; (with_reducible refine (hfit _).mono ?_); rintro en w2 ⟨rfl, rfl⟩)
    go_ret2
    exact sp_nil hb1 12
  rw [if_neg (by decide)]
  have hF' := hF
  unfold fitB at hF'
  simp only [decide_eq_true_eq] at hF'
  obtain ⟨p, rfl⟩ : ∃ p : Nat, a = (p : Int) := ⟨a.toNat, by omega⟩
  rw [Int.toNat_natCast]
  have hp8 : p < 8 * q := by have := (len_bits hm32 hF'.1).1; omega
  have hfb : ∀ j : Nat, m.testBit j = true → p + j < 8 * q := fun j hj => by have := fit_bits hm32 hF j hj; omega
  have htb : ∀ b ∈ txt, b < 256 := hby _ (List.mem_of_getElem? hl1)
  have htwin := fun w' (hw : Below w.heap.size w w') => rtwin_any (some ad) n c l (by omega) (fun x hx => by have := chk_txt hE hx; omega) w' ((h1.below hw).more hw.size)
  have gl1 := Lib.hid hl1
  have gx1 := Lib.hid hx1
  have gfb := Lib.hid hfb
  have gtb := Lib.hid htb
  have gln := Lib.hid ln
  clear hE h1 hi0 hin hrel1 hl1 hx1 hF hF' hfb htb hby ln
  go_enter Tryd.func10, Tryd.ntmps10
  go_wp2_with fail
  refine hck.mono ?_
  rintro en w1 ⟨rfl, hb1⟩
  obtain ⟨a0, a1, a2, a3⟩ := hrelW w1 hb1
  clear hck hrelW
  go_wp2_with fail
  refine (hfit _).mono ?_
  rintro en w2 ⟨rfl, rfl⟩
  go_wp2_with fail
  refine (htwin _ hb1).mono ?_
  rintro en w2 ⟨Ao, co, rfl, hco, _, _, hb2, hacc⟩
  obtain ⟨os, hos, hown, htx, _⟩ := hacc
  obtain ⟨g, cap, hv, hgb, hgl⟩ := hown.form (by omega)
  injection hv with hA _ hcc
  subst hA hcc
  have hB2 := hb1.trans (hb2.mono hb1.size)
  have hok : ∃ X' d', os[k]? = some (⟨num, dn, txt, false⟩, X', d') := by
    have h := gl1.out
    rw [← hos, List.getElem?_map] at h
    obtain ⟨o, ho, he⟩ := Option.map_eq_some_iff.1 h
    obtain ⟨o1, X', d'⟩ := o
    simp only at he
    subst he
    exact ⟨X', d', ho⟩
  obtain ⟨X', d', hok⟩ := hok
  have hto := htx _ (List.mem_of_getElem? hok)
  simp only [gx1.out] at hto
  have hkl : k < os.length := (List.getElem?_eq_some_iff.1 hok).1
  have cell2 : w2.cell? ⟨g, k * 4 + 2, none⟩ = some (.slice X' q d') := by
    rw [hown.cellAt _ (by omega), flat_at os k 2 _ (.slice X' q d') hok (by simp [row4, gx1.out]) (by omega)]
  have htur := turned_any X' q d' txt p m gx1.out gtb.out (by omega) hm32 gfb.out hp8 w2 hto.2.reads
  obtain ⟨cs, hblk⟩ : ∃ cs, Blk w2 g 37 cs := by
    rcases hown.2 with ⟨h, _⟩ | ⟨g', cap', cur, h', _, hh, _⟩
    · cases h
    · injection h' with h' _ _
      injection h' with h'
      injection h' with h' _ _
      subst h'
      exact ⟨cur, hh⟩
  clear htwin hfit a0 a1 a2 a3 hb2
  go_wp2_with fail
  refine htur.mono ?_
  rintro en w3 ⟨Xn, dn', rfl, hnd, hXn, hb3⟩
  have own3 := own_below hown hb3
  have blk3 := hblk.below hb3 hgl
  have f3 := blk3.frozen
  have c2 : w3.cell? ⟨g, k * 4 + 2, none⟩ = some (.slice X' q d') := (hb3.cell (p := ⟨g, k * 4 + 2, none⟩) hgl).trans cell2
  have c3 : w3.cell? ⟨g, k * 4 + 3, none⟩ = some (.bool false) := by
    rw [own3.cellAt _ (by omega), flat_at os k 3 _ (.bool false) hok rfl (by omega)]
  have f32 := f3 (k * 4 + 2)
  have f33 := f3 (k * 4 + 3)
  have htl : (turned txt p m).length = q := by unfold turned; rw [turnBy_len, gx1.out]
  have own4 := (own3.stored (k * 4 + 2) (.slice Xn q dn')).1
  rw [flat_set os k 2 _ (⟨num, dn, turned txt p m, false⟩, Xn, dn') _ hok (by simp [row4, htl]) (by omega)] at own4
  have hok4 : (os.set k (⟨num, dn, turned txt p m, false⟩, Xn, dn'))[k]? = some (⟨num, dn, turned txt p m, false⟩, Xn, dn') := by
    rw [List.getElem?_set_self hkl]
  have own5 := (own4.stored (k * 4 + 3) (.bool true)).1
  rw [flat_set _ k 3 _ (⟨num, dn, turned txt p m, true⟩, Xn, dn') _ hok4 (by simp [row4]) (by omega), List.set_set] at own5
  have blk4 := blk3.set_ (k * 4 + 2) (.slice Xn q dn')
  have htx5 : ∀ o ∈ os.set k (⟨num, dn, turned txt p m, true⟩, Xn, dn'), o.1.txt.length ≤ o.2.2 ∧ OwnR ((w3.setCell ⟨g, k * 4 + 2, none⟩ (.slice Xn q dn')).setCell ⟨g, k * 4 + 3, none⟩ (.bool true)) w1.heap.size 5 o.2.1 o.1.txt.length (ints .u8 o.1.txt) := by
    intro o ho
    rcases List.mem_or_eq_of_mem_set ho with h | h
    · exact ⟨(htx o h).1, (((htx o h).2.below hb3).set_other blk3 (by decide) _ _).set_other blk4 (by decide) _ _⟩
    · subst h
      simp only [htl]
      exact ⟨hnd, ((hXn.base_le (by have := hgl; have := hb1.size; omega)).set_other blk3 (by decide) _ _).set_other blk4 (by decide) _ _⟩
  have hcps := rows_cps own5 htx5
  have hmap : (os.set k (⟨num, dn, turned txt p m, true⟩, Xn, dn')).map (·.1) = l.set k ⟨num, dn, turned txt p m, true⟩ := by rw [List.map_set, hos]
  rw [hmap] at hcps
  have hB3 := hB2.trans (hb3.mono hB2.size)
  have hgw : w.heap.size ≤ g := by have := hb1.size; omega
  have hB5 := (hB3.setCell (p := ⟨g, k * 4 + 2, none⟩) hgw (.slice Xn q dn')).setCell (p := ⟨g, k * 4 + 3, none⟩) hgw (.bool true)
  have gcps := Lib.hid hcps
  have hlen : (l.set k (⟨num, dn, turned txt p m, true⟩ : Cp)).length = n := by rw [List.length_set, gln.out]
  have ghl := Lib.hid hlen
  clear hcps own5 own4 own3 htx5 hmap hok4 blk4 blk3 hblk hown htx hos cell2 htur hto hok f3 hXn hB3 hB2 hlen htl
  go_wp2
  go_ret2
  exact ⟨_, _, by simp only [ghl.out]; rfl, by simp only [ghl.out]; exact gcps.out, hB5⟩
end Go.Proofs.YtbiodoeimbfbnaaDoor
