/- Flight: the reference's copies of entries -/
import Derived.Test.YtdmjdpaehnhdoaaDoorLAB
import Derived.Deep.QuietTactic
import Derived.BigQuiet
namespace Go.Proofs.YtdmjdpaehnhdoaaDoor
open Go.ChangeShapes Go.WideShapes Go.ChangeAt Go.RowKit
set_option linter.unusedSimpArgs false
set_option linter.unusedVariables false
/-- Entries that are answered, in new memory. -/
def TwE (w : World) (m : Nat) (l : List En) (A : Option Addr) (c : Nat) (w' : World) : Prop :=
  m ≤ c ∧ Ens w' w'.heap.size A m l ∧ Wr w' (fun g => w.heap.size ≤ g ∧ g < w'.heap.size) 48 15 A m (l.map fdsE) ∧ Below w.heap.size w w' ∧ AccE w' w.heap.size (.slice A m c) m l
set_option maxHeartbeats 2000000 in
theorem accE_done {w w' : World} {A : Option Addr} {r c : Nat} {l : List En} (h : AccE w' w.heap.size (.slice A r c) r l) (hB : Below w.heap.size w w') : TwE w r l A c w' := by
  have hacc := h
  obtain ⟨os, rfl, ho, ht⟩ := h
  have hlen : os.length = r := by
    have h1 := ho.1
    rw [flat15_len] at h1
    omega
  have hcap : r ≤ c := by
    rcases ho.2 with ⟨h1, h⟩ | ⟨_, _, _, h, _, _, h3, _⟩
    · injection h1 with _ h1 _
      omega
    · injection h with _ h _ <;> omega
  refine ⟨hcap, ⟨by simp [hlen], fun h0 => ?_⟩, ⟨by simp [hlen], fun h0 => ?_⟩, hB, hacc⟩
  · obtain ⟨ad, e, hb, hc⟩ := (Reads.of_own ho).2 h0
    refine ⟨ad, e, hb, fun i r' hr j f hf => ?_⟩
    rw [List.map_map, List.getElem?_map] at hr
    obtain ⟨o, hoo, rfl⟩ := Option.map_eq_some_iff.1 hr
    have hto := ht o (List.mem_of_getElem? hoo)
    match j, hf with
    | 0, hf => injection hf with hf; subst hf; exact hc _ _ (flat15_at os i 0 o _ hoo rfl (by omega))
    | 1, hf => injection hf with hf; subst hf; exact hc _ _ (flat15_at os i 1 o _ hoo rfl (by omega))
    | 2, hf => injection hf with hf; subst hf; exact hc _ _ (flat15_at os i 2 o _ hoo rfl (by omega))
    | 3, hf => injection hf with hf; subst hf; exact hc _ _ (flat15_at os i 3 o _ hoo rfl (by omega))
    | 4, hf => injection hf with hf; subst hf; exact ⟨o.X0, _, o.c0, rfl, hto.1.1, hto.1.2.reads, hc _ _ (flat15_at os i 4 o _ hoo rfl (by omega))⟩
    | 5, hf => injection hf with hf; subst hf; exact hc _ _ (flat15_at os i 5 o _ hoo rfl (by omega))
    | 6, hf => injection hf with hf; subst hf; exact hc _ _ (flat15_at os i 6 o _ hoo rfl (by omega))
    | 7, hf => injection hf with hf; subst hf; exact ⟨o.X1, _, o.c1, rfl, hto.2.1.1, hto.2.1.2.reads, hc _ _ (flat15_at os i 7 o _ hoo rfl (by omega))⟩
    | 8, hf => injection hf with hf; subst hf; exact hc _ _ (flat15_at os i 8 o _ hoo rfl (by omega))
    | 9, hf => injection hf with hf; subst hf; exact hc _ _ (flat15_at os i 9 o _ hoo rfl (by omega))
    | 10, hf => injection hf with hf; subst hf; exact ⟨o.X2, _, o.c2, rfl, hto.2.2.1.1, hto.2.2.1.2.reads, hc _ _ (flat15_at os i 10 o _ hoo rfl (by omega))⟩
    | 11, hf => injection hf with hf; subst hf; exact hc _ _ (flat15_at os i 11 o _ hoo rfl (by omega))
    | 12, hf => injection hf with hf; subst hf; exact hc _ _ (flat15_at os i 12 o _ hoo rfl (by omega))
    | 13, hf => injection hf with hf; subst hf; exact ⟨o.X3, _, o.c3, rfl, hto.2.2.2.1, hto.2.2.2.2.reads, hc _ _ (flat15_at os i 13 o _ hoo rfl (by omega))⟩
    | 14, hf => injection hf with hf; subst hf; exact hc _ _ (flat15_at os i 14 o _ hoo rfl (by omega))
    | j + 15, hf => simp [fdsE, fdsM, fdsD] at hf
  · rcases ho.2 with ⟨_, h1⟩ | ⟨g, cap, cur, hv, hb, hh, _, _, _, htk⟩
    · omega
    · injection hv with hA
      have hblk : Blk w' g 48 cur := hh
      refine ⟨g, cur, hA, ⟨hb, hblk.lt⟩, hblk, fun i r' hr j f hf => ?_⟩
      rw [List.map_map, List.getElem?_map] at hr
      obtain ⟨o, hoo, rfl⟩ := Option.map_eq_some_iff.1 hr
      have hto := ht o (List.mem_of_getElem? hoo)
      have hcell : ∀ j v, (row15 o)[j]? = some v → j < 15 → cur[i * 15 + j]? = some v := by
        intro j v hv hj
        have h5 := flat15_at os i j o v hoo hv hj
        rw [← htk, List.getElem?_take] at h5
        split at h5
        · simpa using h5
        · cases h5
      match j, hf with
      | 0, hf => injection hf with hf; subst hf; exact ⟨_, hcell 0 _ rfl (by omega), trivial⟩
      | 1, hf => injection hf with hf; subst hf; exact ⟨_, hcell 1 _ rfl (by omega), trivial⟩
      | 2, hf => injection hf with hf; subst hf; exact ⟨_, hcell 2 _ rfl (by omega), trivial⟩
      | 3, hf => injection hf with hf; subst hf; exact ⟨_, hcell 3 _ rfl (by omega), trivial⟩
      | 4, hf =>
        injection hf with hf; subst hf
        refine ⟨_, hcell 4 _ rfl (by omega), o.X0, _, o.c0, rfl, rfl, fun hm0 => ?_⟩
        obtain ⟨g', cur', e, hg', hb', ht'⟩ := hto.1.2.2 hm0
        refine ⟨g', _, cur', e, ⟨hg', hb'.lt⟩, hb', ?_, by decide⟩
        have h6 := congrArg List.length ht'
        simp only [List.length_take, ints, List.length_map, Array.length_toList] at h6
        omega
      | 5, hf => injection hf with hf; subst hf; exact ⟨_, hcell 5 _ rfl (by omega), trivial⟩
      | 6, hf => injection hf with hf; subst hf; exact ⟨_, hcell 6 _ rfl (by omega), trivial⟩
      | 7, hf =>
        injection hf with hf; subst hf
        refine ⟨_, hcell 7 _ rfl (by omega), o.X1, _, o.c1, rfl, rfl, fun hm0 => ?_⟩
        obtain ⟨g', cur', e, hg', hb', ht'⟩ := hto.2.1.2.2 hm0
        refine ⟨g', _, cur', e, ⟨hg', hb'.lt⟩, hb', ?_, by decide⟩
        have h6 := congrArg List.length ht'
        simp only [List.length_take, ints, List.length_map, Array.length_toList] at h6
        omega
      | 8, hf => injection hf with hf; subst hf; exact ⟨_, hcell 8 _ rfl (by omega), trivial⟩
      | 9, hf => injection hf with hf; subst hf; exact ⟨_, hcell 9 _ rfl (by omega), trivial⟩
      | 10, hf =>
        injection hf with hf; subst hf
        refine ⟨_, hcell 10 _ rfl (by omega), o.X2, _, o.c2, rfl, rfl, fun hm0 => ?_⟩
        obtain ⟨g', cur', e, hg', hb', ht'⟩ := hto.2.2.1.2.2 hm0
        refine ⟨g', _, cur', e, ⟨hg', hb'.lt⟩, hb', ?_, by decide⟩
        have h6 := congrArg List.length ht'
        simp only [List.length_take, ints, List.length_map, Array.length_toList] at h6
        omega
      | 11, hf => injection hf with hf; subst hf; exact ⟨_, hcell 11 _ rfl (by omega), trivial⟩
      | 12, hf => injection hf with hf; subst hf; exact ⟨_, hcell 12 _ rfl (by omega), trivial⟩
      | 13, hf =>
        injection hf with hf; subst hf
        refine ⟨_, hcell 13 _ rfl (by omega), o.X3, _, o.c3, rfl, rfl, fun hm0 => ?_⟩
        obtain ⟨g', cur', e, hg', hb', ht'⟩ := hto.2.2.2.2.2 hm0
        refine ⟨g', _, cur', e, ⟨hg', hb'.lt⟩, hb', ?_, by decide⟩
        have h6 := congrArg List.length ht'
        simp only [List.length_take, ints, List.length_map, Array.length_toList] at h6
        omega
      | 14, hf => injection hf with hf; subst hf; exact ⟨_, hcell 14 _ rfl (by omega), trivial⟩
      | j + 15, hf => simp [fdsE, fdsM, fdsD] at hf
theorem infoE : (Tryd.prog.info? 48).map (fun i => (i.zero, i.size, i.bytes)) = some (some (.agg #[.int .i64 0, .int .i64 0, .int .i64 0, .bool false, .slice none 0 0, .int .i64 0, .bool false, .slice none 0 0, .int .i64 0, .bool false, .slice none 0 0, .int .i64 0, .bool false, .slice none 0 0, .int .i64 0]), 15, 184) := by kernel_rfl
theorem one15 (nu ep cp : Int) (ag0 : Bool) (aX0 : Option Addr) (an0 ac0 : Nat) (ae0 : Int) (ag1 : Bool) (aX1 : Option Addr) (an1 ac1 : Nat) (ae1 : Int) (ag2 : Bool) (aX2 : Option Addr) (an2 ac2 : Nat) (ae2 : Int) (ag3 : Bool) (aX3 : Option Addr) (an3 ac3 : Nat) (ae3 : Int) : ∀ u ∈ [Value.int .i64 nu, .int .i64 ep, .int .i64 cp, .bool ag0, .slice aX0 an0 ac0, .int .i64 ae0, .bool ag1, .slice aX1 an1 ac1, .int .i64 ae1, .bool ag2, .slice aX2 an2 ac2, .int .i64 ae2, .bool ag3, .slice aX3 an3 ac3, .int .i64 ae3], u.oneCell' = true := by
  intro u hu
  simp only [List.mem_cons, List.not_mem_nil, or_false] at hu
  rcases hu with rfl | rfl | rfl | rfl | rfl | rfl | rfl | rfl | rfl | rfl | rfl | rfl | rfl | rfl | rfl <;> rfl
theorem accE_slice {w : World} {base r : Nat} {v : Value} {l : List En} (h : AccE w base v r l) : ∃ A c, v = .slice A r c := by
  obtain ⟨os, _, ho, _⟩ := h
  obtain ⟨A, c, e, _⟩ := own_slice ho
  exact ⟨A, c, e⟩
theorem take_more {α : Type} {l : List α} {k : Nat} {c : α} (h : l[k]? = some c) : l.take k ++ [c] = l.take (k + 1) := by
  rw [List.take_succ_eq_append_getElem (List.getElem?_eq_some_iff.1 h).1, (List.getElem?_eq_some_iff.1 h).2]
set_option maxRecDepth 100000 in
set_option maxHeartbeats 8000000 in
theorem retwin_any (A : Option Addr) (n c : Nat) (l : List En) (hm : n ≤ 10000) (hs1 : ∀ x ∈ l, smM x.give) (w : World) (h1 : Ens w w.heap.size A n l) :
    Calls Tryd.prog 8 #[.slice A n c] w fun en w' => ∃ Ao co, en = .returned (.slice Ao n co) ∧ TwE w n l Ao co w' := by
  obtain ⟨i0, hi0, hz0, hz1, hz2⟩ := info_parts infoE
  have gln := Lib.hid (ens_len h1)
  have gs1 := Lib.hid hs1
  have hB0 := Below.refl w.heap.size w
  clear hs1
  go_enter Tryd.func8, Tryd.ntmps8
  go_wp2
  go_loopw [3, 4] (fun o t wr => ∃ (k r : Nat) (Ac : Option Addr) (cc : Nat), k ≤ n ∧ r = k ∧ t = .int .i64 (k : Int) ∧ o = .slice Ac r cc ∧ Hid (AccE wr w.heap.size (.slice Ac r cc) r (l.take k)) ∧ Below w.heap.size w wr) (fun _ t _ => n - (intOf t).toNat)
  case atStart => exact ⟨0, 0, none, 0, Nat.zero_le _, rfl, rfl, rfl, Lib.hid (accE_nil _ _), hB0⟩
  case round =>
    clear hB0
    obtain ⟨k, r, Ac, cc, hk, hrk, rfl, rfl, hA, hB⟩ := hrel
    have grk := Lib.hid hrk
    have hr : r ≤ 10000 := by omega
    clear hrk
    by_cases hlt : k < n
    · obtain ⟨ad, nu, ep, cp, ag0, aX0, an0, ac0, ae0, ag1, aX1, an1, ac1, ae1, ag2, aX2, an2, ac2, ae2, ag3, aX3, an3, ac3, ae3, m, rfl, hab, hl1, hrd, hrel1⟩ := ens_rel h1 hlt
      obtain ⟨hrr, z0, z1, z2, z3, z4, z5, z6, z7, z8, z9, z10, z11, z12, z13, z14⟩ := hrel1 wr hB
      have hB1 : Below wr.heap.size wr (wr.alloc (.cells #[.int .i64 nu, .int .i64 ep, .int .i64 cp, .bool ag0, .slice aX0 an0 ac0, .int .i64 ae0, .bool ag1, .slice aX1 an1 ac1, .int .i64 ae1, .bool ag2, .slice aX2 an2 ac2, .int .i64 ae2, .bool ag3, .slice aX3 an3 ac3, .int .i64 ae3] 48)) := (Below.refl _ _).alloc (Nat.le_refl _) _
      have hc := rmtwin_any ag0 aX0 an0 ac0 ae0 ag1 aX1 an1 ac1 ae1 ag2 aX2 an2 ac2 ae2 ag3 aX3 an3 ac3 ae3 m (gs1.out _ (List.mem_of_getElem? hl1)) _ (hrr.below hB1 hB1.size)
      have kb := Blk.new wr 48 #[.int .i64 nu, .int .i64 ep, .int .i64 cp, .bool ag0, .slice aX0 an0 ac0, .int .i64 ae0, .bool ag1, .slice aX1 an1 ac1, .int .i64 ae1, .bool ag2, .slice aX2 an2 ac2, .int .i64 ae2, .bool ag3, .slice aX3 an3 ac3, .int .i64 ae3]
      have i1 : (0 : Int) ≤ k := by omega
      have i2 : (k : Int) < n := by omega
      have gts := Lib.hid (take_more hl1)
      clear hrel1 h1 hl1 hB1 hrr kb
      go_wp2_with fail
      refine hc.mono ?_
      rintro en w2 ⟨X0, c0, X1, c1, X2, c2, X3, c3, rfl, i0, i1, i2, i3, hb2⟩
      obtain ⟨k2, k3, hBs, os, o, hos, hox, hor, hown, hto, hoo⟩ := boxedE hB hA.out hrd hb2 i0 i1 i2 i3
      have gho := Lib.hid (And.intro hos (And.intro hox hor))
      obtain ⟨W3, hW3⟩ : ∃ W3, W3 = (((((((((((w2.setCell ⟨wr.heap.size, 3, none⟩ (.bool ag0)).setCell ⟨wr.heap.size, 4, none⟩ (.slice X0 an0 c0)).setCell ⟨wr.heap.size, 5, none⟩ (.int .i64 ae0)).setCell ⟨wr.heap.size, 6, none⟩ (.bool ag1)).setCell ⟨wr.heap.size, 7, none⟩ (.slice X1 an1 c1)).setCell ⟨wr.heap.size, 8, none⟩ (.int .i64 ae1)).setCell ⟨wr.heap.size, 9, none⟩ (.bool ag2)).setCell ⟨wr.heap.size, 10, none⟩ (.slice X2 an2 c2)).setCell ⟨wr.heap.size, 11, none⟩ (.int .i64 ae2)).setCell ⟨wr.heap.size, 12, none⟩ (.bool ag3)).setCell ⟨wr.heap.size, 13, none⟩ (.slice X3 an3 c3)).setCell ⟨wr.heap.size, 14, none⟩ (.int .i64 ae3) := ⟨_, rfl⟩
      rw [← hW3] at k3 hBs hown hto hoo
      have gto := Lib.hid (And.intro hto hoo)
      have gown := Lib.hid hown
      have gW3 := Lib.hid hW3
      have y0 := k2.cell 0
      have y1 := k2.cell 1
      have y2 := k2.cell 2
      have y3 := k2.cell 3
      have y4 := k2.cell 4
      have y5 := k2.cell 5
      have y6 := k2.cell 6
      have y7 := k2.cell 7
      have y8 := k2.cell 8
      have y9 := k2.cell 9
      have y10 := k2.cell 10
      have y11 := k2.cell 11
      have y12 := k2.cell 12
      have y13 := k2.cell 13
      have y14 := k2.cell 14
      simp only [lgA, lgZ, lgS] at y0 y1 y2 y3 y4 y5 y6 y7 y8 y9 y10 y11 y12 y13 y14
      have yf0 := k2.frozen 0
      have yf1 := k2.frozen 1
      have yf2 := k2.frozen 2
      have yf3 := k2.frozen 3
      have yf4 := k2.frozen 4
      have yf5 := k2.frozen 5
      have yf6 := k2.frozen 6
      have yf7 := k2.frozen 7
      have yf8 := k2.frozen 8
      have yf9 := k2.frozen 9
      have yf10 := k2.frozen 10
      have yf11 := k2.frozen 11
      have yf12 := k2.frozen 12
      have yf13 := k2.frozen 13
      have yf14 := k2.frozen 14
      have q0 := k3.cell 0
      have q1 := k3.cell 1
      have q2 := k3.cell 2
      have q3 := k3.cell 3
      have q4 := k3.cell 4
      have q5 := k3.cell 5
      have q6 := k3.cell 6
      have q7 := k3.cell 7
      have q8 := k3.cell 8
      have q9 := k3.cell 9
      have q10 := k3.cell 10
      have q11 := k3.cell 11
      have q12 := k3.cell 12
      have q13 := k3.cell 13
      have q14 := k3.cell 14
      simp only [lgA, lgZ, lgS] at q0 q1 q2 q3 q4 q5 q6 q7 q8 q9 q10 q11 q12 q13 q14
      have hsz := hb2.size
      have hs3 : Hid (wr.heap.size < W3.heap.size) := Lib.hid k3.lt
      clear hA hb2 i0 i1 i2 i3 k2 k3 hc hrd hos hox hor hto hoo hown hW3
      go_upto_region 7 with (fail)
      rw [← gW3.out]
      clear y0 yf0 y1 yf1 y2 yf2 y3 yf3 y4 yf4 y5 yf5 y6 yf6 y7 yf7 y8 yf8 y9 yf9 y10 yf10 y11 yf11 y12 yf12 y13 yf13 y14 yf14 gW3 hsz
      go_wp2_with (at_builtin; refine wpList_push2 rfl (.tmp 20) (.tmp 22) 22 rfl w.heap.size 48 i0 _ 15 184 Tryd.underlying22 hi0 hz0 hz1 hz2 rfl (by omega) hBs (Nat.le_refl _) (.slice Ac r cc) r _ rfl gown.out [.int .i64 nu, .int .i64 ep, .int .i64 cp, .bool ag0, .slice X0 an0 c0, .int .i64 ae0, .bool ag1, .slice X1 an1 c1, .int .i64 ae1, .bool ag2, .slice X2 an2 c2, .int .i64 ae2, .bool ag3, .slice X3 an3 c3, .int .i64 ae3] rfl (one15 _ _ _ _ _ _ _ _ _ _ _ _ _ _ _ _ _ _ _ _ _ _ _) rfl (by unfold maxLen; omega) (by omega) ?_; intro v5 w5 ho5 hb5 hk5; rw [← gho.out.2.2] at ho5; have hA5 := accE_push gown.out gto.out.1 gto.out.2 ho5 hk5; rw [gho.out.1, gho.out.2.1] at hA5; obtain ⟨A5, c5, rfl⟩ := accE_slice hA5; clear gown ho5 hk5 gto hBs gho)
      have gA5 : Hid (AccE w5 w.heap.size (.slice A5 (r + 1) c5) (r + 1) (l.take (k + 1))) := Lib.hid (by rw [← gts.out]; exact hA5)
      clear hA5
      go_roundw
      case rel => exact ⟨k + 1, r + 1, A5, c5, by omega, by rw [grk.out], by go_num, rfl, gA5, hb5⟩
      case measure => simp [intOf] <;> omega
    · obtain rfl : k = n := by omega
      obtain rfl : r = k := grk.out
      have hd := accE_done hA.out hB
      rw [List.take_of_length_le (by rw [gln.out]; exact Nat.le_refl _)] at hd
      have gd := Lib.hid hd
      clear hA hd h1
      go_wp2
      go_ret
      exact ⟨Ac, cc, rfl, gd.out⟩
end Go.Proofs.YtdmjdpaehnhdoaaDoor
