/- Ether: copies made anew: what is collected; joined, the reference's Twin. -/
import Derived.Test.YtbiodoeimbfbnaaC2
namespace Go.Proofs.Ytbiodoeimbfbnaa
open Go.ChangeShapes Go.WideShapes Go.ChangeAt Go.RowKit
set_option linter.unusedSimpArgs false
set_option linter.unusedVariables false
theorem infoC : (Try.prog.info? 25).map (fun i => (i.zero, i.size, i.bytes)) = some (some (.agg #[.int .i64 0, .int .i64 0, .slice none 0 0, .bool false]), 4, 48) := by kernel_rfl
theorem size_set (w : World) (p : Addr) (u : Value) : (w.setCell p u).heap.size = w.heap.size := by simp
def row4 (o : Cp × Option Addr × Nat) : List Value := [.int .i64 o.1.num, .int .i64 o.1.dn, .slice o.2.1 o.1.txt.length o.2.2, .bool o.1.sp]
/-- Where a text lies, if it is not empty. -/
def Lies (o : Cp × Option Addr × Nat) (g : Nat) : Prop := o.2.1 = some ⟨g, 0, none⟩ ∧ 0 < o.1.txt.length
def Sep (os : List (Cp × Option Addr × Nat)) : Prop := os.Pairwise (fun o o' => ∀ g g', Lies o g → Lies o' g' → g < g')
/-- What is collected: a row of the call's own, each text in memory of the call's own, each in a block of its own. -/
def Acc (w : World) (base : Nat) (v : Value) (r : Nat) (l : List Cp) : Prop :=
  ∃ os : List (Cp × Option Addr × Nat), os.map (·.1) = l ∧ w.ownsRow base 25 4 v r (os.flatMap row4) ∧ (∀ o ∈ os, o.1.txt.length ≤ o.2.2 ∧ OwnR w base 5 o.2.1 o.1.txt.length (ints .u8 o.1.txt)) ∧ Sep os
theorem acc_nil (w : World) (base : Nat) : Acc w base (.slice none 0 0) 0 [] := ⟨[], rfl, World.ownsRow_nil _ _ _ _, by simp, List.Pairwise.nil⟩
theorem Acc.below {w w' : World} {base r : Nat} {v : Value} {l : List Cp} (h : Acc w base v r l) (hb : Below w.heap.size w w') : Acc w' base v r l := by
  obtain ⟨os, e, ho, ht, hs⟩ := h
  exact ⟨os, e, own_below ho hb, fun o h => ⟨(ht o h).1, (ht o h).2.below hb⟩, hs⟩
theorem own_blk_ne {w : World} {base size n : Nat} {e : TypeId} {v : Value} {xs : List Value} (h : w.ownsRow base e size v n xs) {g : Nat} {T : TypeId} {cs : Array Value} (hb : Blk w g T cs) (hT : T ≠ e) : v.ownBlock ≠ some g := by
  rcases h.2 with ⟨rfl, rfl⟩ | ⟨b, c, cur, rfl, _, hh, _⟩
  · simp [Value.ownBlock]
  · intro e2
    simp [Value.ownBlock] at e2
    subst e2
    exact (show Blk w b e cur from hh).ne_ hb (Ne.symm hT) rfl
theorem acc_push {w0 w' : World} {base r : Nat} {v v' : Value} {l : List Cp} {num dn : Int} {txt : List Nat} {sp : Bool} {X : Option Addr} {m d : Nat} {os : List (Cp × Option Addr × Nat)} {B0 : Nat} (hm : txt.length = m) (hmd : m ≤ d) (hos : os.map (·.1) = l) (ho : w0.ownsRow base 25 4 v r (os.flatMap row4)) (ht : ∀ o ∈ os, o.1.txt.length ≤ o.2.2 ∧ OwnR w0 base 5 o.2.1 o.1.txt.length (ints .u8 o.1.txt)) (hsep : Sep os) (hlt : ∀ o ∈ os, ∀ g, Lies o g → g < B0) (hX : OwnR w0 B0 5 X m (ints .u8 txt)) (hB0 : base ≤ B0)
    (h1 : w'.ownsRow base 25 4 v' (r + 1) (os.flatMap row4 ++ [.int .i64 num, .int .i64 dn, .slice X m d, .bool sp]))
    (h3 : ∀ b, b < w0.heap.size → v.ownBlock ≠ some b → v'.ownBlock ≠ some b ∧ ∀ t cs, Blk w0 b t cs → Blk w' b t cs) : Acc w' base v' (r + 1) (l ++ [⟨num, dn, txt, sp⟩]) := by
  subst hos
  have keep : ∀ {X : Option Addr} {k : Nat} {xs : List Value}, OwnR w0 base 5 X k xs → OwnR w' base 5 X k xs := by
    intro X k xs hO
    refine ⟨hO.1, fun h0 => ?_⟩
    obtain ⟨g, cur, e, hg, hb, hc⟩ := hO.2 h0
    exact ⟨g, cur, e, hg, (h3 g hb.lt (own_blk_ne ho hb (by decide))).2 _ _ hb, hc⟩
  refine ⟨os ++ [(⟨num, dn, txt, sp⟩, X, d)], by simp, ?_, ?_, ?_⟩
  · rw [List.flatMap_append, List.flatMap_cons, List.flatMap_nil, List.append_nil]
    have e : row4 (⟨num, dn, txt, sp⟩, X, d) = [.int .i64 num, .int .i64 dn, .slice X m d, .bool sp] := by unfold row4; simp only [hm]
    rw [e]
    exact h1
  · intro o hoo
    rcases List.mem_append.1 hoo with h | h
    · exact ⟨(ht o h).1, keep (ht o h).2⟩
    · have : o = (⟨num, dn, txt, sp⟩, X, d) := by simpa using h
      subst this
      simp only [hm]
      exact ⟨hmd, keep (hX.base_le hB0)⟩
  · refine List.pairwise_append.2 ⟨hsep, List.pairwise_singleton _ _, fun o ho o' ho' g g' h1 h2 => ?_⟩
    have : o' = (⟨num, dn, txt, sp⟩, X, d) := by simpa using ho'
    subst this
    obtain ⟨e, h0⟩ := h2
    simp only at e h0
    rw [hm] at h0
    obtain ⟨g2, c2, e2, hg2, _⟩ := hX.2 h0
    rw [e] at e2
    injection e2 with e2
    injection e2 with e2 _ _
    have := hlt o ho g h1
    omega
/-- A copy in a box of its own, its text made anew. -/
theorem boxed {w wr w2 : World} {v : Value} {r : Nat} {l : List Cp} {num dn : Int} {txt : List Nat} {sp : Bool} {X Ao : Option Addr} {m d co : Nat} (hB : Below w.heap.size w wr) (hA : Acc wr w.heap.size v r l)
    (h2 : Below (wr.heap.size + 1) (wr.alloc (.cells #[.int .i64 num, .int .i64 dn, .slice X m d, .bool sp] 25)) w2) (hX : OwnR w2 (wr.heap.size + 1) 5 Ao m (ints .u8 txt)) :
    (w2.cell? ⟨wr.heap.size, 0, none⟩ = some (.int .i64 num) ∧ w2.cell? ⟨wr.heap.size, 1, none⟩ = some (.int .i64 dn) ∧ w2.cell? ⟨wr.heap.size, 2, none⟩ = some (.slice X m d) ∧ w2.cell? ⟨wr.heap.size, 3, none⟩ = some (.bool sp)) ∧ w2.frozen? ⟨wr.heap.size, 2, none⟩ = false ∧ wr.heap.size < w2.heap.size ∧
    Below w.heap.size w (w2.setCell ⟨wr.heap.size, 2, none⟩ (.slice Ao m co)) ∧ OwnR (w2.setCell ⟨wr.heap.size, 2, none⟩ (.slice Ao m co)) (wr.heap.size + 1) 5 Ao m (ints .u8 txt) ∧ w.heap.size ≤ wr.heap.size + 1 ∧
    ∃ os : List (Cp × Option Addr × Nat), os.map (·.1) = l ∧ (w2.setCell ⟨wr.heap.size, 2, none⟩ (.slice Ao m co)).ownsRow w.heap.size 25 4 v r (os.flatMap row4) ∧ (∀ o ∈ os, o.1.txt.length ≤ o.2.2 ∧ OwnR (w2.setCell ⟨wr.heap.size, 2, none⟩ (.slice Ao m co)) w.heap.size 5 o.2.1 o.1.txt.length (ints .u8 o.1.txt)) ∧ Sep os ∧ ∀ o ∈ os, ∀ g, Lies o g → g < wr.heap.size + 1 := by
  have kb := (Blk.new wr 25 #[.int .i64 num, .int .i64 dn, .slice X m d, .bool sp]).below h2 (by omega)
  have hb : Below wr.heap.size wr w2 := ((Below.refl _ _).alloc (Nat.le_refl _) _).trans (h2.mono (by omega))
  have hb2 : Below wr.heap.size wr (w2.setCell ⟨wr.heap.size, 2, none⟩ (.slice Ao m co)) := hb.setCell (p := ⟨wr.heap.size, 2, none⟩) (Nat.le_refl _) _
  have hs := hB.size
  obtain ⟨os, e, ho, ht, hsp⟩ := hA
  refine ⟨⟨kb.cell 0, kb.cell 1, kb.cell 2, kb.cell 3⟩, kb.frozen 2, kb.lt, hB.trans (hb2.mono hs), OwnR.far hX (p := ⟨wr.heap.size, 2, none⟩) (by simp) _, by omega, os, e, own_below ho hb2, fun o h => ⟨(ht o h).1, (ht o h).2.below hb2⟩, hsp, fun o h g hg => ?_⟩
  have := OwnR.lt (ht o h).2 g hg.1 hg.2
  omega
theorem flat_at : ∀ (os : List (Cp × Option Addr × Nat)) (i j : Nat) (o : Cp × Option Addr × Nat) (v : Value), os[i]? = some o → (row4 o)[j]? = some v → j < 4 → (os.flatMap row4)[i * 4 + j]? = some v
  | [], i, j, o, v, h, _, _ => by simp at h
  | x :: r, 0, j, o, v, h, hv, hj => by
    have : x = o := by simpa using h
    subst this
    rw [List.flatMap_cons, List.getElem?_append_left (by simp [row4]; omega), Nat.zero_mul, Nat.zero_add]
    exact hv
  | x :: r, i + 1, j, o, v, h, hv, hj => by
    rw [List.flatMap_cons, List.getElem?_append_right (by simp [row4]; omega)]
    have e : (row4 x).length = 4 := rfl
    rw [e, show (i + 1) * 4 + j - 4 = i * 4 + j by omega]
    exact flat_at r i j o v (by simpa using h) hv hj
/-- Copies that are answered, in new memory. -/
def TwPost (w : World) (m : Nat) (l : List Cp) (A : Option Addr) (c : Nat) (w' : World) : Prop :=
  m ≤ c ∧ Cps w' w'.heap.size A m l ∧ Wr w' (fun g => w.heap.size ≤ g ∧ g < w'.heap.size) 25 4 A m (l.map fds) ∧ Below w.heap.size w w' ∧ Acc w' w.heap.size (.slice A m c) m l
theorem acc_done {w w' : World} {A : Option Addr} {r c : Nat} {l : List Cp} (h : Acc w' w.heap.size (.slice A r c) r l) (hB : Below w.heap.size w w') : TwPost w r l A c w' := by
  have hacc := h
  obtain ⟨os, rfl, ho, ht, hsp⟩ := h
  have hlen : os.length = r := by
    have h1 := ho.1
    have h2 : ∀ os : List (Cp × Option Addr × Nat), (os.flatMap row4).length = os.length * 4 := by
      intro os
      induction os with
      | nil => rfl
      | cons x r ih => rw [List.flatMap_cons, List.length_append, ih, List.length_cons]; simp [row4]; omega
    rw [h2] at h1
    omega
  have hcap : r ≤ c := by
    rcases ho.2 with ⟨h1, h⟩ | ⟨_, _, _, h, _, _, h3, _⟩
    · injection h1 with _ h1 _
      omega
    · injection h with _ h _ <;> omega
  refine ⟨hcap, ⟨by simp [hlen], fun h0 => ?_⟩, ⟨by simp [hlen], fun h0 => ?_⟩, hB, hacc⟩
  · obtain ⟨ad, e, hb, hc⟩ := (Reads.of_own ho).2 h0
    refine ⟨ad, e, hb, fun i r' hr j f hf => ?_⟩
    rw [List.map_map, List.getElem?_map] at hr
    obtain ⟨o, hoo, rfl⟩ := Option.map_eq_some_iff.1 hr
    have hto := ht o (List.mem_of_getElem? hoo)
    match j, hf with
    | 0, hf => injection hf with hf; subst hf; exact hc _ _ (flat_at os i 0 o _ hoo rfl (by omega))
    | 1, hf => injection hf with hf; subst hf; exact hc _ _ (flat_at os i 1 o _ hoo rfl (by omega))
    | 2, hf => injection hf with hf; subst hf; exact ⟨o.2.1, _, o.2.2, rfl, hto.1, hto.2.reads, hc _ _ (flat_at os i 2 o _ hoo rfl (by omega))⟩
    | 3, hf => injection hf with hf; subst hf; exact hc _ _ (flat_at os i 3 o _ hoo rfl (by omega))
    | j + 4, hf => simp [fds] at hf
  · rcases ho.2 with ⟨_, h1⟩ | ⟨g, cap, cur, hv, hb, hh, _, _, _, htk⟩
    · omega
    · injection hv with hA
      have hblk : Blk w' g 25 cur := hh
      refine ⟨g, cur, hA, ⟨hb, hblk.lt⟩, hblk, fun i r' hr j f hf => ?_⟩
      rw [List.map_map, List.getElem?_map] at hr
      obtain ⟨o, hoo, rfl⟩ := Option.map_eq_some_iff.1 hr
      have hto := ht o (List.mem_of_getElem? hoo)
      have hcell : ∀ j v, (row4 o)[j]? = some v → j < 4 → cur[i * 4 + j]? = some v := by
        intro j v hv hj
        have h5 := flat_at os i j o v hoo hv hj
        rw [← htk, List.getElem?_take] at h5
        split at h5
        · simpa using h5
        · cases h5
      match j, hf with
      | 0, hf => injection hf with hf; subst hf; exact ⟨_, hcell 0 _ rfl (by omega), trivial⟩
      | 1, hf => injection hf with hf; subst hf; exact ⟨_, hcell 1 _ rfl (by omega), trivial⟩
      | 2, hf =>
        injection hf with hf; subst hf
        refine ⟨_, hcell 2 _ rfl (by omega), o.2.1, _, o.2.2, rfl, rfl, fun hm0 => ?_⟩
        obtain ⟨g', cur', e, hg', hb', ht'⟩ := hto.2.2 hm0
        refine ⟨g', _, cur', e, ⟨hg', hb'.lt⟩, hb', ?_, by decide⟩
        have h6 := congrArg List.length ht'
        simp only [List.length_take, ints, List.length_map, Array.length_toList] at h6
        omega
      | 3, hf => injection hf with hf; subst hf; exact ⟨_, hcell 3 _ rfl (by omega), trivial⟩
      | j + 4, hf => simp [fds] at hf
theorem one4 (num dn : Int) (X : Option Addr) (m d : Nat) (sp : Bool) : ∀ u ∈ [Value.int .i64 num, .int .i64 dn, .slice X m d, .bool sp], u.oneCell' = true := by
  intro u hu
  simp only [List.mem_cons, List.not_mem_nil, or_false] at hu
  rcases hu with rfl | rfl | rfl | rfl <;> rfl
theorem acc_slice {w : World} {base r : Nat} {v : Value} {l : List Cp} (h : Acc w base v r l) : ∃ A c, v = .slice A r c := by
  obtain ⟨os, _, ho, _, _⟩ := h
  obtain ⟨A, c, e, _⟩ := own_slice ho
  exact ⟨A, c, e⟩
theorem take_more {l : List Cp} {k : Nat} {c : Cp} (h : l[k]? = some c) : l.take k ++ [c] = l.take (k + 1) := by
  rw [List.take_succ_eq_append_getElem (List.getElem?_eq_some_iff.1 h).1, (List.getElem?_eq_some_iff.1 h).2]
set_option maxHeartbeats 8000000 in
theorem rtwin_any (A : Option Addr) (n c : Nat) (l : List Cp) (hm : n ≤ 1000) (hs1 : ∀ x ∈ l, x.txt.length ≤ 10000) (w : World) (h1 : Cps w w.heap.size A n l) :
    Calls Try.prog 5 #[.slice A n c] w fun en w' => ∃ Ao co, en = .returned (.slice Ao n co) ∧ TwPost w n l Ao co w' := by
  obtain ⟨i0, hi0, hz0, hz1, hz2⟩ := info_parts infoC
  obtain ⟨j0, hj0, hy0, hy1, hy2⟩ := info_parts infoU8
  have ln := cps_len h1
  have gln := Lib.hid ln
  have hB0 := Below.refl w.heap.size w
  clear ln
  go_enter Try.func5, Try.ntmps5
  go_wp2
  go_loopw [3, 4] (fun o t wr => ∃ (k r : Nat) (Ac : Option Addr) (cc : Nat), k ≤ n ∧ r = k ∧ t = .int .i64 (k : Int) ∧ o = .slice Ac r cc ∧ Hid (Acc wr w.heap.size (.slice Ac r cc) r (l.take k)) ∧ Below w.heap.size w wr) (fun _ t _ => n - (intOf t).toNat)
  case atStart => exact ⟨0, 0, none, 0, Nat.zero_le _, rfl, rfl, rfl, Lib.hid (acc_nil _ _), hB0⟩
  case round =>
    clear hB0
    obtain ⟨k, r, Ac, cc, hk, hrk, rfl, rfl, hA, hB⟩ := hrel
    have grk := Lib.hid hrk
    have hr : r ≤ 1000 := by omega
    clear hrk
    by_cases hlt : k < n
    · obtain ⟨ad, num, dn, txt, sp, X, m, d, rfl, hb1, hl1, hx1, hxd1, hrel1⟩ := cps_rel h1 hlt
      have q1 : m ≤ 10000 := by have := hs1 _ (List.mem_of_getElem? hl1); simp only at this; omega
      obtain ⟨a0, a1, a2, a3⟩ := (hrel1 wr hB).2
      obtain ⟨W1, hW1⟩ : ∃ W, W = wr.alloc (.cells #[.int .i64 num, .int .i64 dn, .slice X m d, .bool sp] 25) := ⟨_, rfl⟩
      have hB1 : Below wr.heap.size wr W1 := by rw [hW1]; exact (Below.refl _ _).alloc (Nat.le_refl _) _
      have kb : Blk W1 wr.heap.size 25 #[.int .i64 num, .int .i64 dn, .slice X m d, .bool sp] := by rw [hW1]; exact Blk.new _ _ _
      have rX := (hrel1 W1 (hB.trans (hB1.mono hB.size))).1
      have i1 : (0 : Int) ≤ k := by omega
      have i2 : (k : Int) < n := by omega
      have hown0 := owns_new (wr.alloc (.cells #[.int .i64 num, .int .i64 dn, .slice X m d, .bool sp] 25)) (wr.heap.size + 1) (by rw [World.size_alloc]; omega) [] 5 0 rfl (Nat.zero_le _)
      rw [World.size_alloc] at hown0
      have rX2 := rX.alloc (Nat.le_refl _) (.cells #[] 5)
      rw [hW1, World.size_alloc] at rX2
      have hts := take_more hl1
      have gts := Lib.hid hts
      have gx1 := Lib.hid hx1
      clear hrel1 h1 hs1 hl1 hts hx1 hB1 kb rX hW1
      have tok := trivial
      go_wp2_with (first | (at_builtin; refine wpList_append_any _ rfl (.tmp 16) (.tmp 18) 23 rfl (wr.heap.size + 1) 5 j0 _ 1 1 Try.underlying23 hj0 hy0 hy1 hy2 rfl (by omega) (.slice (some ⟨wr.heap.size + 1, 0, none⟩) 0 0) 0 [] rfl hown0 (wr.heap.size + 1) X m d (ints .u8 txt) rfl rX2 (ints_one _ _) (by unfold maxLen; omega) (by omega) (by simp only [World.size_alloc]; omega) ?_; intro v4 w4 ho4 hg4 _; rw [Nat.zero_add, List.nil_append] at ho4; obtain ⟨Ao, co, rfl, hco, _⟩ := own_slice ho4; obtain ⟨⟨kc0, kc1, kc2, kc3⟩, kf, ks, hBs, hXs, hb0, os, hos, hown, htx, hsp, hltt⟩ := boxed (co := co) hB hA.out (Below.grown ((Below.refl _ _).alloc (by rw [World.size_alloc]; omega) (.cells #[] 5)) hg4 (by simp only [World.size_alloc]; omega) (by intro q hq; simp [Value.ownBlock] at hq; omega)) (OwnR.of_row ho4); clear hown0 rX2 a0 a1 a2 a3 hg4 ho4 hA) | (at_builtin; refine wpList_push2 rfl (.tmp 21) (.tmp 23) 22 rfl w.heap.size 25 i0 _ 4 48 Try.underlying22 hi0 hz0 hz1 hz2 rfl (by omega) hBs (Nat.le_refl _) (.slice Ac r cc) r _ rfl hown [.int .i64 num, .int .i64 dn, .slice Ao m co, .bool sp] rfl (one4 _ _ _ _ _ _) (by rw [size_set]; rfl) (by unfold maxLen; omega) (by omega) ?_; intro v5 w5 ho5 hb5 hk5; have hA5 := acc_push gx1.out hco hos hown htx hsp hltt hXs hb0 ho5 hk5; obtain ⟨A5, c5, rfl⟩ := acc_slice hA5; clear hown ho5 hk5 htx hos hBs hsp hltt))
      have gA5 : Hid (Acc w5 w.heap.size (.slice A5 (r + 1) c5) (r + 1) (l.take (k + 1))) := Lib.hid (by rw [← gts.out]; exact hA5)
      clear hA5
      go_roundw
      case rel => exact ⟨k + 1, r + 1, A5, c5, by omega, by rw [grk.out], by go_num, rfl, gA5, hb5⟩
      case measure => simp [intOf] <;> omega
    · obtain rfl : k = n := by omega
      obtain rfl : r = k := grk.out
      have hd := acc_done hA.out hB
      rw [List.take_of_length_le (by rw [gln.out]; exact Nat.le_refl _)] at hd
      have gd := Lib.hid hd
      clear hA hd h1 hs1
      go_wp2
      go_ret
      exact ⟨Ac, cc, rfl, gd.out⟩
end Go.Proofs.Ytbiodoeimbfbnaa
