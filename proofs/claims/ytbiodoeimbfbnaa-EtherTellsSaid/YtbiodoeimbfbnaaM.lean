/- Ether: the program's Send. -/
import Derived.Test.YtbiodoeimbfbnaaJ
namespace Go.Proofs.Ytbiodoeimbfbnaa
open Go.ChangeShapes Go.WideShapes Go.ChangeAt Go.RowKit
set_option linter.unusedSimpArgs false
set_option linter.unusedVariables false
/-- What sending answers. -/
def sndS (l : List Cp) (c : Cp) : List Cp × Int :=
  if chkE l = 0 then (if mayOf c = true then (if l.length = 16 then ([], 9) else (l ++ [c], 0)) else ([], 8)) else ([], chkE l)
theorem snd_err {l : List Cp} {c : Cp} {E : Int} (h : chkE l = E) (h0 : E ≠ 0) : sndS l c = ([], E) := by
  unfold sndS
  rw [if_neg (by rw [h]; exact h0), h]
theorem snd_bad {l : List Cp} {c : Cp} (h : chkE l = 0) (h0 : mayOf c = false) : sndS l c = ([], 8) := by
  unfold sndS
  rw [if_pos h, if_neg (by rw [h0]; decide)]
theorem snd_full {l : List Cp} {c : Cp} (h : chkE l = 0) (h0 : mayOf c = true) (h1 : l.length = 16) : sndS l c = ([], 9) := by
  unfold sndS
  rw [if_pos h, if_pos h0, if_pos h1]
theorem snd_ok {l : List Cp} {c : Cp} (h : chkE l = 0) (h0 : mayOf c = true) (h1 : l.length ≠ 16) : sndS l c = (l ++ [c], 0) := by
  unfold sndS
  rw [if_pos h, if_pos h0, if_neg h1]
/-- A row of one copy, laid anew. -/
theorem one_cps {w : World} {num dn : Int} {txt : List Nat} {sp : Bool} {X : Option Addr} {m d : Nat} (hm : txt.length = m) (hd : m ≤ d) (hX : Reads w w.heap.size 1 X m (ints .u8 txt)) :
    Cps (w.alloc (.cells #[.int .i64 num, .int .i64 dn, .slice X m d, .bool sp] 25)) (w.heap.size + 1) (some ⟨w.heap.size, 0, none⟩) 1 [⟨num, dn, txt, sp⟩] := by
  have kb := Blk.new w 25 #[.int .i64 num, .int .i64 dn, .slice X m d, .bool sp]
  refine ⟨rfl, fun _ => ⟨_, rfl, Nat.lt_succ_self _, fun i r hr j f hf => ?_⟩⟩
  match i, hr with
  | i + 1, hr => simp at hr
  | 0, hr =>
    injection hr with hr
    subst hr
    match j, hf with
    | 0, hf => injection hf with hf; subst hf; exact kb.cell 0
    | 1, hf => injection hf with hf; subst hf; exact kb.cell 1
    | 2, hf => injection hf with hf; subst hf; exact ⟨X, m, d, hm, hd, (hX.below ((Below.refl _ _).alloc (Nat.le_refl _) _)).more (Nat.le_succ _), kb.cell 2⟩
    | 3, hf => injection hf with hf; subst hf; exact kb.cell 3
    | j + 4, hf => simp [fds] at hf
/-- Two lists, one behind the other. -/
theorem joined2_any (LA A A2 : Option Addr) (n n2 c c2 nc : Nat) (l l2 : List Cp) (hn : n ≤ 1000) (hn2 : n2 ≤ 1000) (ht : ∀ x ∈ l, x.txt.length ≤ 10000) (ht2 : ∀ x ∈ l2, x.txt.length ≤ 10000) (w : World) (hL : Reads w w.heap.size 1 LA 2 [.slice A n c, .slice A2 n2 c2]) (h1 : Cps w w.heap.size A n l) (h2 : Cps w w.heap.size A2 n2 l2) :
    Calls Try.prog 22 #[.slice LA 2 nc] w fun en w' => ∃ Ao co, en = .returned (.slice Ao (n + n2) co) ∧ TwPost w (n + n2) (l ++ l2) Ao co w' := by
  have e : flat [(A, n, c, l), (A2, n2, c2, l2)] = l ++ l2 := by simp [flat]
  have := joined_any LA 2 nc [(A, n, c, l), (A2, n2, c2, l2)] (by omega) (n + n2) (by rw [e, List.length_append, cps_len h1, cps_len h2]) (by omega) (by
    intro t h x hx
    rcases List.mem_cons.1 h with rfl | h
    · exact ht x hx
    · rcases List.mem_cons.1 h with rfl | h
      · exact ht2 x hx
      · cases h) w hL (by
    intro t h
    rcases List.mem_cons.1 h with rfl | h
    · exact ⟨by simp only; omega, h1⟩
    · rcases List.mem_cons.1 h with rfl | h
      · exact ⟨by simp only; omega, h2⟩
      · cases h)
  rw [e] at this
  exact this
set_option maxRecDepth 100000 in
set_option maxHeartbeats 8000000 in
theorem send_any (A : Option Addr) (n c : Nat) (l : List Cp) (hn : n ≤ 1000) (num dn : Int) (txt : List Nat) (sp : Bool) (X : Option Addr) (m d : Nat) (hm : txt.length = m) (hd : m ≤ d) (w : World) (h1 : Cps w w.heap.size A n l) (hX : Reads w w.heap.size 1 X m (ints .u8 txt)) :
    Calls Try.prog 6 #[.slice A n c, .agg #[.int .i64 num, .int .i64 dn, .slice X m d, .bool sp]] w (SpOwn w (sndS l ⟨num, dn, txt, sp⟩)) := by
  have ln := cps_len h1
  obtain ⟨E, hE⟩ : ∃ E, chkE l = E := ⟨_, rfl⟩
  have hA := (Below.refl w.heap.size w).alloc (Nat.le_refl _) (.cells #[.int .i64 num, .int .i64 dn, .slice X m d, .bool sp] 25)
  have kb := Blk.new w 25 #[.int .i64 num, .int .i64 dn, .slice X m d, .bool sp]
  have hck := check_any A n c l (by omega) E hE _ ((h1.below hA).more hA.size)
  by_cases hE0 : E = 0
  rotate_left
  · rw [snd_err hE hE0]
    have t1 : (E != 0) = true := bne_iff_ne.2 hE0
    clear hE hE0 h1 ln hX hm hd
    go_enter Try.func6, Try.ntmps6
    go_wp2_with fail
    refine hck.mono ?_
    rintro en w1 ⟨rfl, hc1⟩
    have hb1 := hA.trans (hc1.mono hA.size)
    have kb1 := kb.below hc1 kb.lt
    have cb0 := kb1.cell 0
    have cb1 := kb1.cell 1
    have cb2 := kb1.cell 2
    have cb3 := kb1.cell 3
    simp at cb0 cb1 cb2 cb3
    go_wp2
    go_ret2
    exact spo_nil hb1 E
  subst hE0
  obtain ⟨M, hM⟩ : ∃ M, mayC num dn m = M := ⟨_, rfl⟩
  have hmy := fun w' => may_any num dn X m d sp M hM w'
  have hM' : mayOf ⟨num, dn, txt, sp⟩ = M := by unfold mayOf; simp only [hm]; exact hM
  cases M with
  | false =>
    rw [snd_bad hE hM']
    clear hE h1 ln hX hM hM' hm hd
    go_enter Try.func6, Try.ntmps6
    go_wp2_with fail
    refine hck.mono ?_
    rintro en w1 ⟨rfl, hc1⟩
    have hb1 := hA.trans (hc1.mono hA.size)
    have kb1 := kb.below hc1 kb.lt
    have cb0 := kb1.cell 0
    have cb1 := kb1.cell 1
    have cb2 := kb1.cell 2
    have cb3 := kb1.cell 3
    simp at cb0 cb1 cb2 cb3
    go_wp2_with fail
    refine (hmy _).mono ?_
    rintro en w2 ⟨rfl, hb2⟩
    have kb2 := kb1.below hb2 kb1.lt
    have ce0 := kb2.cell 0
    have ce1 := kb2.cell 1
    have ce2 := kb2.cell 2
    have ce3 := kb2.cell 3
    simp at ce0 ce1 ce2 ce3
    clear kb1 cb0 cb1 cb2 cb3
    have hb := hb1.trans (hb2.mono hb1.size)
    go_wp2
    go_ret2
    exact spo_nil hb 8
  | true =>
    by_cases h16 : n = 16
    · rw [snd_full hE hM' (by rw [ln]; exact h16)]
      subst h16
      clear hE h1 ln hX hM hM' hm hd
      go_enter Try.func6, Try.ntmps6
      go_wp2_with fail
      refine hck.mono ?_
      rintro en w1 ⟨rfl, hc1⟩
      have hb1 := hA.trans (hc1.mono hA.size)
      have kb1 := kb.below hc1 kb.lt
      have cb0 := kb1.cell 0
      have cb1 := kb1.cell 1
      have cb2 := kb1.cell 2
      have cb3 := kb1.cell 3
      simp at cb0 cb1 cb2 cb3
      go_wp2_with fail
      refine (hmy _).mono ?_
      rintro en w2 ⟨rfl, hb2⟩
      have kb2 := kb1.below hb2 kb1.lt
      have ce0 := kb2.cell 0
      have ce1 := kb2.cell 1
      have ce2 := kb2.cell 2
      have ce3 := kb2.cell 3
      simp at ce0 ce1 ce2 ce3
      clear kb1 cb0 cb1 cb2 cb3
      have hb := hb1.trans (hb2.mono hb1.size)
      go_wp2
      go_ret2
      exact spo_nil hb 9
    · rw [snd_ok hE hM' (by rw [ln]; exact h16)]
      have t16 : ((n : Int) == 16) = false := beq_eq_false_iff_ne.2 (by omega)
      have htx : ∀ x ∈ l, x.txt.length ≤ 10000 := fun x hx => by have := chk_txt hE hx; omega
      have htc : m ≤ 10000 := by unfold mayC at hM; simp only [decide_eq_true_eq] at hM; omega
      clear hE hM hM'
      go_enter Try.func6, Try.ntmps6
      go_wp2_with fail
      refine hck.mono ?_
      rintro en w1 ⟨rfl, hc1⟩
      have hb1 := hA.trans (hc1.mono hA.size)
      have kb1 := kb.below hc1 kb.lt
      have cb0 := kb1.cell 0
      have cb1 := kb1.cell 1
      have cb2 := kb1.cell 2
      have cb3 := kb1.cell 3
      simp at cb0 cb1 cb2 cb3
      go_wp2_with fail
      refine (hmy _).mono ?_
      rintro en w2 ⟨rfl, hb2⟩
      have kb2 := kb1.below hb2 kb1.lt
      have ce0 := kb2.cell 0
      have ce1 := kb2.cell 1
      have ce2 := kb2.cell 2
      have ce3 := kb2.cell 3
      simp at ce0 ce1 ce2 ce3
      clear kb1 cb0 cb1 cb2 cb3
      have hb := hb1.trans (hb2.mono hb1.size)
      clear hb1 hb2 hck hmy
      have h2 := (h1.below hb).more hb.size
      have hX2 := (hX.below hb).more hb.size
      go_wp2_with fail
      obtain ⟨V1, hV1⟩ : ∃ V, V = w2.alloc (.cells #[.int .i64 num, .int .i64 dn, .slice X m d, .bool sp] 25) := ⟨_, rfl⟩
      have o1 := one_cps (num := num) (dn := dn) (sp := sp) hm hd hX2
      have sz1 : V1.heap.size = w2.heap.size + 1 := by rw [hV1, World.size_alloc]
      have b1 : Below w2.heap.size w2 V1 := by rw [hV1]; exact (Below.refl _ _).alloc (Nat.le_refl _) _
      rw [← hV1] at o1 ⊢
      rw [← sz1] at o1 ⊢
      obtain ⟨V2, hV2⟩ : ∃ V, V = V1.alloc (.cells #[.slice A n c, .slice (some ⟨w2.heap.size, 0, none⟩) 1 1] 22) := ⟨_, rfl⟩
      have rl := reads_new V1 [.slice A n c, .slice (some ⟨w2.heap.size, 0, none⟩) 1 1] 22 2 rfl
      have b2 : Below V1.heap.size V1 V2 := by rw [hV2]; exact (Below.refl _ _).alloc (Nat.le_refl _) _
      have rl2 : Reads V2 V2.heap.size 1 (some ⟨V1.heap.size, 0, none⟩) 2 [.slice A n c, .slice (some ⟨w2.heap.size, 0, none⟩) 1 1] := by rw [hV2, World.size_alloc]; exact rl
      rw [← hV2]
      have o2 := (o1.below b2).more b2.size
      have h3 := ((h2.below b1).more b1.size).below b2
      have hb3 := hb.trans (b1.mono hb.size)
      have hb4 := hb3.trans (b2.mono hb3.size)
      clear hV1 hV2 rl o1 b1 kb2 ce0 ce1 ce2 ce3
      refine (joined2_any _ A (some ⟨w2.heap.size, 0, none⟩) n 1 c 1 2 l [⟨num, dn, txt, sp⟩] hn (by omega) htx (by intro x hx; have := List.mem_singleton.1 hx; subst this; simp only; omega) V2 rl2 (h3.more b2.size) o2).mono ?_
      rintro en w3 ⟨Ao, co, rfl, hco, hcps, hwr, hb5, hacc⟩
      have hb6 := hb4.trans (hb5.mono hb4.size)
      have hw3 := hwr.mono (S' := fun g => w.heap.size ≤ g ∧ g < w3.heap.size) (fun g h => ⟨Nat.le_trans hb4.size h.1, h.2⟩)
      clear hacc hwr o2 h3 h1 h2 rl2
      go_wp2
      go_ret2
      refine ⟨Ao, co, by rw [List.length_append, ln]; rfl, ?_⟩
      simp only [List.length_append, ln, List.length_cons, List.length_nil]
      exact ⟨hco, hcps, hw3, hb6⟩
end Go.Proofs.Ytbiodoeimbfbnaa
