/- Ether's Door: sending in sure cases; too many copies -/
import Derived.Test.YtbiodoeimbfbnaaDoorQ
import Derived.Deep.QuietTactic
import Derived.BigQuiet
namespace Go.Proofs.YtbiodoeimbfbnaaDoor
open Go.ChangeShapes Go.WideShapes Go.ChangeAt Go.RowKit
set_option linter.unusedSimpArgs false
set_option linter.unusedVariables false
theorem check_many (A : Option Addr) (n c : Nat) (h16 : 16 < n) (w : World) : Calls Tryd.prog 18 #[.slice A n c] w fun en w' => en = .returned (.int .i64 4) ∧ Below w.heap.size w w' := by
  have d1 : decide ((16 : Int) < n) = true := decide_eq_true (by omega)
  have d2 : decide (16 < n) = true := decide_eq_true h16
  go_enter Tryd.func18, Tryd.ntmps18
  go_wp2
  go_ret
  exact ⟨rfl, Below.refl _ _⟩
set_option maxHeartbeats 4000000 in
theorem at_many (A : Option Addr) (n c : Nat) (i : Int) (hn : 16 < n) (w : World) :
    Calls Tryd.prog 21 #[.slice A n c, .int .i64 i] w fun en w' => en = .returned (.tuple #[zeroC, .int .i64 4]) ∧ Below w.heap.size w w' := by
  have hB1 := (Below.refl w.heap.size w).alloc (Nat.le_refl _) (.cells #[.int .i64 0, .int .i64 0, .slice none 0 0, .bool false] 37)
  have hck := check_many A n c hn (w.alloc (.cells #[.int .i64 0, .int .i64 0, .slice none 0 0, .bool false] 37))
  have hk := Blk.new w 37 #[.int .i64 0, .int .i64 0, .slice none 0 0, .bool false]
  go_enter Tryd.func21, Tryd.ntmps21
  go_wp2_with fail
  refine hck.mono ?_
  rintro en w1 ⟨rfl, hb1⟩
  have kb := hk.below hb1 hk.lt
  have hb := hB1.trans (hb1.mono hB1.size)
  have k0 := kb.cell 0
  have k1 := kb.cell 1
  have k2 := kb.cell 2
  have k3 := kb.cell 3
  simp at k0 k1 k2 k3
  have f0 := kb.frozen 0
  have f1 := kb.frozen 1
  have f2 := kb.frozen 2
  have f3 := kb.frozen 3
  have ks := kb.lt
  clear hck hb1 hB1 hk
  go_wp2
  refine bodyPost_ret (v := .tuple #[zeroC, .int .i64 4]) ?_ rfl ⟨rfl, ?_⟩
  · simp [results, Tryd.f21, go_sem, k0, k1, k2, k3, f0, f1, f2, f3]
  · exact ((((hb.setCell (p := ⟨w.heap.size, 0, none⟩) (Nat.le_refl _) _).setCell (p := ⟨w.heap.size, 1, none⟩) (Nat.le_refl _) _).setCell (p := ⟨w.heap.size, 2, none⟩) (Nat.le_refl _) _).setCell (p := ⟨w.heap.size, 3, none⟩) (Nat.le_refl _) _)

set_option maxRecDepth 100000 in
set_option maxHeartbeats 8000000 in
theorem take_many (A : Option Addr) (n c : Nat) (hn : 16 < n) (i : Int) (w : World) :
    Calls Tryd.prog 16 #[.slice A n c, .int .i64 i] w fun en w' => en = .returned (.tuple #[.slice none 0 0, .agg #[.int .i64 0, .int .i64 0, .slice none 0 0, .bool false], .int .i64 4]) ∧ Below w.heap.size w w' := by
  have hA := (Below.refl w.heap.size w).alloc (Nat.le_refl _) (.cells #[.int .i64 0, .int .i64 0, .slice none 0 0, .bool false] 37)
  have kb := Blk.new w 37 #[.int .i64 0, .int .i64 0, .slice none 0 0, .bool false]
  have hat := at_many A n c i hn (w.alloc (.cells #[.int .i64 0, .int .i64 0, .slice none 0 0, .bool false] 37))
  go_enter Tryd.func16, Tryd.ntmps16
  go_wp2_with fail
  refine hat.mono ?_
  rintro en w1 ⟨rfl, hb1⟩
  unfold zeroC
  have hb := hA.trans (hb1.mono hA.size)
  have kb1 := kb.below hb1 kb.lt
  have ce0 := kb1.cell 0
  have ce1 := kb1.cell 1
  have ce2 := kb1.cell 2
  have ce3 := kb1.cell 3
  have cf0 := kb1.frozen 0
  have cf1 := kb1.frozen 1
  have cf2 := kb1.frozen 2
  have cf3 := kb1.frozen 3
  simp at ce0 ce1 ce2 ce3
  have kl := kb1.lt
  have k2 := box4 (box4 kb1 (.int .i64 0) (.int .i64 0) (.slice none 0 0) (.bool false)) (.int .i64 0) (.int .i64 0) (.slice none 0 0) (.bool false)
  have hb2 := box4_below (box4_below hb (Nat.le_refl _) (.int .i64 0) (.int .i64 0) (.slice none 0 0) (.bool false)) (Nat.le_refl _) (.int .i64 0) (.int .i64 0) (.slice none 0 0) (.bool false)
  have q0 := k2.cell 0
  have q1 := k2.cell 1
  have q2 := k2.cell 2
  have q3 := k2.cell 3
  simp only [List.getElem?_toArray, List.getElem?_cons_zero, List.getElem?_cons_succ] at q0 q1 q2 q3
  clear hb1 kb kb1 hat k2
  go_wp2
  refine ⟨rfl, .tuple #[.slice none 0 0, .agg #[.int .i64 0, .int .i64 0, .slice none 0 0, .bool false], .int .i64 4], ?_, rfl, hb2⟩
  simp [results, Tryd.f16, go_sem, q0, q1, q2, q3]
theorem own_base_le {w : World} {b base size n : Nat} {e : TypeId} {v : Value} {xs : List Value} (h : w.ownsRow base e size v n xs) (hb : b ≤ base) : w.ownsRow b e size v n xs :=
  ⟨h.1, h.2.imp id fun ⟨g, c, cur, e1, h1, r⟩ => ⟨g, c, cur, e1, Nat.le_trans hb h1, r⟩⟩
theorem acc_base_le {w : World} {b base r : Nat} {v : Value} {l : List Cp} (h : Acc w base v r l) (hb : b ≤ base) : Acc w b v r l := by
  obtain ⟨os, e, ho, ht, hs⟩ := h
  exact ⟨os, e, own_base_le ho hb, fun o ho => ⟨(ht o ho).1, (ht o ho).2.base_le hb⟩, hs⟩
theorem acc_cps {w : World} {base r c : Nat} {A : Option Addr} {l : List Cp} (h : Acc w base (.slice A r c) r l) : Cps w w.heap.size A r l := by
  obtain ⟨os, rfl, ho, ht, _⟩ := h
  exact rows_cps ho ht
set_option maxRecDepth 100000 in
set_option maxHeartbeats 8000000 in
theorem send_acc (A : Option Addr) (n c : Nat) (l : List Cp) (hn : n ≤ 1000) (num dn : Int) (txt : List Nat) (sp : Bool) (X : Option Addr) (m d : Nat) (hm : txt.length = m) (hd : m ≤ d) (w : World) (h1 : Cps w w.heap.size A n l) (hX : Reads w w.heap.size 1 X m (ints .u8 txt)) (hE : chkE l = 0) (hM : mayC num dn m = true) (h16 : n ≠ 16) :
    Calls Tryd.prog 13 #[.slice A n c, .agg #[.int .i64 num, .int .i64 dn, .slice X m d, .bool sp]] w fun en w' => ∃ Ao co, en = .returned (.tuple #[.slice Ao (n + 1) co, .int .i64 0]) ∧ n + 1 ≤ co ∧ Acc w' w.heap.size (.slice Ao (n + 1) co) (n + 1) (l ++ [⟨num, dn, txt, sp⟩]) ∧ Below w.heap.size w w' := by
  have ln := cps_len h1
  have hA := (Below.refl w.heap.size w).alloc (Nat.le_refl _) (.cells #[.int .i64 num, .int .i64 dn, .slice X m d, .bool sp] 37)
  have kb := Blk.new w 37 #[.int .i64 num, .int .i64 dn, .slice X m d, .bool sp]
  have hck := check_any A n c l (by omega) 0 hE _ ((h1.below hA).more hA.size)
  have hmy := fun w' => may_any num dn X m d sp true hM w'
  have t16 : ((n : Int) == 16) = false := beq_eq_false_iff_ne.2 (by omega)
  have htx : ∀ x ∈ l, x.txt.length ≤ 10000 := fun x hx => by have := chk_txt hE hx; omega
  have htc : m ≤ 10000 := by unfold mayC at hM; simp only [decide_eq_true_eq] at hM; omega
  clear hE hM
  go_enter Tryd.func13, Tryd.ntmps13
  go_wp2_with fail
  refine hck.mono ?_
  rintro en w1 ⟨rfl, hc1⟩
  have hb1 := hA.trans (hc1.mono hA.size)
  have kb1 := kb.below hc1 kb.lt
  have cb0 := kb1.cell 0
  have cb1 := kb1.cell 1
  have cb2 := kb1.cell 2
  have cb3 := kb1.cell 3
  simp at cb0 cb1 cb2 cb3
  go_wp2_with fail
  refine (hmy _).mono ?_
  rintro en w2 ⟨rfl, hb2⟩
  have kb2 := kb1.below hb2 kb1.lt
  have ce0 := kb2.cell 0
  have ce1 := kb2.cell 1
  have ce2 := kb2.cell 2
  have ce3 := kb2.cell 3
  simp at ce0 ce1 ce2 ce3
  clear kb1 cb0 cb1 cb2 cb3
  have hb := hb1.trans (hb2.mono hb1.size)
  clear hb1 hb2 hck hmy
  have h2 := (h1.below hb).more hb.size
  have hX2 := (hX.below hb).more hb.size
  go_wp2_with fail
  obtain ⟨V1, hV1⟩ : ∃ V, V = w2.alloc (.cells #[.int .i64 num, .int .i64 dn, .slice X m d, .bool sp] 37) := ⟨_, rfl⟩
  have o1 := one_cps (num := num) (dn := dn) (sp := sp) hm hd hX2
  have sz1 : V1.heap.size = w2.heap.size + 1 := by rw [hV1, World.size_alloc]
  have b1 : Below w2.heap.size w2 V1 := by rw [hV1]; exact (Below.refl _ _).alloc (Nat.le_refl _) _
  rw [← hV1] at o1 ⊢
  rw [← sz1] at o1 ⊢
  obtain ⟨V2, hV2⟩ : ∃ V, V = V1.alloc (.cells #[.slice A n c, .slice (some ⟨w2.heap.size, 0, none⟩) 1 1] 22) := ⟨_, rfl⟩
  have rl := reads_new V1 [.slice A n c, .slice (some ⟨w2.heap.size, 0, none⟩) 1 1] 22 2 rfl
  have b2 : Below V1.heap.size V1 V2 := by rw [hV2]; exact (Below.refl _ _).alloc (Nat.le_refl _) _
  have rl2 : Reads V2 V2.heap.size 1 (some ⟨V1.heap.size, 0, none⟩) 2 [.slice A n c, .slice (some ⟨w2.heap.size, 0, none⟩) 1 1] := by rw [hV2, World.size_alloc]; exact rl
  rw [← hV2]
  have o2 := (o1.below b2).more b2.size
  have h3 := ((h2.below b1).more b1.size).below b2
  have hb3 := hb.trans (b1.mono hb.size)
  have hb4 := hb3.trans (b2.mono hb3.size)
  clear hV1 hV2 rl o1 b1 kb2 ce0 ce1 ce2 ce3
  refine (joined2_any _ A (some ⟨w2.heap.size, 0, none⟩) n 1 c 1 2 l [⟨num, dn, txt, sp⟩] hn (by omega) htx (by intro x hx; have := List.mem_singleton.1 hx; subst this; simp only; omega) V2 rl2 (h3.more b2.size) o2).mono ?_
  rintro en w3 ⟨Ao, co, rfl, hco, hcps, hwr, hb5, hacc⟩
  have hb6 := hb4.trans (hb5.mono hb4.size)
  have hac := acc_base_le hacc hb4.size
  clear hwr o2 h3 h1 h2 rl2 hacc hcps
  go_wp2
  go_ret2
  exact ⟨Ao, co, rfl, hco, hac, hb6⟩
def oneC (i : Nat) : Cp := ⟨(i : Int), 1, [1, 2], false⟩
def oneL (k : Nat) : List Cp := (List.range k).map oneC
theorem oneL_succ (k : Nat) : oneL k ++ [oneC k] = oneL (k + 1) := by simp [oneL, List.range_succ]
theorem oneL_len (k : Nat) : (oneL k).length = k := by simp [oneL]
theorem oneL_chk {k : Nat} (h : k ≤ 16) : chkE (oneL k) = 0 := by
  refine chk_of (by rw [oneL_len]; exact h) (fun x hx => ?_)
  obtain ⟨i, hi, rfl⟩ := List.mem_map.1 hx
  have := List.mem_range.1 hi
  unfold mayOf oneC mayC
  simp
  omega
end Go.Proofs.YtbiodoeimbfbnaaDoor
