/- Seen: the walk of the law SeenKeeps. -/
import Derived.Test.YtocnmdnicoahnaaH
import Derived.Test.YtocnmdnicoahnaaKeepsP
import Derived.Lib.Hide
namespace Go.Proofs.Ytocnmdnicoahnaa.SeenKeeps
open Go.ChangeShapes Go.WideShapes Go.ChangeAt Go.RowKit
set_option linter.unusedSimpArgs false
set_option linter.unusedVariables false
theorem ask_ins {l p : List Int} {o : Int} (h : chkL l = 0) (hp : chkL p = 0) : askE p o = askE l o := by
  unfold askE
  rw [if_pos h, if_pos hp]
theorem has_ins {l : List Int} {k : Nat} {t o : Int} : hasB (ins l k t) o = (hasB l o || (o == t)) := by
  rw [Bool.eq_iff_iff]
  simp [hasB, ins_mem]
set_option maxHeartbeats 8000000 in
set_option maxRecDepth 100000 in
theorem great (A : Option Addr) (n c : Nat) (l : List Int) (hn : l.length = n) (t o : Int) (hgr : ∀ w, Calls Try.prog 9 #[.slice A n c] w fun en w' => en = .returned (.bool true) ∧ w = w') (w : World) (hR : Reads w w.heap.size 1 A n (ints l)) :
    Calls Try.prog 6 #[.slice A n c, .int .i64 t, .int .i64 o] w fun en w' => en = .returned (.bool true) ∧ Below w.heap.size w w' := by
  go_enter Try.func6, Try.ntmps6
  go_wp2_with fail
  refine (alive_any _).mono ?_
  rintro en w1 ⟨rfl, hb1⟩
  go_wp2_with fail
  refine (hgr _).mono ?_
  rintro en w2 ⟨rfl, rfl⟩
  clear hR hgr
  go_wp2
  go_ret
  exact ⟨rfl, hb1⟩
set_option maxHeartbeats 8000000 in
set_option maxRecDepth 100000 in
theorem err (A : Option Addr) (n c : Nat) (l : List Int) (hn : l.length = n) (t o : Int) (hgr : ∀ w, Calls Try.prog 9 #[.slice A n c] w fun en w' => en = .returned (.bool false) ∧ w = w') (e : Int) (h : askE l t = e) (h0 : (e != 0) = true) (h1 : (e == 0) = false) (w : World) (hR : Reads w w.heap.size 1 A n (ints l)) :
    Calls Try.prog 6 #[.slice A n c, .int .i64 t, .int .i64 o] w fun en w' => en = .returned (.bool true) ∧ Below w.heap.size w w' := by
  go_enter Try.func6, Try.ntmps6
  go_wp2_with fail
  refine (alive_any _).mono ?_
  rintro en w1 ⟨rfl, hb1⟩
  go_wp2_with fail
  refine (hgr _).mono ?_
  rintro en w2 ⟨rfl, rfl⟩
  go_wp2_with fail
  refine (put_err A n c l hn t e h h0 _ ((hR.below hb1).more hb1.size)).mono ?_
  rintro en w2 ⟨rfl, hb2⟩
  have hB2 := hb1.trans (hb2.mono hb1.size)
  go_wp2_with fail
  refine (has_no A n c l hn t e h h0 h1 _ ((hR.below hB2).more hB2.size)).mono ?_
  rintro en w3 ⟨rfl, hb3⟩
  have hB3 := hB2.trans (hb3.mono hB2.size)
  have d : (e == e) = true := by simp
  clear hR hgr h
  go_wp2
  go_ret
  exact ⟨rfl, hB3⟩
set_option maxHeartbeats 8000000 in
set_option maxRecDepth 100000 in
theorem again (A : Option Addr) (n c : Nat) (l : List Int) (hn : l.length = n) (t o : Int) (hgr : ∀ w, Calls Try.prog 9 #[.slice A n c] w fun en w' => en = .returned (.bool false) ∧ w = w') (h : askE l t = 0) (hin : t ∈ l) (w : World) (hR : Reads w w.heap.size 1 A n (ints l)) :
    Calls Try.prog 6 #[.slice A n c, .int .i64 t, .int .i64 o] w fun en w' => en = .returned (.bool true) ∧ Below w.heap.size w w' := by
  have hh : hasB l t = true := decide_eq_true hin
  go_enter Try.func6, Try.ntmps6
  go_wp2_with fail
  refine (alive_any _).mono ?_
  rintro en w1 ⟨rfl, hb1⟩
  go_wp2_with fail
  refine (hgr _).mono ?_
  rintro en w2 ⟨rfl, rfl⟩
  go_wp2_with fail
  refine (put_again A n c l hn t h hin _ ((hR.below hb1).more hb1.size)).mono ?_
  rintro en w2 ⟨rfl, hb2⟩
  have hB2 := hb1.trans (hb2.mono hb1.size)
  go_wp2_with fail
  refine (has_yes A n c l hn t h _ ((hR.below hB2).more hB2.size)).mono ?_
  rintro en w3 ⟨rfl, hb3⟩
  have hB3 := hB2.trans (hb3.mono hB2.size)
  rw [hh]
  clear hR hgr h hh hin
  go_wp2
  go_ret
  exact ⟨rfl, hB3⟩
set_option maxHeartbeats 8000000 in
set_option maxRecDepth 100000 in
theorem full (A : Option Addr) (n c : Nat) (l : List Int) (hn : l.length = n) (t o : Int) (hgr : ∀ w, Calls Try.prog 9 #[.slice A n c] w fun en w' => en = .returned (.bool false) ∧ w = w') (h : askE l t = 0) (hin : t ∉ l) (hf : n = 4096) (w : World) (hR : Reads w w.heap.size 1 A n (ints l)) :
    Calls Try.prog 6 #[.slice A n c, .int .i64 t, .int .i64 o] w fun en w' => en = .returned (.bool true) ∧ Below w.heap.size w w' := by
  have hh : hasB l t = false := decide_eq_false hin
  have d9 : ((n : Int) == 4096) = true := by simp; omega
  have HF := Lib.hid hf
  clear hf
  go_enter Try.func6, Try.ntmps6
  go_wp2_with fail
  refine (alive_any _).mono ?_
  rintro en w1 ⟨rfl, hb1⟩
  go_wp2_with fail
  refine (hgr _).mono ?_
  rintro en w2 ⟨rfl, rfl⟩
  go_wp2_with fail
  refine (put_full A n c l hn t h hin HF.out _ ((hR.below hb1).more hb1.size)).mono ?_
  rintro en w2 ⟨rfl, hb2⟩
  have hB2 := hb1.trans (hb2.mono hb1.size)
  go_wp2_with fail
  refine (has_yes A n c l hn t h _ ((hR.below hB2).more hB2.size)).mono ?_
  rintro en w3 ⟨rfl, hb3⟩
  have hB3 := hB2.trans (hb3.mono hB2.size)
  rw [hh]
  clear hR hgr h hh hin
  go_wp2
  go_ret
  exact ⟨rfl, hB3⟩
set_option maxHeartbeats 8000000 in
set_option maxRecDepth 100000 in
theorem other (A : Option Addr) (n c : Nat) (l : List Int) (hn : l.length = n) (t o : Int) (hgr : ∀ w, Calls Try.prog 9 #[.slice A n c] w fun en w' => en = .returned (.bool false) ∧ w = w') (h : askE l t = 0) (hin : t ∉ l) (hf : n < 4096) (e : Int) (he : askE l o = e) (h0 : (e != 0) = true) (h1 : (e == 0) = false) (w : World) (hR : Reads w w.heap.size 1 A n (ints l)) :
    Calls Try.prog 6 #[.slice A n c, .int .i64 t, .int .i64 o] w fun en w' => en = .returned (.bool true) ∧ Below w.heap.size w w' := by
  have hh : hasB l t = false := decide_eq_false hin
  obtain ⟨hc0, ht0, ht1⟩ := ask_zero h
  go_enter Try.func6, Try.ntmps6
  go_wp2_with fail
  refine (alive_any _).mono ?_
  rintro en w1 ⟨rfl, hb1⟩
  go_wp2_with fail
  refine (hgr _).mono ?_
  rintro en w2 ⟨rfl, rfl⟩
  go_wp2_with fail
  refine (put_yes A n c l hn t h hin hf _ ((hR.below hb1).more hb1.size)).mono ?_
  rintro en w2 ⟨kk, A2, c2, hk, rfl, hc2, hR2, hb2⟩
  have hB2 := hb1.trans (hb2.mono hb1.size)
  have hpl : (ins l kk t).length = n + 1 := by rw [ins_len hk.1, hn]
  have hcp := ins_chk hc0 (by omega) hk hin ht0 ht1
  have hap : askE (ins l kk t) t = 0 := (ask_ins hc0 hcp).trans h
  have hpt : hasB (ins l kk t) t = true := decide_eq_true (ins_mem.mpr (Or.inr rfl))
  have hao : askE (ins l kk t) o = askE l o := ask_ins hc0 hcp
  have hho := has_ins (l := l) (k := kk) (t := t) (o := o)
  obtain ⟨a, ha⟩ : ∃ a, hasB l o = a := ⟨_, rfl⟩
  obtain ⟨q, hq⟩ : ∃ q, (o == t) = q := ⟨_, rfl⟩
  rw [ha, hq] at hho
  have hbi := fun c hc => below_ins (o := o) (c := c) hk hc
  have hpm : t ∈ ins l kk t := ins_mem.mpr (Or.inr rfl)
  have w0 : IntKind.i64.wrap ((n : Int) + 1) = (n : Int) + 1 := IntWalk.i64_in _ (by omega)
  obtain ⟨P, hP⟩ : ∃ P, ins l kk t = P := ⟨_, rfl⟩
  rw [hP] at hpl hap hpt hao hho hbi hpm hR2
  clear hP hcp hk
  go_wp2_with fail
  refine (has_yes A n c l hn t h _ ((hR.below hB2).more hB2.size)).mono ?_
  rintro en w3 ⟨rfl, hb3⟩
  rw [hh]
  have hB3 := hB2.trans (hb3.mono hB2.size)
  have hR3 := (hR2.below hb3).more hb3.size
  clear hb3
  go_wp2_with fail
  refine (has_yes A2 (n + 1) c2 P hpl t hap _ hR3).mono ?_
  rintro en w4 ⟨rfl, hb4⟩
  rw [hpt]
  have hB4 := hB3.trans (hb4.mono hB3.size)
  have hR4 := (hR3.below hb4).more hb4.size
  clear hb4
  go_wp2_with fail
  refine (put_again A2 (n + 1) c2 P hpl t hap hpm _ hR4).mono ?_
  rintro en w5 ⟨rfl, hb5⟩
  have hB5 := hB4.trans (hb5.mono hB4.size)
  have hR5 := (hR4.below hb5).more hb5.size
  clear hb5 hR2 hR3 hR4 hap hpt hpm hh
  go_wp2_with fail
  refine (has_no A n c l hn o e he h0 h1 _ ((hR.below hB5).more hB5.size)).mono ?_
  rintro en w6 ⟨rfl, hb6⟩
  have hB6 := hB5.trans (hb6.mono hB5.size)
  have hR6 := (hR5.below hb6).more hb6.size
  clear hb6
  go_wp2_with fail
  refine (has_no A2 (n + 1) c2 P hpl o e (hao.trans he) h0 h1 _ hR6).mono ?_
  rintro en w7 ⟨rfl, hb7⟩
  have hB7 := hB6.trans (hb7.mono hB6.size)
  have hR7 := (hR6.below hb7).more hb7.size
  clear hb7
  go_wp2_with fail
  refine (below_no A n c l hn o e he h0 _ ((hR.below hB7).more hB7.size)).mono ?_
  rintro en w8 ⟨rfl, hb8⟩
  have hB8 := hB7.trans (hb8.mono hB7.size)
  have hR8 := (hR7.below hb8).more hb8.size
  clear hb8
  go_wp2_with fail
  refine (below_no A2 (n + 1) c2 P hpl o e (hao.trans he) h0 _ hR8).mono ?_
  rintro en w9 ⟨rfl, hb9⟩
  have hB9 := hB8.trans (hb9.mono hB8.size)
  have hR9 := (hR8.below hb9).more hb9.size
  clear hb9
  have d : (e != e) = false := by simp
  clear hR hgr h he hao hho hbi hin hR5 hR6 hR7 hR8 hR9
  go_wp2
  go_ret
  exact ⟨rfl, hB9⟩
set_option maxHeartbeats 8000000 in
set_option maxRecDepth 100000 in
theorem both (A : Option Addr) (n c : Nat) (l : List Int) (hn : l.length = n) (t o : Int) (hgr : ∀ w, Calls Try.prog 9 #[.slice A n c] w fun en w' => en = .returned (.bool false) ∧ w = w') (h : askE l t = 0) (hin : t ∉ l) (hf : n < 4096) (he : askE l o = 0) (w : World) (hR : Reads w w.heap.size 1 A n (ints l)) :
    Calls Try.prog 6 #[.slice A n c, .int .i64 t, .int .i64 o] w fun en w' => en = .returned (.bool true) ∧ Below w.heap.size w w' := by
  have hh : hasB l t = false := decide_eq_false hin
  obtain ⟨hc0, ht0, ht1⟩ := ask_zero h
  go_enter Try.func6, Try.ntmps6
  go_wp2_with fail
  refine (alive_any _).mono ?_
  rintro en w1 ⟨rfl, hb1⟩
  go_wp2_with fail
  refine (hgr _).mono ?_
  rintro en w2 ⟨rfl, rfl⟩
  go_wp2_with fail
  refine (put_yes A n c l hn t h hin hf _ ((hR.below hb1).more hb1.size)).mono ?_
  rintro en w2 ⟨kk, A2, c2, hk, rfl, hc2, hR2, hb2⟩
  have hB2 := hb1.trans (hb2.mono hb1.size)
  have hpl : (ins l kk t).length = n + 1 := by rw [ins_len hk.1, hn]
  have hcp := ins_chk hc0 (by omega) hk hin ht0 ht1
  have hap : askE (ins l kk t) t = 0 := (ask_ins hc0 hcp).trans h
  have hpt : hasB (ins l kk t) t = true := decide_eq_true (ins_mem.mpr (Or.inr rfl))
  have hao : askE (ins l kk t) o = askE l o := ask_ins hc0 hcp
  have hho := has_ins (l := l) (k := kk) (t := t) (o := o)
  obtain ⟨a, ha⟩ : ∃ a, hasB l o = a := ⟨_, rfl⟩
  obtain ⟨q, hq⟩ : ∃ q, (o == t) = q := ⟨_, rfl⟩
  rw [ha, hq] at hho
  have hbi := fun c hc => below_ins (o := o) (c := c) hk hc
  have hpm : t ∈ ins l kk t := ins_mem.mpr (Or.inr rfl)
  have w0 : IntKind.i64.wrap ((n : Int) + 1) = (n : Int) + 1 := IntWalk.i64_in _ (by omega)
  obtain ⟨P, hP⟩ : ∃ P, ins l kk t = P := ⟨_, rfl⟩
  rw [hP] at hpl hap hpt hao hho hbi hpm hR2
  clear hP hcp hk
  go_wp2_with fail
  refine (has_yes A n c l hn t h _ ((hR.below hB2).more hB2.size)).mono ?_
  rintro en w3 ⟨rfl, hb3⟩
  rw [hh]
  have hB3 := hB2.trans (hb3.mono hB2.size)
  have hR3 := (hR2.below hb3).more hb3.size
  clear hb3
  go_wp2_with fail
  refine (has_yes A2 (n + 1) c2 P hpl t hap _ hR3).mono ?_
  rintro en w4 ⟨rfl, hb4⟩
  rw [hpt]
  have hB4 := hB3.trans (hb4.mono hB3.size)
  have hR4 := (hR3.below hb4).more hb4.size
  clear hb4
  go_wp2_with fail
  refine (put_again A2 (n + 1) c2 P hpl t hap hpm _ hR4).mono ?_
  rintro en w5 ⟨rfl, hb5⟩
  have hB5 := hB4.trans (hb5.mono hB4.size)
  have hR5 := (hR4.below hb5).more hb5.size
  clear hb5 hR2 hR3 hR4 hap hpt hpm hh
  go_wp2_with fail
  refine (has_yes A n c l hn o he _ ((hR.below hB5).more hB5.size)).mono ?_
  rintro en w6 ⟨rfl, hb6⟩
  rw [ha]
  have hB6 := hB5.trans (hb6.mono hB5.size)
  have hR6 := (hR5.below hb6).more hb6.size
  clear hb6
  go_wp2_with fail
  refine (has_yes A2 (n + 1) c2 P hpl o (hao.trans he) _ hR6).mono ?_
  rintro en w7 ⟨rfl, hb7⟩
  rw [hho]
  have hB7 := hB6.trans (hb7.mono hB6.size)
  have hR7 := (hR6.below hb7).more hb7.size
  clear hb7
  go_wp2_with fail
  refine (below_yes A n c l hn o he _ ((hR.below hB7).more hB7.size)).mono ?_
  rintro en w8 ⟨ca, hca, rfl, hb8⟩
  have hB8 := hB7.trans (hb8.mono hB7.size)
  have hR8 := (hR7.below hb8).more hb8.size
  clear hb8
  go_wp2_with fail
  refine (below_yes A2 (n + 1) c2 P hpl o (hao.trans he) _ hR8).mono ?_
  rintro en w9 ⟨cb, hcb, rfl, hb9⟩
  have hB9 := hB8.trans (hb9.mono hB8.size)
  have hR9 := (hR8.below hb9).more hb9.size
  clear hb9
  have hcc := below_one hcb (hbi ca hca)
  have hca1 := hca.1
  have hlt : decide (t < o) = true ∨ decide (t < o) = false := by cases decide (t < o) <;> simp
  clear hR hgr h he hao hho hbi hR5 hR6 hR7 hR8 hR9 hca hcb hin ha
  have w9 : IntKind.i64.wrap ((ca : Int) + 1) = (ca : Int) + 1 := IntWalk.i64_in _ (by omega)
  rcases hlt with hl | hl
  · rw [if_pos (of_decide_eq_true hl)] at hcc
    subst hcc
    cases q <;> cases a
    all_goals
      go_wp2
      go_ret
      exact ⟨rfl, hB9⟩
  · rw [if_neg (of_decide_eq_false hl)] at hcc
    subst hcc
    cases q <;> cases a
    all_goals
      go_wp2
      go_ret
      exact ⟨rfl, hB9⟩
theorem walk (A : Option Addr) (n c : Nat) (l : List Int) (hn : l.length = n) (t o : Int) (w : World) (hR : Reads w w.heap.size 1 A n (ints l)) :
    Calls Try.prog 6 #[.slice A n c, .int .i64 t, .int .i64 o] w fun en w' => en = .returned (.bool true) ∧ Below w.heap.size w w' := by
  have hgr := great_any A n c
  by_cases hG : 200 < n ∧ n < 4096 ∨ 4100 < n
  · rw [decide_eq_true hG] at hgr
    exact great A n c l hn t o hgr w hR
  rw [decide_eq_false hG] at hgr
  by_cases h : askE l t = 0
  · by_cases hin : t ∈ l
    · exact again A n c l hn t o hgr h hin w hR
    · have hm := (chk_zero (ask_zero h).1).1
      rcases Nat.lt_or_ge n 4096 with hf | hf
      · by_cases he : askE l o = 0
        · exact both A n c l hn t o hgr h hin hf he w hR
        · exact other A n c l hn t o hgr h hin hf _ rfl (by simpa using he) (by simpa using he) w hR
      · exact full A n c l hn t o hgr h hin (by omega) w hR
  · exact err A n c l hn t o hgr _ rfl (by simpa using h) (by simpa using h) w hR
end Go.Proofs.Ytocnmdnicoahnaa.SeenKeeps
