/- Ether: the reference's Send -/
import Derived.Test.YtbiodoeimbfbnaaR1
import Derived.Deep.QuietTactic
import Derived.BigQuiet
namespace Go.Proofs.Ytbiodoeimbfbnaa
open Go.ChangeShapes Go.WideShapes Go.ChangeAt Go.RowKit
set_option linter.unusedSimpArgs false
set_option linter.unusedVariables false
theorem blk1 (w : World) (t : TypeId) (cs : Array Value) : Blk (w.alloc (.cells cs t)) w.heap.size t cs := Blk.new w t cs
theorem blk2 (w : World) (t : TypeId) (cs : Array Value) (o : Obj) : Blk ((w.alloc (.cells cs t)).alloc o) w.heap.size t cs := (Blk.new w t cs).alloc o
theorem blk3 (w : World) (t : TypeId) (cs : Array Value) (o : Obj) : Blk ((w.alloc o).alloc (.cells cs t)) (w.heap.size + 1) t cs := by have := Blk.new (w.alloc o) t cs; rwa [World.size_alloc] at this
theorem step_append_any {P : Program} (w : World) {ops : Array Oper} {o : Oper} {a : Act} {K : Act → World → Prop} {Q : Exit → Act → World → Prop} {E : Prop} (hgd : o.guard = none) (s x : Operand) (t : TypeId)
    (ho : o.op = .call { callee := .builtin .append, args := #[s, x], argTypes := #[t, t] })
    (base : Nat) (e : TypeId) (i : TypeInfo) (z : Value) (size bytes : Nat) (ht : P.underlying t = some (.slice e)) (hi : P.info? e = some i) (hz : i.zero = some z)
    (hsize : i.size = size) (hby : i.bytes = bytes) (hzs : z.cells.size = size) (hsz : 0 < size)
    (v : Value) (n : Nat) (xs : List Value) (hs : a.eval s = v) (hown : w.ownsRow base e size v n xs)
    (B : Nat) (A : Option Addr) (m c : Nat) (news : List Value) (hx : a.eval x = .slice A m c) (hr : Reads w B size A m news) (h1 : ∀ u ∈ news, u.oneCell' = true)
    (h63 : n + m ≤ maxLen) (hbytes : (n + m) * bytes ≤ 140737488355328) (hbase : base ≤ w.heap.size)
    (h : ∀ v' w', w'.ownsRow base e size v' (n + m) (xs ++ news) → w.grownBy w' v.ownBlock → (v'.ownBlock = v.ownBlock ∨ v'.ownBlock = some w.heap.size) → K (a.put o.dst v') w') :
    if Region.wanted o (yielded ops a.tmps) = true then Oper.wp P o a w K Q else E := by
  have hw : Region.wanted o (yielded ops a.tmps) = true := by simp [Region.wanted, hgd]
  rw [if_pos hw]
  exact wp_append_any w s x t ho base e i z size bytes ht hi hz hsize hby hzs hsz v n xs hs hown B A m c news hx hr h1 h63 hbytes hbase h
/-- append onto a row of the call's own; another block that stays. -/
theorem step_append_blk {P : Program} (w : World) {ops : Array Oper} {o : Oper} {a : Act} {K : Act → World → Prop} {Q : Exit → Act → World → Prop} {E : Prop} (hgd : o.guard = none) (s x : Operand) (t : TypeId)
    (ho : o.op = .call { callee := .builtin .append, args := #[s, x], argTypes := #[t, t] })
    (base : Nat) (e : TypeId) (i : TypeInfo) (z : Value) (size bytes : Nat) (ht : P.underlying t = some (.slice e)) (hi : P.info? e = some i) (hz : i.zero = some z)
    (hsize : i.size = size) (hby : i.bytes = bytes) (hzs : z.cells.size = size) (hsz : 0 < size)
    (v : Value) (n : Nat) (xs : List Value) (hs : a.eval s = v) (hown : w.ownsRow base e size v n xs)
    (B : Nat) (A : Option Addr) (m c : Nat) (news : List Value) (hx : a.eval x = .slice A m c) (hr : Reads w B size A m news) (h1 : ∀ u ∈ news, u.oneCell' = true)
    (h63 : n + m ≤ maxLen) (hbytes : (n + m) * bytes ≤ 140737488355328) (hbase : base ≤ w.heap.size)
    (gB : Nat) (T : TypeId) (us : Array Value) (hB : Blk w gB T us) (hne : some gB ≠ v.ownBlock)
    (h : ∀ v' w', w'.ownsRow base e size v' (n + m) (xs ++ news) → w.grownBy w' v.ownBlock → Blk w' gB T us → K (a.put o.dst v') w') :
    if Region.wanted o (yielded ops a.tmps) = true then Oper.wp P o a w K Q else E :=
  step_append_any w hgd s x t ho base e i z size bytes ht hi hz hsize hby hzs hsz v n xs hs hown B A m c news hx hr h1 h63 hbytes hbase fun v' w' h2 h3 _ => h v' w' h2 h3 (hB.grown h3 hne)
set_option maxRecDepth 100000 in
set_option maxHeartbeats 8000000 in
theorem rsend_any (A : Option Addr) (n c : Nat) (l : List Cp) (hn : n ≤ 1000) (num dn : Int) (txt : List Nat) (sp : Bool) (X : Option Addr) (m d : Nat) (hm : txt.length = m) (hd : m ≤ d) (w : World) (h1 : Cps w w.heap.size A n l) (hX : Reads w w.heap.size 1 X m (ints .u8 txt)) :
    Calls Try.prog 7 #[.slice A n c, .agg #[.int .i64 num, .int .i64 dn, .slice X m d, .bool sp]] w (SpRead w (sndS l ⟨num, dn, txt, sp⟩)) := by
  have ln := cps_len h1
  obtain ⟨E, hE⟩ : ∃ E, chkE l = E := ⟨_, rfl⟩
  have hA := (Below.refl w.heap.size w).alloc (Nat.le_refl _) (.cells #[.int .i64 num, .int .i64 dn, .slice X m d, .bool sp] 25)
  have kb := Blk.new w 25 #[.int .i64 num, .int .i64 dn, .slice X m d, .bool sp]
  have hck := rcheck_any A n c l (by omega) E hE _ ((h1.below hA).more hA.size)
  by_cases hE0 : E = 0
  rotate_left
  · rw [snd_err hE hE0]
    have t1 : (E != 0) = true := bne_iff_ne.2 hE0
    clear hE hE0 h1 ln hX hm hd
    go_enter Try.func7, Try.ntmps7
    go_wp2_with fail
    refine hck.mono ?_
    rintro en w1 ⟨rfl, hc1⟩
    have hb1 := hA.trans (hc1.mono hA.size)
    have kb1 := kb.below hc1 kb.lt
    have cb0 := kb1.cell 0
    have cb1 := kb1.cell 1
    have cb2 := kb1.cell 2
    have cb3 := kb1.cell 3
    simp at cb0 cb1 cb2 cb3
    go_wp2
    go_ret2
    exact sp_nil hb1 E
  subst hE0
  obtain ⟨M, hM⟩ : ∃ M, mayC num dn m = M := ⟨_, rfl⟩
  have hmy := fun w' => rmay_any num dn X m d sp M hM w'
  have hM' : mayOf ⟨num, dn, txt, sp⟩ = M := by unfold mayOf; simp only [hm]; exact hM
  cases M with
  | false =>
    rw [snd_bad hE hM']
    clear hE h1 ln hX hM hM' hm hd
    go_enter Try.func7, Try.ntmps7
    go_wp2_with fail
    refine hck.mono ?_
    rintro en w1 ⟨rfl, hc1⟩
    have hb1 := hA.trans (hc1.mono hA.size)
    have kb1 := kb.below hc1 kb.lt
    have cb0 := kb1.cell 0
    have cb1 := kb1.cell 1
    have cb2 := kb1.cell 2
    have cb3 := kb1.cell 3
    simp at cb0 cb1 cb2 cb3
    go_wp2_with fail
    refine (hmy _).mono ?_
    rintro en w2 ⟨rfl, hb2⟩
    have kb2 := kb1.below hb2 kb1.lt
    have ce0 := kb2.cell 0
    have ce1 := kb2.cell 1
    have ce2 := kb2.cell 2
    have ce3 := kb2.cell 3
    simp at ce0 ce1 ce2 ce3
    clear kb1 cb0 cb1 cb2 cb3
    have hb := hb1.trans (hb2.mono hb1.size)
    go_wp2
    go_ret2
    exact sp_nil hb 8
  | true =>
    by_cases h16 : n = 16
    · rw [snd_full hE hM' (by rw [ln]; exact h16)]
      subst h16
      clear hE h1 ln hX hM hM' hm hd
      go_enter Try.func7, Try.ntmps7
      go_wp2_with fail
      refine hck.mono ?_
      rintro en w1 ⟨rfl, hc1⟩
      have hb1 := hA.trans (hc1.mono hA.size)
      have kb1 := kb.below hc1 kb.lt
      have cb0 := kb1.cell 0
      have cb1 := kb1.cell 1
      have cb2 := kb1.cell 2
      have cb3 := kb1.cell 3
      simp at cb0 cb1 cb2 cb3
      go_wp2_with fail
      refine (hmy _).mono ?_
      rintro en w2 ⟨rfl, hb2⟩
      have kb2 := kb1.below hb2 kb1.lt
      have ce0 := kb2.cell 0
      have ce1 := kb2.cell 1
      have ce2 := kb2.cell 2
      have ce3 := kb2.cell 3
      simp at ce0 ce1 ce2 ce3
      clear kb1 cb0 cb1 cb2 cb3
      have hb := hb1.trans (hb2.mono hb1.size)
      go_wp2
      go_ret2
      exact sp_nil hb 9
    · rw [snd_ok hE hM' (by rw [ln]; exact h16)]
      have hn16 : n < 16 := by have := chk_len hE; rw [ln] at this; omega
      have t16 : decide ((16 : Int) ≤ n) = false := decide_eq_false (by omega)
      have t17 : decide (16 ≤ n) = false := decide_eq_false (by omega)
      have htx : ∀ x ∈ l, x.txt.length ≤ 10000 := fun x hx => by have := chk_txt hE hx; omega
      have htc : m ≤ 10000 := by unfold mayC at hM; simp only [decide_eq_true_eq] at hM; omega
      clear hE hM hM'
      go_enter Try.func7, Try.ntmps7
      go_wp2_with fail
      refine hck.mono ?_
      rintro en w1 ⟨rfl, hc1⟩
      have hb1 := hA.trans (hc1.mono hA.size)
      have kb1 := kb.below hc1 kb.lt
      have cb0 := kb1.cell 0
      have cb1 := kb1.cell 1
      have cb2 := kb1.cell 2
      have cb3 := kb1.cell 3
      simp at cb0 cb1 cb2 cb3
      go_wp2_with fail
      refine (hmy _).mono ?_
      rintro en w2 ⟨rfl, hb2⟩
      have kb2 := kb1.below hb2 kb1.lt
      have ce0 := kb2.cell 0
      have ce1 := kb2.cell 1
      have ce2 := kb2.cell 2
      have ce3 := kb2.cell 3
      simp at ce0 ce1 ce2 ce3
      clear kb1 cb0 cb1 cb2 cb3
      have hb := hb1.trans (hb2.mono hb1.size)
      clear hb1 hb2 hck hmy
      have h2 := (h1.below hb).more hb.size
      have hX2 := (hX.below hb).more hb.size
      have kb2' := kb2
      clear ce0 ce1 ce2 ce3
      obtain ⟨os1, e1, r1, x1⟩ := cps_rows h2
      have SB : ∀ w', Below w2.heap.size w2 w' → w'.cell? ⟨w.heap.size, 0, none⟩ = some (.int .i64 num) ∧ w'.cell? ⟨w.heap.size, 1, none⟩ = some (.int .i64 dn) ∧ w'.cell? ⟨w.heap.size, 2, none⟩ = some (.slice X m d) ∧ w'.cell? ⟨w.heap.size, 3, none⟩ = some (.bool sp) := by
        intro w' hw
        have k5 := kb2.below hw kb2.lt
        have c0 := k5.cell 0
        have c1 := k5.cell 1
        have c2 := k5.cell 2
        have c3 := k5.cell 3
        simp only [List.getElem?_toArray, List.getElem?_cons_zero, List.getElem?_cons_succ] at c0 c1 c2 c3
        exact ⟨c0, c1, c2, c3⟩
      obtain ⟨i0, hi0, hz0, hz1, hz2⟩ := info_parts infoC
      have htw : ∀ w' A5 c5, Reads w' w'.heap.size 4 A5 (n + 1) (os1.flatMap row4 ++ [.int .i64 num, .int .i64 dn, .slice X m d, .bool sp]) → Below w2.heap.size w2 w' → Calls Try.prog 5 #[.slice A5 (n + 1) c5] w' fun en w'' => ∃ Ao co, en = .returned (.slice Ao (n + 1) co) ∧ Below w'.heap.size w' w'' ∧ Cps w'' w''.heap.size Ao (n + 1) (l ++ [⟨num, dn, txt, sp⟩]) := by
        intro w' A5 c5 ro hw
        have e2 : os1.flatMap row4 ++ [.int .i64 num, .int .i64 dn, .slice X m d, .bool sp] = (os1 ++ [((⟨num, dn, txt, sp⟩ : Cp), X, d)]).flatMap row4 := by simp [row4, hm]
        rw [e2] at ro
        have hcp := rows_cps2 ro (texts_append (texts_below x1 hw hw.size) (fun o ho => by rw [List.mem_singleton.1 ho]; simp only [hm]; exact ⟨hd, (hX2.below hw).more hw.size⟩))
        rw [List.map_append, e1] at hcp
        refine (rtwin_any A5 (n + 1) c5 _ (by omega) (fun x hx => ?_) w' hcp).mono ?_
        · rcases List.mem_append.1 hx with h | h
          · exact htx x h
          · rw [List.mem_singleton.1 h]; simp only [hm]; exact htc
        · rintro en w'' ⟨Ao, co, rfl, _, ho, _, hb5, _⟩
          exact ⟨Ao, co, rfl, hb5, ho⟩
      have gm := Lib.hid hm
      have gln := Lib.hid ln
      have hs0 : Below w2.heap.size w2 w2 := Below.refl _ _
      clear hm h1 h2 hX hX2 hA kb kb2 kb2' e1 x1 ln hd htx
      obtain ⟨z0, z1, z2, z3⟩ := SB w2 hs0
      go_wp2_with fail
      go_region_held3 (fun w' => w'.cell? ⟨w.heap.size, 0, none⟩ = some (.int .i64 num) ∧ w'.cell? ⟨w.heap.size, 1, none⟩ = some (.int .i64 dn) ∧ w'.cell? ⟨w.heap.size, 2, none⟩ = some (.slice X m d) ∧ w'.cell? ⟨w.heap.size, 3, none⟩ = some (.bool sp)) ((refine SB _ ?_; (repeat first | with_reducible assumption | with_reducible exact Below.refl _ _ | with_reducible refine Below.drew ?_ | (with_reducible refine Below.setCell ?_ (by first | exact Nat.le_refl _ | (simp only [World.size_alloc, World.size_drew, size_set]; omega) | omega) _) | (with_reducible refine Below.alloc ?_ (by first | exact Nat.le_refl _ | (simp only [World.size_alloc, World.size_drew, size_set]; omega) | omega) _)))) (first | (refine step_append_blk _ rfl (.tmp 18) (.tmp 19) 22 rfl w2.heap.size 25 i0 _ 4 48 Try.underlying22 hi0 hz0 hz1 hz2 rfl (by omega) (.slice (some ⟨w2.heap.size, 0, none⟩) 0 0) 0 [] rfl (own_empty (size := 4) (by first | with_reducible exact blk1 _ _ _ | with_reducible exact blk2 _ _ _ _ | with_reducible exact blk3 _ _ _ _ | with_reducible exact Blk.drew (blk1 _ _ _) | with_reducible exact Blk.drew (blk2 _ _ _ _) | with_reducible exact Blk.drew (blk3 _ _ _ _)) (by omega)) w2.heap.size A n c _ rfl (r1.below (by (repeat first | with_reducible assumption | with_reducible exact Below.refl _ _ | with_reducible refine Below.drew ?_ | (with_reducible refine Below.setCell ?_ (by first | exact Nat.le_refl _ | (simp only [World.size_alloc, World.size_drew, size_set]; omega) | omega) _) | (with_reducible refine Below.alloc ?_ (by first | exact Nat.le_refl _ | (simp only [World.size_alloc, World.size_drew, size_set]; omega) | omega) _)))) (flat4_one _) (by unfold maxLen; omega) (by omega) (by first | exact Nat.le_refl _ | (simp only [World.size_alloc, World.size_drew, size_set]; omega) | omega) (w2.heap.size + 1) 25 #[.int .i64 num, .int .i64 dn, .slice X m d, .bool sp] (by first | with_reducible exact blk1 _ _ _ | with_reducible exact blk2 _ _ _ _ | with_reducible exact blk3 _ _ _ _ | with_reducible exact Blk.drew (blk1 _ _ _) | with_reducible exact Blk.drew (blk2 _ _ _ _) | with_reducible exact Blk.drew (blk3 _ _ _ _)) (by simp [Value.ownBlock]) ?_; intro v3 w3 ho3 hg3 kB; rw [Nat.zero_add, List.nil_append] at ho3; have hb3 : Below w2.heap.size w2 w3 := Below.grown (by (repeat first | with_reducible assumption | with_reducible exact Below.refl _ _ | with_reducible refine Below.drew ?_ | (with_reducible refine Below.setCell ?_ (by first | exact Nat.le_refl _ | (simp only [World.size_alloc, World.size_drew, size_set]; omega) | omega) _) | (with_reducible refine Below.alloc ?_ (by first | exact Nat.le_refl _ | (simp only [World.size_alloc, World.size_drew, size_set]; omega) | omega) _))) hg3 (by first | exact Nat.le_refl _ | (simp only [World.size_alloc, World.size_drew, size_set]; omega) | omega) (fun q hq => by simp [Value.ownBlock] at hq; omega); obtain ⟨A3, c3, rfl, _, _⟩ := own_slice ho3; have hs3 := hb3.size) | (refine step_append_blk _ rfl (.tmp 18) (.tmp 19) 22 rfl w2.heap.size 25 i0 _ 4 48 Try.underlying22 hi0 hz0 hz1 hz2 rfl (by omega) (.slice (some ⟨w2.heap.size + 1, 0, none⟩) 0 0) 0 [] rfl (own_empty (size := 4) (by first | with_reducible exact blk1 _ _ _ | with_reducible exact blk2 _ _ _ _ | with_reducible exact blk3 _ _ _ _ | with_reducible exact Blk.drew (blk1 _ _ _) | with_reducible exact Blk.drew (blk2 _ _ _ _) | with_reducible exact Blk.drew (blk3 _ _ _ _)) (by omega)) w2.heap.size A n c _ rfl (r1.below (by (repeat first | with_reducible assumption | with_reducible exact Below.refl _ _ | with_reducible refine Below.drew ?_ | (with_reducible refine Below.setCell ?_ (by first | exact Nat.le_refl _ | (simp only [World.size_alloc, World.size_drew, size_set]; omega) | omega) _) | (with_reducible refine Below.alloc ?_ (by first | exact Nat.le_refl _ | (simp only [World.size_alloc, World.size_drew, size_set]; omega) | omega) _)))) (flat4_one _) (by unfold maxLen; omega) (by omega) (by first | exact Nat.le_refl _ | (simp only [World.size_alloc, World.size_drew, size_set]; omega) | omega) (w2.heap.size) 25 #[.int .i64 num, .int .i64 dn, .slice X m d, .bool sp] (by first | with_reducible exact blk1 _ _ _ | with_reducible exact blk2 _ _ _ _ | with_reducible exact blk3 _ _ _ _ | with_reducible exact Blk.drew (blk1 _ _ _) | with_reducible exact Blk.drew (blk2 _ _ _ _) | with_reducible exact Blk.drew (blk3 _ _ _ _)) (by simp [Value.ownBlock]) ?_; intro v3 w3 ho3 hg3 kB; rw [Nat.zero_add, List.nil_append] at ho3; have hb3 : Below w2.heap.size w2 w3 := Below.grown (by (repeat first | with_reducible assumption | with_reducible exact Below.refl _ _ | with_reducible refine Below.drew ?_ | (with_reducible refine Below.setCell ?_ (by first | exact Nat.le_refl _ | (simp only [World.size_alloc, World.size_drew, size_set]; omega) | omega) _) | (with_reducible refine Below.alloc ?_ (by first | exact Nat.le_refl _ | (simp only [World.size_alloc, World.size_drew, size_set]; omega) | omega) _))) hg3 (by first | exact Nat.le_refl _ | (simp only [World.size_alloc, World.size_drew, size_set]; omega) | omega) (fun q hq => by simp [Value.ownBlock] at hq; omega); obtain ⟨A3, c3, rfl, _, _⟩ := own_slice ho3; have hs3 := hb3.size) | (refine step_append_any _ rfl (.tmp 18) (.tmp 19) 22 rfl w2.heap.size 25 i0 _ 4 48 Try.underlying22 hi0 hz0 hz1 hz2 rfl (by omega) (.slice (some ⟨w2.heap.size, 0, none⟩) 0 0) 0 [] rfl (own_empty (size := 4) (by first | with_reducible exact blk1 _ _ _ | with_reducible exact blk2 _ _ _ _ | with_reducible exact blk3 _ _ _ _ | with_reducible exact Blk.drew (blk1 _ _ _) | with_reducible exact Blk.drew (blk2 _ _ _ _) | with_reducible exact Blk.drew (blk3 _ _ _ _)) (by omega)) w2.heap.size A n c _ rfl (r1.below (by (repeat first | with_reducible assumption | with_reducible exact Below.refl _ _ | with_reducible refine Below.drew ?_ | (with_reducible refine Below.setCell ?_ (by first | exact Nat.le_refl _ | (simp only [World.size_alloc, World.size_drew, size_set]; omega) | omega) _) | (with_reducible refine Below.alloc ?_ (by first | exact Nat.le_refl _ | (simp only [World.size_alloc, World.size_drew, size_set]; omega) | omega) _)))) (flat4_one _) (by unfold maxLen; omega) (by omega) (by first | exact Nat.le_refl _ | (simp only [World.size_alloc, World.size_drew, size_set]; omega) | omega) ?_; intro v3 w3 ho3 hg3 _; rw [Nat.zero_add, List.nil_append] at ho3; have hb3 : Below w2.heap.size w2 w3 := Below.grown (by (repeat first | with_reducible assumption | with_reducible exact Below.refl _ _ | with_reducible refine Below.drew ?_ | (with_reducible refine Below.setCell ?_ (by first | exact Nat.le_refl _ | (simp only [World.size_alloc, World.size_drew, size_set]; omega) | omega) _) | (with_reducible refine Below.alloc ?_ (by first | exact Nat.le_refl _ | (simp only [World.size_alloc, World.size_drew, size_set]; omega) | omega) _))) hg3 (by first | exact Nat.le_refl _ | (simp only [World.size_alloc, World.size_drew, size_set]; omega) | omega) (fun q hq => by simp [Value.ownBlock] at hq; omega); obtain ⟨A3, c3, rfl, _, _⟩ := own_slice ho3; have hs3 := hb3.size) | (refine step_append_any _ rfl (.tmp 20) (.tmp 22) 22 rfl w2.heap.size 25 i0 _ 4 48 Try.underlying22 hi0 hz0 hz1 hz2 rfl (by omega) (.slice A3 n c3) n _ rfl (by first | exact ho3 | exact ho3.alloc _) (w2.heap.size + 1 + 1) (some ⟨w2.heap.size + 1, 0, none⟩) 1 1 _ rfl (reads_blk (size := 4) kB rfl) (one4 _ _ _ _ _ _) (by unfold maxLen; omega) (by omega) (by first | exact Nat.le_refl _ | (simp only [World.size_alloc, World.size_drew, size_set]; omega) | omega) ?_; intro v5 w5 ho5 hg5 _; have hb5 : Below w2.heap.size w2 w5 := Below.grown (by (repeat first | with_reducible assumption | with_reducible exact Below.refl _ _ | with_reducible refine Below.drew ?_ | (with_reducible refine Below.setCell ?_ (by first | exact Nat.le_refl _ | (simp only [World.size_alloc, World.size_drew, size_set]; omega) | omega) _) | (with_reducible refine Below.alloc ?_ (by first | exact Nat.le_refl _ | (simp only [World.size_alloc, World.size_drew, size_set]; omega) | omega) _))) hg5 (by first | exact Nat.le_refl _ | (simp only [World.size_alloc, World.size_drew, size_set]; omega) | omega) (fun q hq => own_base ho3 hq); obtain ⟨A5, c5, rfl, _, ro⟩ := own_slice ho5) | (refine step_append_any _ rfl (.tmp 20) (.tmp 22) 22 rfl w2.heap.size 25 i0 _ 4 48 Try.underlying22 hi0 hz0 hz1 hz2 rfl (by omega) (.slice A3 n c3) n _ rfl (by first | exact ho3 | exact ho3.alloc _) (w2.heap.size + 1) (some ⟨w2.heap.size, 0, none⟩) 1 1 _ rfl (reads_blk (size := 4) kB rfl) (one4 _ _ _ _ _ _) (by unfold maxLen; omega) (by omega) (by first | exact Nat.le_refl _ | (simp only [World.size_alloc, World.size_drew, size_set]; omega) | omega) ?_; intro v5 w5 ho5 hg5 _; have hb5 : Below w2.heap.size w2 w5 := Below.grown (by (repeat first | with_reducible assumption | with_reducible exact Below.refl _ _ | with_reducible refine Below.drew ?_ | (with_reducible refine Below.setCell ?_ (by first | exact Nat.le_refl _ | (simp only [World.size_alloc, World.size_drew, size_set]; omega) | omega) _) | (with_reducible refine Below.alloc ?_ (by first | exact Nat.le_refl _ | (simp only [World.size_alloc, World.size_drew, size_set]; omega) | omega) _))) hg5 (by first | exact Nat.le_refl _ | (simp only [World.size_alloc, World.size_drew, size_set]; omega) | omega) (fun q hq => own_base ho3 hq); obtain ⟨A5, c5, rfl, _, ro⟩ := own_slice ho5) | (refine step_append_any _ rfl (.tmp 20) (.tmp 22) 22 rfl w2.heap.size 25 i0 _ 4 48 Try.underlying22 hi0 hz0 hz1 hz2 rfl (by omega) (.slice A3 n c3) n _ rfl (by first | exact ho3 | exact ho3.alloc _) (w3.heap.size + 1) (some ⟨w3.heap.size, 0, none⟩) 1 1 _ rfl (reads_blk (size := 4) (by first | with_reducible exact blk1 _ _ _ | with_reducible exact blk2 _ _ _ _ | with_reducible exact blk3 _ _ _ _ | with_reducible exact Blk.drew (blk1 _ _ _) | with_reducible exact Blk.drew (blk2 _ _ _ _) | with_reducible exact Blk.drew (blk3 _ _ _ _)) rfl) (one4 _ _ _ _ _ _) (by unfold maxLen; omega) (by omega) (by first | exact Nat.le_refl _ | (simp only [World.size_alloc, World.size_drew, size_set]; omega) | omega) ?_; intro v5 w5 ho5 hg5 _; have hb5 : Below w2.heap.size w2 w5 := Below.grown (by (repeat first | with_reducible assumption | with_reducible exact Below.refl _ _ | with_reducible refine Below.drew ?_ | (with_reducible refine Below.setCell ?_ (by first | exact Nat.le_refl _ | (simp only [World.size_alloc, World.size_drew, size_set]; omega) | omega) _) | (with_reducible refine Below.alloc ?_ (by first | exact Nat.le_refl _ | (simp only [World.size_alloc, World.size_drew, size_set]; omega) | omega) _))) hg5 (by first | exact Nat.le_refl _ | (simp only [World.size_alloc, World.size_drew, size_set]; omega) | omega) (fun q hq => own_base ho3 hq); obtain ⟨A5, c5, rfl, _, ro⟩ := own_slice ho5) | (go_at_call 5; (with_reducible refine (htw _ A5 c5 ro hb5).mono ?_); rintro en w6 ⟨Ao, co, rfl, hb6, ho6⟩; have hb7 : Below w2.heap.size w2 w6 := hb5.trans (hb6.mono hb5.size)))
      all_goals
        have hb10 := hb.trans (hb7.mono hb.size)
        clear hb6 hb5 hb7 SB htw
        go_wp2
        go_ret2
        exact ⟨Ao, co, by rw [List.length_append, gln.out]; rfl, by simp only [List.length_append, gln.out, List.length_cons, List.length_nil]; exact ho6, hb10⟩
end Go.Proofs.Ytbiodoeimbfbnaa
