/- Timer: the walk of TimerDue -/
import Derived.Test.YthageikchniahaaTY
namespace Go.Proofs.Ythageikchniahaa
open Go.ChangeShapes Go.WideShapes Go.ChangeAt Go.RowKit
set_option linter.unusedSimpArgs false
set_option linter.unusedVariables false

theorem wpList_append_g {P : Program} {w : World} {ops : Array Oper} {rest : List Oper} {o : Oper} {a : Act} {Q : Exit → Act → World → Prop} (hw : Region.wanted o (yielded ops a.tmps) = true) (s x : Operand) (t : TypeId)
    (ho : o.op = .call { callee := .builtin .append, args := #[s, x], argTypes := #[t, t] })
    (base : Nat) (e : TypeId) (i : TypeInfo) (z : Value) (size bytes : Nat) (ht : P.underlying t = some (.slice e)) (hi : P.info? e = some i) (hz : i.zero = some z)
    (hsize : i.size = size) (hby : i.bytes = bytes) (hzs : z.cells.size = size) (hsz : 0 < size)
    (v : Value) (n : Nat) (xs : List Value) (hs : a.eval s = v) (hown : w.ownsRow base e size v n xs)
    (B : Nat) (A : Option Addr) (m c : Nat) (news : List Value) (hx : a.eval x = .slice A m c) (hr : Reads w B size A m news) (h1 : ∀ u ∈ news, u.oneCell' = true)
    (h63 : n + m ≤ maxLen) (hbytes : (n + m) * bytes ≤ 140737488355328) (hbase : base ≤ w.heap.size)
    (h : ∀ v' w', w'.ownsRow base e size v' (n + m) (xs ++ news) → w.grownBy w' v.ownBlock → (v'.ownBlock = v.ownBlock ∨ v'.ownBlock = some w.heap.size) → wpList P ops Q rest (a.put o.dst v') w') : wpList P ops Q (o :: rest) a w :=
  wpList_step fun K hK => by
    rw [if_pos hw]
    exact wp_append_any w s x t ho base e i z size bytes ht hi hz hsize hby hzs hsz v n xs hs hown B A m c news hx hr h1 h63 hbytes hbase fun v' w' h2 h3 h4 => hK _ _ (h v' w' h2 h3 h4)
theorem due_split (now : Int) : ∀ {l : List Tm}, Str l → l.filter (fun t => decide (t.1 ≤ now)) ++ l.filter (fun t => !decide (t.1 ≤ now)) = l
  | [], _ => rfl
  | x :: r, h => by
    have h1 := List.pairwise_cons.1 h
    have ih := due_split now h1.2
    by_cases hx : x.1 ≤ now
    · rw [List.filter_cons_of_pos (by simp [hx]), List.filter_cons_of_neg (by simp [hx]), List.cons_append, ih]
    · have hr : ∀ y ∈ r, ¬ y.1 ≤ now := fun y hy => by
        have := ahd_iff.1 (h1.1 y hy)
        omega
      rw [List.filter_cons_of_neg (by simp [hx]), List.filter_cons_of_pos (by simp [hx])]
      have e1 : r.filter (fun t => decide (t.1 ≤ now)) = [] := by
        rw [List.filter_eq_nil_iff]
        intro y hy
        simp [hr y hy]
      rw [e1] at ih ⊢
      rw [List.nil_append] at ih ⊢
      rw [ih]
theorem str_filter {l : List Tm} (h : Str l) (p : Tm → Bool) : Str (l.filter p) := List.Pairwise.filter p h
theorem chk_filter {l : List Tm} (h : chkE l = 0) (p : Tm → Bool) : chkE (l.filter p) = 0 := by
  obtain ⟨h1, h2, h3⟩ := chk_str h
  have hs := str_filter h2 p
  have hl := List.length_filter_le p l
  refine chk_ok (by omega) (fun k hk => ⟨h3 _ (List.mem_filter.1 (List.mem_of_getElem? (tz_lt hk))).1, fun h0 => ?_⟩)
  have := adj_str hs (k - 1) (by omega)
  rwa [show k - 1 + 1 = k by omega] at this
/-- What is asked at a later tick, of what was left. -/
theorem due_later {l : List Tm} {now later : Int} (h : dueE l now = 0) : chkE l = 0 ∧ dueE (dueB l now) later = dueE l later := by
  have hc : chkE l = 0 := by
    rcases chk_vals l with e | e | e
    · exact e
    · rw [(due_chk (now := now) (by decide) e).1] at h; cases h
    · rw [(due_chk (now := now) (by decide) e).1] at h; cases h
  refine ⟨hc, ?_⟩
  have hb : chkE (dueB l now) = 0 := by
    unfold dueB
    rw [if_pos h]
    exact chk_filter hc _
  by_cases ha : later < 0 ∨ 2147483647 < later
  · rw [(due_arg hb ha).1, (due_arg hc ha).1]
  · rw [(due_ok hb ha).1, (due_ok hc ha).1]
theorem due_none {l : List Tm} {now : Int} (h : dueE l now ≠ 0) : dueA l now = [] ∧ dueB l now = [] := by
  unfold dueA dueB
  rw [if_neg h, if_neg h]
  exact ⟨rfl, rfl⟩
theorem due_ab {l : List Tm} {now : Int} (h : dueE l now = 0) : dueA l now ++ dueB l now = l ∧ (∀ t ∈ dueA l now, t.1 ≤ now) ∧ (∀ t ∈ dueB l now, now < t.1) ∧ dueA l now = l.filter (fun t => decide (t.1 ≤ now)) ∧ dueB l now = l.filter (fun t => !decide (t.1 ≤ now)) := by
  have hc := (due_later (later := 0) h).1
  obtain ⟨_, hs, _⟩ := chk_str hc
  have ea : dueA l now = l.filter (fun t => decide (t.1 ≤ now)) := by unfold dueA; rw [if_pos h]
  have eb : dueB l now = l.filter (fun t => !decide (t.1 ≤ now)) := by unfold dueB; rw [if_pos h]
  refine ⟨by rw [ea, eb]; exact due_split now hs, fun t ht => ?_, fun t ht => ?_, ea, eb⟩
  · rw [ea, List.mem_filter] at ht
    exact of_decide_eq_true ht.2
  · rw [eb, List.mem_filter] at ht
    have := ht.2
    simp at this
    exact this
theorem due_before {l : List Tm} {now later : Int} (h : dueE l now = 0) (h2 : dueE (dueB l now) later = 0) (hl : later < now) : dueA (dueB l now) later = [] ∧ dueB (dueB l now) later = dueB l now := by
  obtain ⟨_, _, hb, _⟩ := due_ab h
  obtain ⟨_, _, _, e1, e2⟩ := due_ab h2
  refine ⟨?_, ?_⟩
  · rw [e1, List.filter_eq_nil_iff]
    intro t ht
    have := hb t ht
    simp
    omega
  · rw [e2, List.filter_eq_self]
    intro t ht
    have := hb t ht
    simp
    omega
theorem due_after {l : List Tm} {now later : Int} (h : dueE l now = 0) (h2 : dueE (dueB l now) later = 0) (hl : ¬ later < now) : dueA l now ++ dueA (dueB l now) later = dueA l later ∧ dueB (dueB l now) later = dueB l later := by
  have hc := due_later (later := later) h
  rw [hc.2] at h2
  obtain ⟨_, hs, _⟩ := chk_str hc.1
  obtain ⟨_, _, _, e1, e2⟩ := due_ab h
  obtain ⟨_, _, _, e3, e4⟩ := due_ab h2
  have h3 : dueE (dueB l now) later = 0 := by rw [hc.2]; exact h2
  obtain ⟨_, _, _, e5, e6⟩ := due_ab h3
  have k1 : l.filter (fun t => decide (t.1 ≤ now)) = (l.filter (fun t => decide (t.1 ≤ later))).filter (fun t => decide (t.1 ≤ now)) := by
    rw [List.filter_filter]
    apply List.filter_congr
    intro t _
    by_cases ht : t.1 ≤ now
    · simp [ht]; omega
    · simp [ht]
  have k2 : (l.filter (fun t => !decide (t.1 ≤ now))).filter (fun t => decide (t.1 ≤ later)) = (l.filter (fun t => decide (t.1 ≤ later))).filter (fun t => !decide (t.1 ≤ now)) := by
    rw [List.filter_filter, List.filter_filter]
    apply List.filter_congr
    intro t _
    exact Bool.and_comm _ _
  have k3 : (l.filter (fun t => !decide (t.1 ≤ now))).filter (fun t => !decide (t.1 ≤ later)) = l.filter (fun t => !decide (t.1 ≤ later)) := by
    rw [List.filter_filter]
    apply List.filter_congr
    intro t _
    by_cases ht : t.1 ≤ later
    · simp [ht]
    · have : ¬ t.1 ≤ now := by omega
      simp [ht, this]
  refine ⟨?_, ?_⟩
  · rw [e5, e1, e2, e3, k1, k2]
    exact due_split now (str_filter hs _)
  · rw [e6, e2, e4, k3]

set_option maxRecDepth 100000 in
set_option maxHeartbeats 64000000 in
theorem TimerDue.walk (A : Option Addr) (n c : Nat) (l : List Tm) (now later : Int) (w : World) (h : Tms w w.heap.size A n l) : Calls Try.prog 4 #[.slice A n c, .int .i64 now, .int .i64 later] w fun en w' => en = .returned (.bool true) ∧ Below w.heap.size w w' := by
  have gl := Lib.hid h.1
  obtain ⟨i0, hi0, hz0, hz1, hz2⟩ := info_parts infoT
  have gL : Hid (∀ v', Below w.heap.size w v' → Tms v' v'.heap.size A n l) := Lib.hid (fun v' hb => h.go hb hb.size)
  have hal := alive_any w
  obtain ⟨G, hG⟩ : ∃ G, grT n = G := ⟨_, rfl⟩
  have hg := fun v => rgreat_any A n c v G hG
  clear h
  cases G with
  | true =>
    clear hG gL
    go_enter Try.func4, Try.ntmps4
    go_wp2_with fail
    refine hal.mono ?_
    rintro en x1 ⟨rfl, hb⟩
    go_wp2_with fail
    refine (hg x1).mono ?_
    rintro en w1 ⟨rfl, hw1⟩
    obtain rfl := hw1.symm
    go_wp2
    go_ret
    exact ⟨rfl, hb⟩
  | false =>
    have hn : n ≤ 1028 := by
      unfold grT at hG
      simp at hG
      omega
    clear hG
    obtain ⟨E, hE⟩ : ∃ E, dueE l now = E := ⟨_, rfl⟩
    obtain ⟨ma, hma⟩ : ∃ m, (dueA l now).length = m := ⟨_, rfl⟩
    obtain ⟨mb, hmb⟩ : ∃ m, (dueB l now).length = m := ⟨_, rfl⟩
    have hmA : ma ≤ n := by
      rw [← hma, ← gl.out]
      unfold dueA
      split
      · exact List.length_filter_le _ _
      · simp
    have hmB : mb ≤ n := by
      rw [← hmb, ← gl.out]
      unfold dueB
      split
      · exact List.length_filter_le _ _
      · simp
    have gdn : Hid (∀ A n c w', Tms w' w'.heap.size A n l → n ≤ 5000 → Calls Try.prog 14 #[.slice A n c, .int .i64 now] w' fun en w2 => ∃ A' c' A2 c2, en = .returned (.tuple #[.slice A' ma c', .slice A2 mb c2, .int .i64 E]) ∧ w2.ownsRow w'.heap.size 35 2 (.slice A' ma c') ma (T2 (dueA l now)) ∧ w2.ownsRow w'.heap.size 35 2 (.slice A2 mb c2) mb (T2 (dueB l now)) ∧ Apart (.slice A' ma c') (.slice A2 mb c2) ∧ Below w'.heap.size w' w2) := Lib.hid (fun A n c w' ht hn => by
      have h := due_any A n c l now hn w' ht
      unfold DuePost at h
      rw [hE, hma, hmb] at h
      exact h)
    by_cases hE0 : E = 0
    rotate_left
    · have e1 : (E != 0) = true := bne_iff_ne.2 hE0
      have hz := due_none (l := l) (now := now) (by rw [hE]; exact hE0)
      have ha0 : ((ma : Int) == 0) = true := by rw [← hma, hz.1]; rfl
      have hb0 : ((mb : Int) == 0) = true := by rw [← hmb, hz.2]; rfl
      clear hE hma hmb hE0 hz
      go_enter Try.func4, Try.ntmps4
      go_wp2_with fail
      refine hal.mono ?_
      rintro en x1 ⟨rfl, hb⟩
      go_wp2_with fail
      refine (hg x1).mono ?_
      rintro en w1 ⟨rfl, hw1⟩
      obtain rfl := hw1.symm
      go_wp2_with fail
      refine (gdn.out A n c x1 (gL.out x1 hb) (by omega)).mono ?_
      rintro en x2 ⟨Ara, cra, Arb, crb, rfl, _, _, _, hb2⟩
      go_wp2
      go_ret
      exact ⟨rfl, hb.trans (hb2.mono hb.size)⟩
    have e1 : (E != 0) = false := by rw [hE0]; rfl
    have gE : Hid (dueE l now = 0) := Lib.hid (by rw [hE, hE0])
    have gab := Lib.hid (due_ab gE.out).1
    have gma := Lib.hid hma
    have gmb := Lib.hid hmb
    obtain ⟨F, hF⟩ : ∃ F, dueE l later = F := ⟨_, rfl⟩
    obtain ⟨me, hme⟩ : ∃ m, (dueA (dueB l now) later).length = m := ⟨_, rfl⟩
    obtain ⟨mf, hmf⟩ : ∃ m, (dueB (dueB l now) later).length = m := ⟨_, rfl⟩
    obtain ⟨mg, hmg⟩ : ∃ m, (dueA l later).length = m := ⟨_, rfl⟩
    obtain ⟨mh, hmh⟩ : ∃ m, (dueB l later).length = m := ⟨_, rfl⟩
    have hmE : me ≤ mb := by
      rw [← hme, ← hmb]
      generalize dueB l now = b
      unfold dueA
      split
      · exact List.length_filter_le _ _
      · simp
    have gF2 : Hid (dueE (dueB l now) later = F) := Lib.hid (by rw [(due_later gE.out).2, hF])
    have glb : Hid (∀ A c w', Tms w' w'.heap.size A mb (dueB l now) → Calls Try.prog 14 #[.slice A mb c, .int .i64 later] w' fun en w2 => ∃ A' c' A2 c2, en = .returned (.tuple #[.slice A' me c', .slice A2 mf c2, .int .i64 F]) ∧ w2.ownsRow w'.heap.size 35 2 (.slice A' me c') me (T2 (dueA (dueB l now) later)) ∧ w2.ownsRow w'.heap.size 35 2 (.slice A2 mf c2) mf (T2 (dueB (dueB l now) later)) ∧ Apart (.slice A' me c') (.slice A2 mf c2) ∧ Below w'.heap.size w' w2) := Lib.hid (fun A c w' ht => by
      have h := due_any A mb c (dueB l now) later (by omega) w' ht
      unfold DuePost at h
      rw [gF2.out, hme, hmf] at h
      exact h)
    have gll : Hid (∀ A n c w', Tms w' w'.heap.size A n l → n ≤ 5000 → Calls Try.prog 14 #[.slice A n c, .int .i64 later] w' fun en w2 => ∃ A' c' A2 c2, en = .returned (.tuple #[.slice A' mg c', .slice A2 mh c2, .int .i64 F]) ∧ w2.ownsRow w'.heap.size 35 2 (.slice A' mg c') mg (T2 (dueA l later)) ∧ w2.ownsRow w'.heap.size 35 2 (.slice A2 mh c2) mh (T2 (dueB l later)) ∧ Apart (.slice A' mg c') (.slice A2 mh c2) ∧ Below w'.heap.size w' w2) := Lib.hid (fun A n c w' ht hn => by
      have h := due_any A n c l later hn w' ht
      unfold DuePost at h
      rw [hF, hmg, hmh] at h
      exact h)
    have gme := Lib.hid hme
    have gmf := Lib.hid hmf
    have gmg := Lib.hid hmg
    have gmh := Lib.hid hmh
    have ff : (F != F) = false := by simp
    clear hE hma hmb hE0 hF hme hmf hmg hmh
    go_enter Try.func4, Try.ntmps4
    go_wp2_with fail
    refine hal.mono ?_
    rintro en x1 ⟨rfl, hb⟩
    have sx1 := hb.size
    have gB := Lib.hid hb
    clear hb hal
    go_wp2_with fail
    refine (hg x1).mono ?_
    rintro en w1 ⟨rfl, hw1⟩
    obtain rfl := hw1.symm
    clear hg hw1
    go_wp2_with fail
    refine (gdn.out A n c x1 (gL.out x1 gB.out) (by omega)).mono ?_
    rintro en x2 ⟨Ara, cra, Arb, crb, rfl, hora, horb, hap, hb⟩
    clear hap
    have hra : Hid (x2.ownsRow x1.heap.size 35 2 (.slice Ara ma cra) ma (T2 (dueA l now)) ∧ (dueA l now).length = ma) := Lib.hid ⟨hora, gma.out⟩
    have ira : Hid (∀ k, (Value.slice Ara ma cra).ownBlock = some k → x1.heap.size ≤ k ∧ k < x2.heap.size) := Lib.hid (fun k hk => ⟨own_base hora hk, own_lt hora hk⟩)
    clear hora
    have hrb : Hid (x2.ownsRow x1.heap.size 35 2 (.slice Arb mb crb) mb (T2 (dueB l now)) ∧ (dueB l now).length = mb) := Lib.hid ⟨horb, gmb.out⟩
    have irb : Hid (∀ k, (Value.slice Arb mb crb).ownBlock = some k → x1.heap.size ≤ k ∧ k < x2.heap.size) := Lib.hid (fun k hk => ⟨own_base horb hk, own_lt horb hk⟩)
    clear horb
    have sx2 := hb.size
    replace gB := Lib.hid (gB.out.trans (hb.mono gB.out.size))
    clear hb
    go_wp2_with (first | (at_builtin; refine wpList_append_any _ rfl (.tmp 45) (.tmp 46) 22 rfl x2.heap.size 35 i0 _ 2 16 Try.underlying22 hi0 hz0 hz1 hz2 rfl (by omega) (.slice (some ⟨x2.heap.size, 0, none⟩) 0 0) 0 [] rfl (own_empty (size := 2) (Blk.new x2 35 #[]) (Nat.le_refl _)) x2.heap.size Ara ma cra (T2 (dueA l now)) rfl ((Reads.of_own hra.out.1).alloc (Nat.le_refl _) _) (T2_one _) (by unfold maxLen; omega) (by omega) (by simp) ?_; intro z1 u3 hy1 hq1 _; have hb1 := Below.grown ((Below.refl x2.heap.size x2).alloc (Nat.le_refl _) (.cells #[] 35)) hq1 (by simp) (fun q hq => by simp [Value.ownBlock] at hq; omega); have sz1 := hb1.size; have hr1 := own_below hrb.out.1 hb1; rw [Nat.zero_add, List.nil_append] at hy1; obtain ⟨Az, cz, rfl, _, _⟩ := own_slice hy1) | (at_builtin; refine wpList_append_any _ rfl (.tmp 47) (.tmp 48) 22 rfl x2.heap.size 35 i0 _ 2 16 Try.underlying22 hi0 hz0 hz1 hz2 rfl (by omega) (.slice Az ma cz) ma (T2 (dueA l now)) rfl hy1 u3.heap.size Arb mb crb (T2 (dueB l now)) rfl (Reads.of_own hr1) (T2_one _) (by unfold maxLen; omega) (by omega) sz1 ?_; intro z2 v3 hy2 hq2 _; have hb2 : Below x2.heap.size x2 v3 := Below.grown hb1 hq2 sz1 (fun q hq => own_base hy1 hq); rw [← T2_app] at hy2; obtain ⟨Arc, crc, rfl, _, _⟩ := own_slice hy2))
    have hrc : Hid (v3.ownsRow x2.heap.size 35 2 (.slice Arc (ma + mb) crc) (ma + mb) (T2 ((dueA l now) ++ (dueB l now))) ∧ ((dueA l now) ++ (dueB l now)).length = ma + mb) := Lib.hid ⟨hy2, by rw [List.length_append, hra.out.2, hrb.out.2]⟩
    have irc : Hid (∀ k, (Value.slice Arc (ma + mb) crc).ownBlock = some k → x2.heap.size ≤ k ∧ k < v3.heap.size) := Lib.hid (fun k hk => ⟨own_base hy2 hk, own_lt hy2 hk⟩)
    clear hq1 hq2 hy1 hy2 hb1 hr1
    have sv3 := hb2.size
    replace hra := Lib.hid (And.intro (own_below hra.out.1 hb2) hra.out.2)
    replace hrb := Lib.hid (And.intro (own_below hrb.out.1 hb2) hrb.out.2)
    replace gB := Lib.hid (gB.out.trans (hb2.mono gB.out.size))
    clear hb2
    refine (rsame_any Arc A (ma + mb) n crc c ((dueA l now) ++ (dueB l now)) l (own_max hrc.out.1) v3 (Tms.of_own hrc.out.1 hrc.out.2) (gL.out v3 gB.out) true (decide_eq_true gab.out)).mono ?_
    rintro en x4 ⟨rfl, hb⟩
    have sx4 := hb.size
    replace hra := Lib.hid (And.intro (own_below hra.out.1 hb) hra.out.2)
    replace hrb := Lib.hid (And.intro (own_below hrb.out.1 hb) hrb.out.2)
    replace hrc := Lib.hid (And.intro (own_below hrc.out.1 hb) hrc.out.2)
    replace gB := Lib.hid (gB.out.trans (hb.mono gB.out.size))
    clear hb
    rcases Nat.eq_zero_or_pos ma with ha0 | ha0
    · have ea : decide ((0 : Int) < ma) = false := decide_eq_false (by omega)
      have ea2 : decide (0 < ma) = false := decide_eq_false (by omega)
      clear ha0
      rcases Nat.eq_zero_or_pos mb with hb0 | hb0
      · have eb : decide ((0 : Int) < mb) = false := decide_eq_false (by omega)
        have eb2 : decide (0 < mb) = false := decide_eq_false (by omega)
        clear hb0
        by_cases hF : F = 0
        rotate_left
        · have f1 : (F != 0) = true := bne_iff_ne.2 hF
          have gme0 : me = 0 := by rw [← gme.out, (due_none (by rw [gF2.out]; exact hF)).1]; rfl
          have fm : ((me : Int) == 0) = true := by rw [gme0]; rfl
          clear gme0 hF
          go_wp2_with fail
          refine (glb.out Arb crb x4 (Tms.of_own hrb.out.1 hrb.out.2)).mono ?_
          rintro en x5 ⟨Are, cre, Arf, crf, rfl, hore, horf, hap, hb⟩
          clear hap
          have hre : Hid (x5.ownsRow x4.heap.size 35 2 (.slice Are me cre) me (T2 (dueA (dueB l now) later)) ∧ (dueA (dueB l now) later).length = me) := Lib.hid ⟨hore, gme.out⟩
          have ire : Hid (∀ k, (Value.slice Are me cre).ownBlock = some k → x4.heap.size ≤ k ∧ k < x5.heap.size) := Lib.hid (fun k hk => ⟨own_base hore hk, own_lt hore hk⟩)
          clear hore
          have hrf : Hid (x5.ownsRow x4.heap.size 35 2 (.slice Arf mf crf) mf (T2 (dueB (dueB l now) later)) ∧ (dueB (dueB l now) later).length = mf) := Lib.hid ⟨horf, gmf.out⟩
          have irf : Hid (∀ k, (Value.slice Arf mf crf).ownBlock = some k → x4.heap.size ≤ k ∧ k < x5.heap.size) := Lib.hid (fun k hk => ⟨own_base horf hk, own_lt horf hk⟩)
          clear horf
          have sx5 := hb.size
          replace hra := Lib.hid (And.intro (own_below hra.out.1 hb) hra.out.2)
          replace hrb := Lib.hid (And.intro (own_below hrb.out.1 hb) hrb.out.2)
          replace hrc := Lib.hid (And.intro (own_below hrc.out.1 hb) hrc.out.2)
          replace gB := Lib.hid (gB.out.trans (hb.mono gB.out.size))
          clear hb
          go_wp2_with fail
          refine (gll.out A n c x5 (gL.out x5 gB.out) (by omega)).mono ?_
          rintro en x6 ⟨Arg, crg, Arh, crh, rfl, horg, horh, hap, hb⟩
          clear hap
          have hrg : Hid (x6.ownsRow x5.heap.size 35 2 (.slice Arg mg crg) mg (T2 (dueA l later)) ∧ (dueA l later).length = mg) := Lib.hid ⟨horg, gmg.out⟩
          have irg : Hid (∀ k, (Value.slice Arg mg crg).ownBlock = some k → x5.heap.size ≤ k ∧ k < x6.heap.size) := Lib.hid (fun k hk => ⟨own_base horg hk, own_lt horg hk⟩)
          clear horg
          have hrh : Hid (x6.ownsRow x5.heap.size 35 2 (.slice Arh mh crh) mh (T2 (dueB l later)) ∧ (dueB l later).length = mh) := Lib.hid ⟨horh, gmh.out⟩
          have irh : Hid (∀ k, (Value.slice Arh mh crh).ownBlock = some k → x5.heap.size ≤ k ∧ k < x6.heap.size) := Lib.hid (fun k hk => ⟨own_base horh hk, own_lt horh hk⟩)
          clear horh
          have sx6 := hb.size
          replace hra := Lib.hid (And.intro (own_below hra.out.1 hb) hra.out.2)
          replace hrb := Lib.hid (And.intro (own_below hrb.out.1 hb) hrb.out.2)
          replace hrc := Lib.hid (And.intro (own_below hrc.out.1 hb) hrc.out.2)
          replace hre := Lib.hid (And.intro (own_below hre.out.1 hb) hre.out.2)
          replace hrf := Lib.hid (And.intro (own_below hrf.out.1 hb) hrf.out.2)
          replace gB := Lib.hid (gB.out.trans (hb.mono gB.out.size))
          clear hb
          go_wp2
          go_ret
          exact ⟨rfl, gB.out⟩
        by_cases hlt : later < now
        · have f1 : (F != 0) = false := by rw [hF]; rfl
          have f2 : decide (later < now) = true := decide_eq_true hlt
          have hz := due_before gE.out (by rw [gF2.out, hF]) hlt
          have gme0 : me = 0 := by rw [← gme.out, hz.1]; rfl
          have fm : ((me : Int) == 0) = true := by rw [gme0]; rfl
          have gz := Lib.hid hz
          have f0 : (F == 0) = true := by rw [hF]; rfl
          clear gme0 hF hz hlt
          go_wp2_with fail
          refine (glb.out Arb crb x4 (Tms.of_own hrb.out.1 hrb.out.2)).mono ?_
          rintro en x5 ⟨Are, cre, Arf, crf, rfl, hore, horf, hap, hb⟩
          clear hap
          have hre : Hid (x5.ownsRow x4.heap.size 35 2 (.slice Are me cre) me (T2 (dueA (dueB l now) later)) ∧ (dueA (dueB l now) later).length = me) := Lib.hid ⟨hore, gme.out⟩
          have ire : Hid (∀ k, (Value.slice Are me cre).ownBlock = some k → x4.heap.size ≤ k ∧ k < x5.heap.size) := Lib.hid (fun k hk => ⟨own_base hore hk, own_lt hore hk⟩)
          clear hore
          have hrf : Hid (x5.ownsRow x4.heap.size 35 2 (.slice Arf mf crf) mf (T2 (dueB (dueB l now) later)) ∧ (dueB (dueB l now) later).length = mf) := Lib.hid ⟨horf, gmf.out⟩
          have irf : Hid (∀ k, (Value.slice Arf mf crf).ownBlock = some k → x4.heap.size ≤ k ∧ k < x5.heap.size) := Lib.hid (fun k hk => ⟨own_base horf hk, own_lt horf hk⟩)
          clear horf
          have sx5 := hb.size
          replace hra := Lib.hid (And.intro (own_below hra.out.1 hb) hra.out.2)
          replace hrb := Lib.hid (And.intro (own_below hrb.out.1 hb) hrb.out.2)
          replace hrc := Lib.hid (And.intro (own_below hrc.out.1 hb) hrc.out.2)
          replace gB := Lib.hid (gB.out.trans (hb.mono gB.out.size))
          clear hb
          go_wp2_with fail
          refine (gll.out A n c x5 (gL.out x5 gB.out) (by omega)).mono ?_
          rintro en x6 ⟨Arg, crg, Arh, crh, rfl, horg, horh, hap, hb⟩
          clear hap
          have hrg : Hid (x6.ownsRow x5.heap.size 35 2 (.slice Arg mg crg) mg (T2 (dueA l later)) ∧ (dueA l later).length = mg) := Lib.hid ⟨horg, gmg.out⟩
          have irg : Hid (∀ k, (Value.slice Arg mg crg).ownBlock = some k → x5.heap.size ≤ k ∧ k < x6.heap.size) := Lib.hid (fun k hk => ⟨own_base horg hk, own_lt horg hk⟩)
          clear horg
          have hrh : Hid (x6.ownsRow x5.heap.size 35 2 (.slice Arh mh crh) mh (T2 (dueB l later)) ∧ (dueB l later).length = mh) := Lib.hid ⟨horh, gmh.out⟩
          have irh : Hid (∀ k, (Value.slice Arh mh crh).ownBlock = some k → x5.heap.size ≤ k ∧ k < x6.heap.size) := Lib.hid (fun k hk => ⟨own_base horh hk, own_lt horh hk⟩)
          clear horh
          have sx6 := hb.size
          replace hra := Lib.hid (And.intro (own_below hra.out.1 hb) hra.out.2)
          replace hrb := Lib.hid (And.intro (own_below hrb.out.1 hb) hrb.out.2)
          replace hrc := Lib.hid (And.intro (own_below hrc.out.1 hb) hrc.out.2)
          replace hre := Lib.hid (And.intro (own_below hre.out.1 hb) hre.out.2)
          replace hrf := Lib.hid (And.intro (own_below hrf.out.1 hb) hrf.out.2)
          replace gB := Lib.hid (gB.out.trans (hb.mono gB.out.size))
          clear hb
          go_wp2_with fail
          refine (rsame_any Arf Arb mf mb crf crb (dueB (dueB l now) later) (dueB l now) (own_max hrf.out.1) x6 (Tms.of_own hrf.out.1 hrf.out.2) (Tms.of_own hrb.out.1 hrb.out.2) true (decide_eq_true gz.out.2)).mono ?_
          rintro en x7 ⟨rfl, hb⟩
          have sx7 := hb.size
          replace hra := Lib.hid (And.intro (own_below hra.out.1 hb) hra.out.2)
          replace hrb := Lib.hid (And.intro (own_below hrb.out.1 hb) hrb.out.2)
          replace hrc := Lib.hid (And.intro (own_below hrc.out.1 hb) hrc.out.2)
          replace hre := Lib.hid (And.intro (own_below hre.out.1 hb) hre.out.2)
          replace hrf := Lib.hid (And.intro (own_below hrf.out.1 hb) hrf.out.2)
          replace hrg := Lib.hid (And.intro (own_below hrg.out.1 hb) hrg.out.2)
          replace hrh := Lib.hid (And.intro (own_below hrh.out.1 hb) hrh.out.2)
          replace gB := Lib.hid (gB.out.trans (hb.mono gB.out.size))
          clear hb
          go_wp2
          go_ret
          exact ⟨rfl, gB.out⟩
        · have f1 : (F != 0) = false := by rw [hF]; rfl
          have f2 : decide (later < now) = false := decide_eq_false hlt
          have gz := Lib.hid (due_after gE.out (by rw [gF2.out, hF]) hlt)
          have f0 : (F == 0) = true := by rw [hF]; rfl
          clear hF hlt
          go_wp2_with fail
          refine (glb.out Arb crb x4 (Tms.of_own hrb.out.1 hrb.out.2)).mono ?_
          rintro en x5 ⟨Are, cre, Arf, crf, rfl, hore, horf, hap, hb⟩
          clear hap
          have hre : Hid (x5.ownsRow x4.heap.size 35 2 (.slice Are me cre) me (T2 (dueA (dueB l now) later)) ∧ (dueA (dueB l now) later).length = me) := Lib.hid ⟨hore, gme.out⟩
          have ire : Hid (∀ k, (Value.slice Are me cre).ownBlock = some k → x4.heap.size ≤ k ∧ k < x5.heap.size) := Lib.hid (fun k hk => ⟨own_base hore hk, own_lt hore hk⟩)
          clear hore
          have hrf : Hid (x5.ownsRow x4.heap.size 35 2 (.slice Arf mf crf) mf (T2 (dueB (dueB l now) later)) ∧ (dueB (dueB l now) later).length = mf) := Lib.hid ⟨horf, gmf.out⟩
          have irf : Hid (∀ k, (Value.slice Arf mf crf).ownBlock = some k → x4.heap.size ≤ k ∧ k < x5.heap.size) := Lib.hid (fun k hk => ⟨own_base horf hk, own_lt horf hk⟩)
          clear horf
          have sx5 := hb.size
          replace hra := Lib.hid (And.intro (own_below hra.out.1 hb) hra.out.2)
          replace hrb := Lib.hid (And.intro (own_below hrb.out.1 hb) hrb.out.2)
          replace hrc := Lib.hid (And.intro (own_below hrc.out.1 hb) hrc.out.2)
          replace gB := Lib.hid (gB.out.trans (hb.mono gB.out.size))
          clear hb
          go_wp2_with fail
          refine (gll.out A n c x5 (gL.out x5 gB.out) (by omega)).mono ?_
          rintro en x6 ⟨Arg, crg, Arh, crh, rfl, horg, horh, hap, hb⟩
          clear hap
          have hrg : Hid (x6.ownsRow x5.heap.size 35 2 (.slice Arg mg crg) mg (T2 (dueA l later)) ∧ (dueA l later).length = mg) := Lib.hid ⟨horg, gmg.out⟩
          have irg : Hid (∀ k, (Value.slice Arg mg crg).ownBlock = some k → x5.heap.size ≤ k ∧ k < x6.heap.size) := Lib.hid (fun k hk => ⟨own_base horg hk, own_lt horg hk⟩)
          clear horg
          have hrh : Hid (x6.ownsRow x5.heap.size 35 2 (.slice Arh mh crh) mh (T2 (dueB l later)) ∧ (dueB l later).length = mh) := Lib.hid ⟨horh, gmh.out⟩
          have irh : Hid (∀ k, (Value.slice Arh mh crh).ownBlock = some k → x5.heap.size ≤ k ∧ k < x6.heap.size) := Lib.hid (fun k hk => ⟨own_base horh hk, own_lt horh hk⟩)
          clear horh
          have sx6 := hb.size
          replace hra := Lib.hid (And.intro (own_below hra.out.1 hb) hra.out.2)
          replace hrb := Lib.hid (And.intro (own_below hrb.out.1 hb) hrb.out.2)
          replace hrc := Lib.hid (And.intro (own_below hrc.out.1 hb) hrc.out.2)
          replace hre := Lib.hid (And.intro (own_below hre.out.1 hb) hre.out.2)
          replace hrf := Lib.hid (And.intro (own_below hrf.out.1 hb) hrf.out.2)
          replace gB := Lib.hid (gB.out.trans (hb.mono gB.out.size))
          clear hb
          go_wp2_with (first | (at_builtin; refine wpList_append_g (by rfl) (.tmp 123) (.tmp 124) 22 rfl x6.heap.size 35 i0 _ 2 16 Try.underlying22 hi0 hz0 hz1 hz2 rfl (by omega) (.slice (some ⟨x6.heap.size, 0, none⟩) 0 0) 0 [] rfl (own_empty (size := 2) (Blk.new x6 35 #[]) (Nat.le_refl _)) x6.heap.size Ara ma cra (T2 (dueA l now)) rfl ((Reads.of_own hra.out.1).alloc (Nat.le_refl _) _) (T2_one _) (by unfold maxLen; omega) (by omega) (by simp) ?_; intro z1 u7 hy1 hq1 _; have hb1 := Below.grown ((Below.refl x6.heap.size x6).alloc (Nat.le_refl _) (.cells #[] 35)) hq1 (by simp) (fun q hq => by simp [Value.ownBlock] at hq; omega); have sz1 := hb1.size; have hr1 := own_below hre.out.1 hb1; rw [Nat.zero_add, List.nil_append] at hy1; obtain ⟨Az, cz, rfl, _, _⟩ := own_slice hy1) | (at_builtin; refine wpList_append_g (by rfl) (.tmp 125) (.tmp 126) 22 rfl x6.heap.size 35 i0 _ 2 16 Try.underlying22 hi0 hz0 hz1 hz2 rfl (by omega) (.slice Az ma cz) ma (T2 (dueA l now)) rfl hy1 u7.heap.size Are me cre (T2 (dueA (dueB l now) later)) rfl (Reads.of_own hr1) (T2_one _) (by unfold maxLen; omega) (by omega) sz1 ?_; intro z2 v7 hy2 hq2 _; have hb2 : Below x6.heap.size x6 v7 := Below.grown hb1 hq2 sz1 (fun q hq => own_base hy1 hq); rw [← T2_app] at hy2; obtain ⟨Ark, crk, rfl, _, _⟩ := own_slice hy2))
          have hrk : Hid (v7.ownsRow x6.heap.size 35 2 (.slice Ark (ma + me) crk) (ma + me) (T2 ((dueA l now) ++ (dueA (dueB l now) later))) ∧ ((dueA l now) ++ (dueA (dueB l now) later)).length = ma + me) := Lib.hid ⟨hy2, by rw [List.length_append, hra.out.2, hre.out.2]⟩
          have irk : Hid (∀ k, (Value.slice Ark (ma + me) crk).ownBlock = some k → x6.heap.size ≤ k ∧ k < v7.heap.size) := Lib.hid (fun k hk => ⟨own_base hy2 hk, own_lt hy2 hk⟩)
          clear hq1 hq2 hy1 hy2 hb1 hr1
          have sv7 := hb2.size
          replace hra := Lib.hid (And.intro (own_below hra.out.1 hb2) hra.out.2)
          replace hrb := Lib.hid (And.intro (own_below hrb.out.1 hb2) hrb.out.2)
          replace hrc := Lib.hid (And.intro (own_below hrc.out.1 hb2) hrc.out.2)
          replace hre := Lib.hid (And.intro (own_below hre.out.1 hb2) hre.out.2)
          replace hrf := Lib.hid (And.intro (own_below hrf.out.1 hb2) hrf.out.2)
          replace hrg := Lib.hid (And.intro (own_below hrg.out.1 hb2) hrg.out.2)
          replace hrh := Lib.hid (And.intro (own_below hrh.out.1 hb2) hrh.out.2)
          replace gB := Lib.hid (gB.out.trans (hb2.mono gB.out.size))
          clear hb2
          refine (rsame_any Ark Arg (ma + me) mg crk crg ((dueA l now) ++ (dueA (dueB l now) later)) (dueA l later) (own_max hrk.out.1) v7 (Tms.of_own hrk.out.1 hrk.out.2) (Tms.of_own hrg.out.1 hrg.out.2) true (decide_eq_true gz.out.1)).mono ?_
          rintro en x8 ⟨rfl, hb⟩
          have sx8 := hb.size
          replace hra := Lib.hid (And.intro (own_below hra.out.1 hb) hra.out.2)
          replace hrb := Lib.hid (And.intro (own_below hrb.out.1 hb) hrb.out.2)
          replace hrc := Lib.hid (And.intro (own_below hrc.out.1 hb) hrc.out.2)
          replace hre := Lib.hid (And.intro (own_below hre.out.1 hb) hre.out.2)
          replace hrf := Lib.hid (And.intro (own_below hrf.out.1 hb) hrf.out.2)
          replace hrg := Lib.hid (And.intro (own_below hrg.out.1 hb) hrg.out.2)
          replace hrh := Lib.hid (And.intro (own_below hrh.out.1 hb) hrh.out.2)
          replace hrk := Lib.hid (And.intro (own_below hrk.out.1 hb) hrk.out.2)
          replace gB := Lib.hid (gB.out.trans (hb.mono gB.out.size))
          clear hb
          go_wp2_with fail
          refine (rsame_any Arf Arh mf mh crf crh (dueB (dueB l now) later) (dueB l later) (own_max hrf.out.1) x8 (Tms.of_own hrf.out.1 hrf.out.2) (Tms.of_own hrh.out.1 hrh.out.2) true (decide_eq_true gz.out.2)).mono ?_
          rintro en x9 ⟨rfl, hb⟩
          have sx9 := hb.size
          replace hra := Lib.hid (And.intro (own_below hra.out.1 hb) hra.out.2)
          replace hrb := Lib.hid (And.intro (own_below hrb.out.1 hb) hrb.out.2)
          replace hrc := Lib.hid (And.intro (own_below hrc.out.1 hb) hrc.out.2)
          replace hre := Lib.hid (And.intro (own_below hre.out.1 hb) hre.out.2)
          replace hrf := Lib.hid (And.intro (own_below hrf.out.1 hb) hrf.out.2)
          replace hrg := Lib.hid (And.intro (own_below hrg.out.1 hb) hrg.out.2)
          replace hrh := Lib.hid (And.intro (own_below hrh.out.1 hb) hrh.out.2)
          replace hrk := Lib.hid (And.intro (own_below hrk.out.1 hb) hrk.out.2)
          replace gB := Lib.hid (gB.out.trans (hb.mono gB.out.size))
          clear hb
          go_wp2
          go_ret
          exact ⟨rfl, gB.out⟩
      · have eb : decide ((0 : Int) < mb) = true := decide_eq_true (by omega)
        have eb2 : decide (0 < mb) = true := decide_eq_true hb0
        obtain ⟨ad2, hAb, _, hat⟩ := (Tms.of_own hrb.out.1 hrb.out.2).at_ (i := 0) (by omega)
        subst hAb
        obtain ⟨cb, _⟩ := hat x4 (Below.refl _ _)
        rw [Nat.zero_mul, Addr.add_zero'] at cb
        obtain ⟨xb, hxb⟩ : ∃ x, (tz (dueB l now) 0).1 = x := ⟨_, rfl⟩
        rw [hxb] at cb
        have db : decide (xb ≤ now) = false := decide_eq_false (by have := (due_ab gE.out).2.2.1 _ (List.mem_of_getElem? (tz_lt (l := dueB l now) (k := 0) (by rw [gmb.out]; omega))); rw [hxb] at this; omega)
        have q2 : (0 : Int) < mb := by omega
        clear hat hxb hb0
        by_cases hF : F = 0
        rotate_left
        · have f1 : (F != 0) = true := bne_iff_ne.2 hF
          have gme0 : me = 0 := by rw [← gme.out, (due_none (by rw [gF2.out]; exact hF)).1]; rfl
          have fm : ((me : Int) == 0) = true := by rw [gme0]; rfl
          clear gme0 hF
          go_wp2_with fail
          refine (glb.out (some ad2) crb x4 (Tms.of_own hrb.out.1 hrb.out.2)).mono ?_
          rintro en x5 ⟨Are, cre, Arf, crf, rfl, hore, horf, hap, hb⟩
          clear hap
          have hre : Hid (x5.ownsRow x4.heap.size 35 2 (.slice Are me cre) me (T2 (dueA (dueB l now) later)) ∧ (dueA (dueB l now) later).length = me) := Lib.hid ⟨hore, gme.out⟩
          have ire : Hid (∀ k, (Value.slice Are me cre).ownBlock = some k → x4.heap.size ≤ k ∧ k < x5.heap.size) := Lib.hid (fun k hk => ⟨own_base hore hk, own_lt hore hk⟩)
          clear hore
          have hrf : Hid (x5.ownsRow x4.heap.size 35 2 (.slice Arf mf crf) mf (T2 (dueB (dueB l now) later)) ∧ (dueB (dueB l now) later).length = mf) := Lib.hid ⟨horf, gmf.out⟩
          have irf : Hid (∀ k, (Value.slice Arf mf crf).ownBlock = some k → x4.heap.size ≤ k ∧ k < x5.heap.size) := Lib.hid (fun k hk => ⟨own_base horf hk, own_lt horf hk⟩)
          clear horf
          have sx5 := hb.size
          replace hra := Lib.hid (And.intro (own_below hra.out.1 hb) hra.out.2)
          replace hrb := Lib.hid (And.intro (own_below hrb.out.1 hb) hrb.out.2)
          replace hrc := Lib.hid (And.intro (own_below hrc.out.1 hb) hrc.out.2)
          replace gB := Lib.hid (gB.out.trans (hb.mono gB.out.size))
          clear hb
          go_wp2_with fail
          refine (gll.out A n c x5 (gL.out x5 gB.out) (by omega)).mono ?_
          rintro en x6 ⟨Arg, crg, Arh, crh, rfl, horg, horh, hap, hb⟩
          clear hap
          have hrg : Hid (x6.ownsRow x5.heap.size 35 2 (.slice Arg mg crg) mg (T2 (dueA l later)) ∧ (dueA l later).length = mg) := Lib.hid ⟨horg, gmg.out⟩
          have irg : Hid (∀ k, (Value.slice Arg mg crg).ownBlock = some k → x5.heap.size ≤ k ∧ k < x6.heap.size) := Lib.hid (fun k hk => ⟨own_base horg hk, own_lt horg hk⟩)
          clear horg
          have hrh : Hid (x6.ownsRow x5.heap.size 35 2 (.slice Arh mh crh) mh (T2 (dueB l later)) ∧ (dueB l later).length = mh) := Lib.hid ⟨horh, gmh.out⟩
          have irh : Hid (∀ k, (Value.slice Arh mh crh).ownBlock = some k → x5.heap.size ≤ k ∧ k < x6.heap.size) := Lib.hid (fun k hk => ⟨own_base horh hk, own_lt horh hk⟩)
          clear horh
          have sx6 := hb.size
          replace hra := Lib.hid (And.intro (own_below hra.out.1 hb) hra.out.2)
          replace hrb := Lib.hid (And.intro (own_below hrb.out.1 hb) hrb.out.2)
          replace hrc := Lib.hid (And.intro (own_below hrc.out.1 hb) hrc.out.2)
          replace hre := Lib.hid (And.intro (own_below hre.out.1 hb) hre.out.2)
          replace hrf := Lib.hid (And.intro (own_below hrf.out.1 hb) hrf.out.2)
          replace gB := Lib.hid (gB.out.trans (hb.mono gB.out.size))
          clear hb
          go_wp2
          go_ret
          exact ⟨rfl, gB.out⟩
        by_cases hlt : later < now
        · have f1 : (F != 0) = false := by rw [hF]; rfl
          have f2 : decide (later < now) = true := decide_eq_true hlt
          have hz := due_before gE.out (by rw [gF2.out, hF]) hlt
          have gme0 : me = 0 := by rw [← gme.out, hz.1]; rfl
          have fm : ((me : Int) == 0) = true := by rw [gme0]; rfl
          have gz := Lib.hid hz
          have f0 : (F == 0) = true := by rw [hF]; rfl
          clear gme0 hF hz hlt
          go_wp2_with fail
          refine (glb.out (some ad2) crb x4 (Tms.of_own hrb.out.1 hrb.out.2)).mono ?_
          rintro en x5 ⟨Are, cre, Arf, crf, rfl, hore, horf, hap, hb⟩
          clear hap
          have hre : Hid (x5.ownsRow x4.heap.size 35 2 (.slice Are me cre) me (T2 (dueA (dueB l now) later)) ∧ (dueA (dueB l now) later).length = me) := Lib.hid ⟨hore, gme.out⟩
          have ire : Hid (∀ k, (Value.slice Are me cre).ownBlock = some k → x4.heap.size ≤ k ∧ k < x5.heap.size) := Lib.hid (fun k hk => ⟨own_base hore hk, own_lt hore hk⟩)
          clear hore
          have hrf : Hid (x5.ownsRow x4.heap.size 35 2 (.slice Arf mf crf) mf (T2 (dueB (dueB l now) later)) ∧ (dueB (dueB l now) later).length = mf) := Lib.hid ⟨horf, gmf.out⟩
          have irf : Hid (∀ k, (Value.slice Arf mf crf).ownBlock = some k → x4.heap.size ≤ k ∧ k < x5.heap.size) := Lib.hid (fun k hk => ⟨own_base horf hk, own_lt horf hk⟩)
          clear horf
          have sx5 := hb.size
          replace hra := Lib.hid (And.intro (own_below hra.out.1 hb) hra.out.2)
          replace hrb := Lib.hid (And.intro (own_below hrb.out.1 hb) hrb.out.2)
          replace hrc := Lib.hid (And.intro (own_below hrc.out.1 hb) hrc.out.2)
          replace gB := Lib.hid (gB.out.trans (hb.mono gB.out.size))
          clear hb
          go_wp2_with fail
          refine (gll.out A n c x5 (gL.out x5 gB.out) (by omega)).mono ?_
          rintro en x6 ⟨Arg, crg, Arh, crh, rfl, horg, horh, hap, hb⟩
          clear hap
          have hrg : Hid (x6.ownsRow x5.heap.size 35 2 (.slice Arg mg crg) mg (T2 (dueA l later)) ∧ (dueA l later).length = mg) := Lib.hid ⟨horg, gmg.out⟩
          have irg : Hid (∀ k, (Value.slice Arg mg crg).ownBlock = some k → x5.heap.size ≤ k ∧ k < x6.heap.size) := Lib.hid (fun k hk => ⟨own_base horg hk, own_lt horg hk⟩)
          clear horg
          have hrh : Hid (x6.ownsRow x5.heap.size 35 2 (.slice Arh mh crh) mh (T2 (dueB l later)) ∧ (dueB l later).length = mh) := Lib.hid ⟨horh, gmh.out⟩
          have irh : Hid (∀ k, (Value.slice Arh mh crh).ownBlock = some k → x5.heap.size ≤ k ∧ k < x6.heap.size) := Lib.hid (fun k hk => ⟨own_base horh hk, own_lt horh hk⟩)
          clear horh
          have sx6 := hb.size
          replace hra := Lib.hid (And.intro (own_below hra.out.1 hb) hra.out.2)
          replace hrb := Lib.hid (And.intro (own_below hrb.out.1 hb) hrb.out.2)
          replace hrc := Lib.hid (And.intro (own_below hrc.out.1 hb) hrc.out.2)
          replace hre := Lib.hid (And.intro (own_below hre.out.1 hb) hre.out.2)
          replace hrf := Lib.hid (And.intro (own_below hrf.out.1 hb) hrf.out.2)
          replace gB := Lib.hid (gB.out.trans (hb.mono gB.out.size))
          clear hb
          go_wp2_with fail
          refine (rsame_any Arf (some ad2) mf mb crf crb (dueB (dueB l now) later) (dueB l now) (own_max hrf.out.1) x6 (Tms.of_own hrf.out.1 hrf.out.2) (Tms.of_own hrb.out.1 hrb.out.2) true (decide_eq_true gz.out.2)).mono ?_
          rintro en x7 ⟨rfl, hb⟩
          have sx7 := hb.size
          replace hra := Lib.hid (And.intro (own_below hra.out.1 hb) hra.out.2)
          replace hrb := Lib.hid (And.intro (own_below hrb.out.1 hb) hrb.out.2)
          replace hrc := Lib.hid (And.intro (own_below hrc.out.1 hb) hrc.out.2)
          replace hre := Lib.hid (And.intro (own_below hre.out.1 hb) hre.out.2)
          replace hrf := Lib.hid (And.intro (own_below hrf.out.1 hb) hrf.out.2)
          replace hrg := Lib.hid (And.intro (own_below hrg.out.1 hb) hrg.out.2)
          replace hrh := Lib.hid (And.intro (own_below hrh.out.1 hb) hrh.out.2)
          replace gB := Lib.hid (gB.out.trans (hb.mono gB.out.size))
          clear hb
          go_wp2
          go_ret
          exact ⟨rfl, gB.out⟩
        · have f1 : (F != 0) = false := by rw [hF]; rfl
          have f2 : decide (later < now) = false := decide_eq_false hlt
          have gz := Lib.hid (due_after gE.out (by rw [gF2.out, hF]) hlt)
          have f0 : (F == 0) = true := by rw [hF]; rfl
          clear hF hlt
          go_wp2_with fail
          refine (glb.out (some ad2) crb x4 (Tms.of_own hrb.out.1 hrb.out.2)).mono ?_
          rintro en x5 ⟨Are, cre, Arf, crf, rfl, hore, horf, hap, hb⟩
          clear hap
          have hre : Hid (x5.ownsRow x4.heap.size 35 2 (.slice Are me cre) me (T2 (dueA (dueB l now) later)) ∧ (dueA (dueB l now) later).length = me) := Lib.hid ⟨hore, gme.out⟩
          have ire : Hid (∀ k, (Value.slice Are me cre).ownBlock = some k → x4.heap.size ≤ k ∧ k < x5.heap.size) := Lib.hid (fun k hk => ⟨own_base hore hk, own_lt hore hk⟩)
          clear hore
          have hrf : Hid (x5.ownsRow x4.heap.size 35 2 (.slice Arf mf crf) mf (T2 (dueB (dueB l now) later)) ∧ (dueB (dueB l now) later).length = mf) := Lib.hid ⟨horf, gmf.out⟩
          have irf : Hid (∀ k, (Value.slice Arf mf crf).ownBlock = some k → x4.heap.size ≤ k ∧ k < x5.heap.size) := Lib.hid (fun k hk => ⟨own_base horf hk, own_lt horf hk⟩)
          clear horf
          have sx5 := hb.size
          replace hra := Lib.hid (And.intro (own_below hra.out.1 hb) hra.out.2)
          replace hrb := Lib.hid (And.intro (own_below hrb.out.1 hb) hrb.out.2)
          replace hrc := Lib.hid (And.intro (own_below hrc.out.1 hb) hrc.out.2)
          replace gB := Lib.hid (gB.out.trans (hb.mono gB.out.size))
          clear hb
          go_wp2_with fail
          refine (gll.out A n c x5 (gL.out x5 gB.out) (by omega)).mono ?_
          rintro en x6 ⟨Arg, crg, Arh, crh, rfl, horg, horh, hap, hb⟩
          clear hap
          have hrg : Hid (x6.ownsRow x5.heap.size 35 2 (.slice Arg mg crg) mg (T2 (dueA l later)) ∧ (dueA l later).length = mg) := Lib.hid ⟨horg, gmg.out⟩
          have irg : Hid (∀ k, (Value.slice Arg mg crg).ownBlock = some k → x5.heap.size ≤ k ∧ k < x6.heap.size) := Lib.hid (fun k hk => ⟨own_base horg hk, own_lt horg hk⟩)
          clear horg
          have hrh : Hid (x6.ownsRow x5.heap.size 35 2 (.slice Arh mh crh) mh (T2 (dueB l later)) ∧ (dueB l later).length = mh) := Lib.hid ⟨horh, gmh.out⟩
          have irh : Hid (∀ k, (Value.slice Arh mh crh).ownBlock = some k → x5.heap.size ≤ k ∧ k < x6.heap.size) := Lib.hid (fun k hk => ⟨own_base horh hk, own_lt horh hk⟩)
          clear horh
          have sx6 := hb.size
          replace hra := Lib.hid (And.intro (own_below hra.out.1 hb) hra.out.2)
          replace hrb := Lib.hid (And.intro (own_below hrb.out.1 hb) hrb.out.2)
          replace hrc := Lib.hid (And.intro (own_below hrc.out.1 hb) hrc.out.2)
          replace hre := Lib.hid (And.intro (own_below hre.out.1 hb) hre.out.2)
          replace hrf := Lib.hid (And.intro (own_below hrf.out.1 hb) hrf.out.2)
          replace gB := Lib.hid (gB.out.trans (hb.mono gB.out.size))
          clear hb
          go_wp2_with (first | (at_builtin; refine wpList_append_g (by rfl) (.tmp 123) (.tmp 124) 22 rfl x6.heap.size 35 i0 _ 2 16 Try.underlying22 hi0 hz0 hz1 hz2 rfl (by omega) (.slice (some ⟨x6.heap.size, 0, none⟩) 0 0) 0 [] rfl (own_empty (size := 2) (Blk.new x6 35 #[]) (Nat.le_refl _)) x6.heap.size Ara ma cra (T2 (dueA l now)) rfl ((Reads.of_own hra.out.1).alloc (Nat.le_refl _) _) (T2_one _) (by unfold maxLen; omega) (by omega) (by simp) ?_; intro z1 u7 hy1 hq1 _; have hb1 := Below.grown ((Below.refl x6.heap.size x6).alloc (Nat.le_refl _) (.cells #[] 35)) hq1 (by simp) (fun q hq => by simp [Value.ownBlock] at hq; omega); have sz1 := hb1.size; have hr1 := own_below hre.out.1 hb1; rw [Nat.zero_add, List.nil_append] at hy1; obtain ⟨Az, cz, rfl, _, _⟩ := own_slice hy1) | (at_builtin; refine wpList_append_g (by rfl) (.tmp 125) (.tmp 126) 22 rfl x6.heap.size 35 i0 _ 2 16 Try.underlying22 hi0 hz0 hz1 hz2 rfl (by omega) (.slice Az ma cz) ma (T2 (dueA l now)) rfl hy1 u7.heap.size Are me cre (T2 (dueA (dueB l now) later)) rfl (Reads.of_own hr1) (T2_one _) (by unfold maxLen; omega) (by omega) sz1 ?_; intro z2 v7 hy2 hq2 _; have hb2 : Below x6.heap.size x6 v7 := Below.grown hb1 hq2 sz1 (fun q hq => own_base hy1 hq); rw [← T2_app] at hy2; obtain ⟨Ark, crk, rfl, _, _⟩ := own_slice hy2))
          have hrk : Hid (v7.ownsRow x6.heap.size 35 2 (.slice Ark (ma + me) crk) (ma + me) (T2 ((dueA l now) ++ (dueA (dueB l now) later))) ∧ ((dueA l now) ++ (dueA (dueB l now) later)).length = ma + me) := Lib.hid ⟨hy2, by rw [List.length_append, hra.out.2, hre.out.2]⟩
          have irk : Hid (∀ k, (Value.slice Ark (ma + me) crk).ownBlock = some k → x6.heap.size ≤ k ∧ k < v7.heap.size) := Lib.hid (fun k hk => ⟨own_base hy2 hk, own_lt hy2 hk⟩)
          clear hq1 hq2 hy1 hy2 hb1 hr1
          have sv7 := hb2.size
          replace hra := Lib.hid (And.intro (own_below hra.out.1 hb2) hra.out.2)
          replace hrb := Lib.hid (And.intro (own_below hrb.out.1 hb2) hrb.out.2)
          replace hrc := Lib.hid (And.intro (own_below hrc.out.1 hb2) hrc.out.2)
          replace hre := Lib.hid (And.intro (own_below hre.out.1 hb2) hre.out.2)
          replace hrf := Lib.hid (And.intro (own_below hrf.out.1 hb2) hrf.out.2)
          replace hrg := Lib.hid (And.intro (own_below hrg.out.1 hb2) hrg.out.2)
          replace hrh := Lib.hid (And.intro (own_below hrh.out.1 hb2) hrh.out.2)
          replace gB := Lib.hid (gB.out.trans (hb2.mono gB.out.size))
          clear hb2
          refine (rsame_any Ark Arg (ma + me) mg crk crg ((dueA l now) ++ (dueA (dueB l now) later)) (dueA l later) (own_max hrk.out.1) v7 (Tms.of_own hrk.out.1 hrk.out.2) (Tms.of_own hrg.out.1 hrg.out.2) true (decide_eq_true gz.out.1)).mono ?_
          rintro en x8 ⟨rfl, hb⟩
          have sx8 := hb.size
          replace hra := Lib.hid (And.intro (own_below hra.out.1 hb) hra.out.2)
          replace hrb := Lib.hid (And.intro (own_below hrb.out.1 hb) hrb.out.2)
          replace hrc := Lib.hid (And.intro (own_below hrc.out.1 hb) hrc.out.2)
          replace hre := Lib.hid (And.intro (own_below hre.out.1 hb) hre.out.2)
          replace hrf := Lib.hid (And.intro (own_below hrf.out.1 hb) hrf.out.2)
          replace hrg := Lib.hid (And.intro (own_below hrg.out.1 hb) hrg.out.2)
          replace hrh := Lib.hid (And.intro (own_below hrh.out.1 hb) hrh.out.2)
          replace hrk := Lib.hid (And.intro (own_below hrk.out.1 hb) hrk.out.2)
          replace gB := Lib.hid (gB.out.trans (hb.mono gB.out.size))
          clear hb
          go_wp2_with fail
          refine (rsame_any Arf Arh mf mh crf crh (dueB (dueB l now) later) (dueB l later) (own_max hrf.out.1) x8 (Tms.of_own hrf.out.1 hrf.out.2) (Tms.of_own hrh.out.1 hrh.out.2) true (decide_eq_true gz.out.2)).mono ?_
          rintro en x9 ⟨rfl, hb⟩
          have sx9 := hb.size
          replace hra := Lib.hid (And.intro (own_below hra.out.1 hb) hra.out.2)
          replace hrb := Lib.hid (And.intro (own_below hrb.out.1 hb) hrb.out.2)
          replace hrc := Lib.hid (And.intro (own_below hrc.out.1 hb) hrc.out.2)
          replace hre := Lib.hid (And.intro (own_below hre.out.1 hb) hre.out.2)
          replace hrf := Lib.hid (And.intro (own_below hrf.out.1 hb) hrf.out.2)
          replace hrg := Lib.hid (And.intro (own_below hrg.out.1 hb) hrg.out.2)
          replace hrh := Lib.hid (And.intro (own_below hrh.out.1 hb) hrh.out.2)
          replace hrk := Lib.hid (And.intro (own_below hrk.out.1 hb) hrk.out.2)
          replace gB := Lib.hid (gB.out.trans (hb.mono gB.out.size))
          clear hb
          go_wp2
          go_ret
          exact ⟨rfl, gB.out⟩
    · obtain ⟨p, hp⟩ : ∃ p, ma = p + 1 := ⟨ma - 1, by omega⟩
      have ea : decide ((0 : Int) < ma) = true := decide_eq_true (by omega)
      have ea2 : decide (0 < ma) = true := decide_eq_true ha0
      obtain ⟨ad, hAa, _, hat⟩ := (Tms.of_own hra.out.1 hra.out.2).at_ (i := p) (by omega)
      subst hAa
      obtain ⟨ca, _⟩ := hat x4 (Below.refl _ _)
      obtain ⟨xa, hxa⟩ : ∃ x, (tz (dueA l now) p).1 = x := ⟨_, rfl⟩
      rw [hxa] at ca
      have da : decide (now < xa) = false := decide_eq_false (by have := (due_ab gE.out).2.1 _ (List.mem_of_getElem? (tz_lt (l := dueA l now) (k := p) (by rw [gma.out]; omega))); rw [hxa] at this; omega)
      have p1 : (0 : Int) ≤ p := by omega
      have p2 : (p : Int) < ma := by omega
      have p3 : wrap64 ((ma : Int) - 1) = p := by rw [hp]; unfold wrap64; omega
      have p4 : ((ma : Int) - 1) = p := by rw [hp]; simp
      clear hat hxa hp ha0
      rcases Nat.eq_zero_or_pos mb with hb0 | hb0
      · have eb : decide ((0 : Int) < mb) = false := decide_eq_false (by omega)
        have eb2 : decide (0 < mb) = false := decide_eq_false (by omega)
        clear hb0
        by_cases hF : F = 0
        rotate_left
        · have f1 : (F != 0) = true := bne_iff_ne.2 hF
          have gme0 : me = 0 := by rw [← gme.out, (due_none (by rw [gF2.out]; exact hF)).1]; rfl
          have fm : ((me : Int) == 0) = true := by rw [gme0]; rfl
          clear gme0 hF
          go_wp2_with fail
          refine (glb.out Arb crb x4 (Tms.of_own hrb.out.1 hrb.out.2)).mono ?_
          rintro en x5 ⟨Are, cre, Arf, crf, rfl, hore, horf, hap, hb⟩
          clear hap
          have hre : Hid (x5.ownsRow x4.heap.size 35 2 (.slice Are me cre) me (T2 (dueA (dueB l now) later)) ∧ (dueA (dueB l now) later).length = me) := Lib.hid ⟨hore, gme.out⟩
          have ire : Hid (∀ k, (Value.slice Are me cre).ownBlock = some k → x4.heap.size ≤ k ∧ k < x5.heap.size) := Lib.hid (fun k hk => ⟨own_base hore hk, own_lt hore hk⟩)
          clear hore
          have hrf : Hid (x5.ownsRow x4.heap.size 35 2 (.slice Arf mf crf) mf (T2 (dueB (dueB l now) later)) ∧ (dueB (dueB l now) later).length = mf) := Lib.hid ⟨horf, gmf.out⟩
          have irf : Hid (∀ k, (Value.slice Arf mf crf).ownBlock = some k → x4.heap.size ≤ k ∧ k < x5.heap.size) := Lib.hid (fun k hk => ⟨own_base horf hk, own_lt horf hk⟩)
          clear horf
          have sx5 := hb.size
          replace hra := Lib.hid (And.intro (own_below hra.out.1 hb) hra.out.2)
          replace hrb := Lib.hid (And.intro (own_below hrb.out.1 hb) hrb.out.2)
          replace hrc := Lib.hid (And.intro (own_below hrc.out.1 hb) hrc.out.2)
          replace gB := Lib.hid (gB.out.trans (hb.mono gB.out.size))
          clear hb
          go_wp2_with fail
          refine (gll.out A n c x5 (gL.out x5 gB.out) (by omega)).mono ?_
          rintro en x6 ⟨Arg, crg, Arh, crh, rfl, horg, horh, hap, hb⟩
          clear hap
          have hrg : Hid (x6.ownsRow x5.heap.size 35 2 (.slice Arg mg crg) mg (T2 (dueA l later)) ∧ (dueA l later).length = mg) := Lib.hid ⟨horg, gmg.out⟩
          have irg : Hid (∀ k, (Value.slice Arg mg crg).ownBlock = some k → x5.heap.size ≤ k ∧ k < x6.heap.size) := Lib.hid (fun k hk => ⟨own_base horg hk, own_lt horg hk⟩)
          clear horg
          have hrh : Hid (x6.ownsRow x5.heap.size 35 2 (.slice Arh mh crh) mh (T2 (dueB l later)) ∧ (dueB l later).length = mh) := Lib.hid ⟨horh, gmh.out⟩
          have irh : Hid (∀ k, (Value.slice Arh mh crh).ownBlock = some k → x5.heap.size ≤ k ∧ k < x6.heap.size) := Lib.hid (fun k hk => ⟨own_base horh hk, own_lt horh hk⟩)
          clear horh
          have sx6 := hb.size
          replace hra := Lib.hid (And.intro (own_below hra.out.1 hb) hra.out.2)
          replace hrb := Lib.hid (And.intro (own_below hrb.out.1 hb) hrb.out.2)
          replace hrc := Lib.hid (And.intro (own_below hrc.out.1 hb) hrc.out.2)
          replace hre := Lib.hid (And.intro (own_below hre.out.1 hb) hre.out.2)
          replace hrf := Lib.hid (And.intro (own_below hrf.out.1 hb) hrf.out.2)
          replace gB := Lib.hid (gB.out.trans (hb.mono gB.out.size))
          clear hb
          go_wp2
          go_ret
          exact ⟨rfl, gB.out⟩
        by_cases hlt : later < now
        · have f1 : (F != 0) = false := by rw [hF]; rfl
          have f2 : decide (later < now) = true := decide_eq_true hlt
          have hz := due_before gE.out (by rw [gF2.out, hF]) hlt
          have gme0 : me = 0 := by rw [← gme.out, hz.1]; rfl
          have fm : ((me : Int) == 0) = true := by rw [gme0]; rfl
          have gz := Lib.hid hz
          have f0 : (F == 0) = true := by rw [hF]; rfl
          clear gme0 hF hz hlt
          go_wp2_with fail
          refine (glb.out Arb crb x4 (Tms.of_own hrb.out.1 hrb.out.2)).mono ?_
          rintro en x5 ⟨Are, cre, Arf, crf, rfl, hore, horf, hap, hb⟩
          clear hap
          have hre : Hid (x5.ownsRow x4.heap.size 35 2 (.slice Are me cre) me (T2 (dueA (dueB l now) later)) ∧ (dueA (dueB l now) later).length = me) := Lib.hid ⟨hore, gme.out⟩
          have ire : Hid (∀ k, (Value.slice Are me cre).ownBlock = some k → x4.heap.size ≤ k ∧ k < x5.heap.size) := Lib.hid (fun k hk => ⟨own_base hore hk, own_lt hore hk⟩)
          clear hore
          have hrf : Hid (x5.ownsRow x4.heap.size 35 2 (.slice Arf mf crf) mf (T2 (dueB (dueB l now) later)) ∧ (dueB (dueB l now) later).length = mf) := Lib.hid ⟨horf, gmf.out⟩
          have irf : Hid (∀ k, (Value.slice Arf mf crf).ownBlock = some k → x4.heap.size ≤ k ∧ k < x5.heap.size) := Lib.hid (fun k hk => ⟨own_base horf hk, own_lt horf hk⟩)
          clear horf
          have sx5 := hb.size
          replace hra := Lib.hid (And.intro (own_below hra.out.1 hb) hra.out.2)
          replace hrb := Lib.hid (And.intro (own_below hrb.out.1 hb) hrb.out.2)
          replace hrc := Lib.hid (And.intro (own_below hrc.out.1 hb) hrc.out.2)
          replace gB := Lib.hid (gB.out.trans (hb.mono gB.out.size))
          clear hb
          go_wp2_with fail
          refine (gll.out A n c x5 (gL.out x5 gB.out) (by omega)).mono ?_
          rintro en x6 ⟨Arg, crg, Arh, crh, rfl, horg, horh, hap, hb⟩
          clear hap
          have hrg : Hid (x6.ownsRow x5.heap.size 35 2 (.slice Arg mg crg) mg (T2 (dueA l later)) ∧ (dueA l later).length = mg) := Lib.hid ⟨horg, gmg.out⟩
          have irg : Hid (∀ k, (Value.slice Arg mg crg).ownBlock = some k → x5.heap.size ≤ k ∧ k < x6.heap.size) := Lib.hid (fun k hk => ⟨own_base horg hk, own_lt horg hk⟩)
          clear horg
          have hrh : Hid (x6.ownsRow x5.heap.size 35 2 (.slice Arh mh crh) mh (T2 (dueB l later)) ∧ (dueB l later).length = mh) := Lib.hid ⟨horh, gmh.out⟩
          have irh : Hid (∀ k, (Value.slice Arh mh crh).ownBlock = some k → x5.heap.size ≤ k ∧ k < x6.heap.size) := Lib.hid (fun k hk => ⟨own_base horh hk, own_lt horh hk⟩)
          clear horh
          have sx6 := hb.size
          replace hra := Lib.hid (And.intro (own_below hra.out.1 hb) hra.out.2)
          replace hrb := Lib.hid (And.intro (own_below hrb.out.1 hb) hrb.out.2)
          replace hrc := Lib.hid (And.intro (own_below hrc.out.1 hb) hrc.out.2)
          replace hre := Lib.hid (And.intro (own_below hre.out.1 hb) hre.out.2)
          replace hrf := Lib.hid (And.intro (own_below hrf.out.1 hb) hrf.out.2)
          replace gB := Lib.hid (gB.out.trans (hb.mono gB.out.size))
          clear hb
          go_wp2_with fail
          refine (rsame_any Arf Arb mf mb crf crb (dueB (dueB l now) later) (dueB l now) (own_max hrf.out.1) x6 (Tms.of_own hrf.out.1 hrf.out.2) (Tms.of_own hrb.out.1 hrb.out.2) true (decide_eq_true gz.out.2)).mono ?_
          rintro en x7 ⟨rfl, hb⟩
          have sx7 := hb.size
          replace hra := Lib.hid (And.intro (own_below hra.out.1 hb) hra.out.2)
          replace hrb := Lib.hid (And.intro (own_below hrb.out.1 hb) hrb.out.2)
          replace hrc := Lib.hid (And.intro (own_below hrc.out.1 hb) hrc.out.2)
          replace hre := Lib.hid (And.intro (own_below hre.out.1 hb) hre.out.2)
          replace hrf := Lib.hid (And.intro (own_below hrf.out.1 hb) hrf.out.2)
          replace hrg := Lib.hid (And.intro (own_below hrg.out.1 hb) hrg.out.2)
          replace hrh := Lib.hid (And.intro (own_below hrh.out.1 hb) hrh.out.2)
          replace gB := Lib.hid (gB.out.trans (hb.mono gB.out.size))
          clear hb
          go_wp2
          go_ret
          exact ⟨rfl, gB.out⟩
        · have f1 : (F != 0) = false := by rw [hF]; rfl
          have f2 : decide (later < now) = false := decide_eq_false hlt
          have gz := Lib.hid (due_after gE.out (by rw [gF2.out, hF]) hlt)
          have f0 : (F == 0) = true := by rw [hF]; rfl
          clear hF hlt
          go_wp2_with fail
          refine (glb.out Arb crb x4 (Tms.of_own hrb.out.1 hrb.out.2)).mono ?_
          rintro en x5 ⟨Are, cre, Arf, crf, rfl, hore, horf, hap, hb⟩
          clear hap
          have hre : Hid (x5.ownsRow x4.heap.size 35 2 (.slice Are me cre) me (T2 (dueA (dueB l now) later)) ∧ (dueA (dueB l now) later).length = me) := Lib.hid ⟨hore, gme.out⟩
          have ire : Hid (∀ k, (Value.slice Are me cre).ownBlock = some k → x4.heap.size ≤ k ∧ k < x5.heap.size) := Lib.hid (fun k hk => ⟨own_base hore hk, own_lt hore hk⟩)
          clear hore
          have hrf : Hid (x5.ownsRow x4.heap.size 35 2 (.slice Arf mf crf) mf (T2 (dueB (dueB l now) later)) ∧ (dueB (dueB l now) later).length = mf) := Lib.hid ⟨horf, gmf.out⟩
          have irf : Hid (∀ k, (Value.slice Arf mf crf).ownBlock = some k → x4.heap.size ≤ k ∧ k < x5.heap.size) := Lib.hid (fun k hk => ⟨own_base horf hk, own_lt horf hk⟩)
          clear horf
          have sx5 := hb.size
          replace hra := Lib.hid (And.intro (own_below hra.out.1 hb) hra.out.2)
          replace hrb := Lib.hid (And.intro (own_below hrb.out.1 hb) hrb.out.2)
          replace hrc := Lib.hid (And.intro (own_below hrc.out.1 hb) hrc.out.2)
          replace gB := Lib.hid (gB.out.trans (hb.mono gB.out.size))
          clear hb
          go_wp2_with fail
          refine (gll.out A n c x5 (gL.out x5 gB.out) (by omega)).mono ?_
          rintro en x6 ⟨Arg, crg, Arh, crh, rfl, horg, horh, hap, hb⟩
          clear hap
          have hrg : Hid (x6.ownsRow x5.heap.size 35 2 (.slice Arg mg crg) mg (T2 (dueA l later)) ∧ (dueA l later).length = mg) := Lib.hid ⟨horg, gmg.out⟩
          have irg : Hid (∀ k, (Value.slice Arg mg crg).ownBlock = some k → x5.heap.size ≤ k ∧ k < x6.heap.size) := Lib.hid (fun k hk => ⟨own_base horg hk, own_lt horg hk⟩)
          clear horg
          have hrh : Hid (x6.ownsRow x5.heap.size 35 2 (.slice Arh mh crh) mh (T2 (dueB l later)) ∧ (dueB l later).length = mh) := Lib.hid ⟨horh, gmh.out⟩
          have irh : Hid (∀ k, (Value.slice Arh mh crh).ownBlock = some k → x5.heap.size ≤ k ∧ k < x6.heap.size) := Lib.hid (fun k hk => ⟨own_base horh hk, own_lt horh hk⟩)
          clear horh
          have sx6 := hb.size
          replace hra := Lib.hid (And.intro (own_below hra.out.1 hb) hra.out.2)
          replace hrb := Lib.hid (And.intro (own_below hrb.out.1 hb) hrb.out.2)
          replace hrc := Lib.hid (And.intro (own_below hrc.out.1 hb) hrc.out.2)
          replace hre := Lib.hid (And.intro (own_below hre.out.1 hb) hre.out.2)
          replace hrf := Lib.hid (And.intro (own_below hrf.out.1 hb) hrf.out.2)
          replace gB := Lib.hid (gB.out.trans (hb.mono gB.out.size))
          clear hb
          go_wp2_with (first | (at_builtin; refine wpList_append_g (by rfl) (.tmp 123) (.tmp 124) 22 rfl x6.heap.size 35 i0 _ 2 16 Try.underlying22 hi0 hz0 hz1 hz2 rfl (by omega) (.slice (some ⟨x6.heap.size, 0, none⟩) 0 0) 0 [] rfl (own_empty (size := 2) (Blk.new x6 35 #[]) (Nat.le_refl _)) x6.heap.size (some ad) ma cra (T2 (dueA l now)) rfl ((Reads.of_own hra.out.1).alloc (Nat.le_refl _) _) (T2_one _) (by unfold maxLen; omega) (by omega) (by simp) ?_; intro z1 u7 hy1 hq1 _; have hb1 := Below.grown ((Below.refl x6.heap.size x6).alloc (Nat.le_refl _) (.cells #[] 35)) hq1 (by simp) (fun q hq => by simp [Value.ownBlock] at hq; omega); have sz1 := hb1.size; have hr1 := own_below hre.out.1 hb1; rw [Nat.zero_add, List.nil_append] at hy1; obtain ⟨Az, cz, rfl, _, _⟩ := own_slice hy1) | (at_builtin; refine wpList_append_g (by rfl) (.tmp 125) (.tmp 126) 22 rfl x6.heap.size 35 i0 _ 2 16 Try.underlying22 hi0 hz0 hz1 hz2 rfl (by omega) (.slice Az ma cz) ma (T2 (dueA l now)) rfl hy1 u7.heap.size Are me cre (T2 (dueA (dueB l now) later)) rfl (Reads.of_own hr1) (T2_one _) (by unfold maxLen; omega) (by omega) sz1 ?_; intro z2 v7 hy2 hq2 _; have hb2 : Below x6.heap.size x6 v7 := Below.grown hb1 hq2 sz1 (fun q hq => own_base hy1 hq); rw [← T2_app] at hy2; obtain ⟨Ark, crk, rfl, _, _⟩ := own_slice hy2))
          have hrk : Hid (v7.ownsRow x6.heap.size 35 2 (.slice Ark (ma + me) crk) (ma + me) (T2 ((dueA l now) ++ (dueA (dueB l now) later))) ∧ ((dueA l now) ++ (dueA (dueB l now) later)).length = ma + me) := Lib.hid ⟨hy2, by rw [List.length_append, hra.out.2, hre.out.2]⟩
          have irk : Hid (∀ k, (Value.slice Ark (ma + me) crk).ownBlock = some k → x6.heap.size ≤ k ∧ k < v7.heap.size) := Lib.hid (fun k hk => ⟨own_base hy2 hk, own_lt hy2 hk⟩)
          clear hq1 hq2 hy1 hy2 hb1 hr1
          have sv7 := hb2.size
          replace hra := Lib.hid (And.intro (own_below hra.out.1 hb2) hra.out.2)
          replace hrb := Lib.hid (And.intro (own_below hrb.out.1 hb2) hrb.out.2)
          replace hrc := Lib.hid (And.intro (own_below hrc.out.1 hb2) hrc.out.2)
          replace hre := Lib.hid (And.intro (own_below hre.out.1 hb2) hre.out.2)
          replace hrf := Lib.hid (And.intro (own_below hrf.out.1 hb2) hrf.out.2)
          replace hrg := Lib.hid (And.intro (own_below hrg.out.1 hb2) hrg.out.2)
          replace hrh := Lib.hid (And.intro (own_below hrh.out.1 hb2) hrh.out.2)
          replace gB := Lib.hid (gB.out.trans (hb2.mono gB.out.size))
          clear hb2
          refine (rsame_any Ark Arg (ma + me) mg crk crg ((dueA l now) ++ (dueA (dueB l now) later)) (dueA l later) (own_max hrk.out.1) v7 (Tms.of_own hrk.out.1 hrk.out.2) (Tms.of_own hrg.out.1 hrg.out.2) true (decide_eq_true gz.out.1)).mono ?_
          rintro en x8 ⟨rfl, hb⟩
          have sx8 := hb.size
          replace hra := Lib.hid (And.intro (own_below hra.out.1 hb) hra.out.2)
          replace hrb := Lib.hid (And.intro (own_below hrb.out.1 hb) hrb.out.2)
          replace hrc := Lib.hid (And.intro (own_below hrc.out.1 hb) hrc.out.2)
          replace hre := Lib.hid (And.intro (own_below hre.out.1 hb) hre.out.2)
          replace hrf := Lib.hid (And.intro (own_below hrf.out.1 hb) hrf.out.2)
          replace hrg := Lib.hid (And.intro (own_below hrg.out.1 hb) hrg.out.2)
          replace hrh := Lib.hid (And.intro (own_below hrh.out.1 hb) hrh.out.2)
          replace hrk := Lib.hid (And.intro (own_below hrk.out.1 hb) hrk.out.2)
          replace gB := Lib.hid (gB.out.trans (hb.mono gB.out.size))
          clear hb
          go_wp2_with fail
          refine (rsame_any Arf Arh mf mh crf crh (dueB (dueB l now) later) (dueB l later) (own_max hrf.out.1) x8 (Tms.of_own hrf.out.1 hrf.out.2) (Tms.of_own hrh.out.1 hrh.out.2) true (decide_eq_true gz.out.2)).mono ?_
          rintro en x9 ⟨rfl, hb⟩
          have sx9 := hb.size
          replace hra := Lib.hid (And.intro (own_below hra.out.1 hb) hra.out.2)
          replace hrb := Lib.hid (And.intro (own_below hrb.out.1 hb) hrb.out.2)
          replace hrc := Lib.hid (And.intro (own_below hrc.out.1 hb) hrc.out.2)
          replace hre := Lib.hid (And.intro (own_below hre.out.1 hb) hre.out.2)
          replace hrf := Lib.hid (And.intro (own_below hrf.out.1 hb) hrf.out.2)
          replace hrg := Lib.hid (And.intro (own_below hrg.out.1 hb) hrg.out.2)
          replace hrh := Lib.hid (And.intro (own_below hrh.out.1 hb) hrh.out.2)
          replace hrk := Lib.hid (And.intro (own_below hrk.out.1 hb) hrk.out.2)
          replace gB := Lib.hid (gB.out.trans (hb.mono gB.out.size))
          clear hb
          go_wp2
          go_ret
          exact ⟨rfl, gB.out⟩
      · have eb : decide ((0 : Int) < mb) = true := decide_eq_true (by omega)
        have eb2 : decide (0 < mb) = true := decide_eq_true hb0
        obtain ⟨ad2, hAb, _, hat⟩ := (Tms.of_own hrb.out.1 hrb.out.2).at_ (i := 0) (by omega)
        subst hAb
        obtain ⟨cb, _⟩ := hat x4 (Below.refl _ _)
        rw [Nat.zero_mul, Addr.add_zero'] at cb
        obtain ⟨xb, hxb⟩ : ∃ x, (tz (dueB l now) 0).1 = x := ⟨_, rfl⟩
        rw [hxb] at cb
        have db : decide (xb ≤ now) = false := decide_eq_false (by have := (due_ab gE.out).2.2.1 _ (List.mem_of_getElem? (tz_lt (l := dueB l now) (k := 0) (by rw [gmb.out]; omega))); rw [hxb] at this; omega)
        have q2 : (0 : Int) < mb := by omega
        clear hat hxb hb0
        by_cases hF : F = 0
        rotate_left
        · have f1 : (F != 0) = true := bne_iff_ne.2 hF
          have gme0 : me = 0 := by rw [← gme.out, (due_none (by rw [gF2.out]; exact hF)).1]; rfl
          have fm : ((me : Int) == 0) = true := by rw [gme0]; rfl
          clear gme0 hF
          go_wp2_with fail
          refine (glb.out (some ad2) crb x4 (Tms.of_own hrb.out.1 hrb.out.2)).mono ?_
          rintro en x5 ⟨Are, cre, Arf, crf, rfl, hore, horf, hap, hb⟩
          clear hap
          have hre : Hid (x5.ownsRow x4.heap.size 35 2 (.slice Are me cre) me (T2 (dueA (dueB l now) later)) ∧ (dueA (dueB l now) later).length = me) := Lib.hid ⟨hore, gme.out⟩
          have ire : Hid (∀ k, (Value.slice Are me cre).ownBlock = some k → x4.heap.size ≤ k ∧ k < x5.heap.size) := Lib.hid (fun k hk => ⟨own_base hore hk, own_lt hore hk⟩)
          clear hore
          have hrf : Hid (x5.ownsRow x4.heap.size 35 2 (.slice Arf mf crf) mf (T2 (dueB (dueB l now) later)) ∧ (dueB (dueB l now) later).length = mf) := Lib.hid ⟨horf, gmf.out⟩
          have irf : Hid (∀ k, (Value.slice Arf mf crf).ownBlock = some k → x4.heap.size ≤ k ∧ k < x5.heap.size) := Lib.hid (fun k hk => ⟨own_base horf hk, own_lt horf hk⟩)
          clear horf
          have sx5 := hb.size
          replace hra := Lib.hid (And.intro (own_below hra.out.1 hb) hra.out.2)
          replace hrb := Lib.hid (And.intro (own_below hrb.out.1 hb) hrb.out.2)
          replace hrc := Lib.hid (And.intro (own_below hrc.out.1 hb) hrc.out.2)
          replace gB := Lib.hid (gB.out.trans (hb.mono gB.out.size))
          clear hb
          go_wp2_with fail
          refine (gll.out A n c x5 (gL.out x5 gB.out) (by omega)).mono ?_
          rintro en x6 ⟨Arg, crg, Arh, crh, rfl, horg, horh, hap, hb⟩
          clear hap
          have hrg : Hid (x6.ownsRow x5.heap.size 35 2 (.slice Arg mg crg) mg (T2 (dueA l later)) ∧ (dueA l later).length = mg) := Lib.hid ⟨horg, gmg.out⟩
          have irg : Hid (∀ k, (Value.slice Arg mg crg).ownBlock = some k → x5.heap.size ≤ k ∧ k < x6.heap.size) := Lib.hid (fun k hk => ⟨own_base horg hk, own_lt horg hk⟩)
          clear horg
          have hrh : Hid (x6.ownsRow x5.heap.size 35 2 (.slice Arh mh crh) mh (T2 (dueB l later)) ∧ (dueB l later).length = mh) := Lib.hid ⟨horh, gmh.out⟩
          have irh : Hid (∀ k, (Value.slice Arh mh crh).ownBlock = some k → x5.heap.size ≤ k ∧ k < x6.heap.size) := Lib.hid (fun k hk => ⟨own_base horh hk, own_lt horh hk⟩)
          clear horh
          have sx6 := hb.size
          replace hra := Lib.hid (And.intro (own_below hra.out.1 hb) hra.out.2)
          replace hrb := Lib.hid (And.intro (own_below hrb.out.1 hb) hrb.out.2)
          replace hrc := Lib.hid (And.intro (own_below hrc.out.1 hb) hrc.out.2)
          replace hre := Lib.hid (And.intro (own_below hre.out.1 hb) hre.out.2)
          replace hrf := Lib.hid (And.intro (own_below hrf.out.1 hb) hrf.out.2)
          replace gB := Lib.hid (gB.out.trans (hb.mono gB.out.size))
          clear hb
          go_wp2
          go_ret
          exact ⟨rfl, gB.out⟩
        by_cases hlt : later < now
        · have f1 : (F != 0) = false := by rw [hF]; rfl
          have f2 : decide (later < now) = true := decide_eq_true hlt
          have hz := due_before gE.out (by rw [gF2.out, hF]) hlt
          have gme0 : me = 0 := by rw [← gme.out, hz.1]; rfl
          have fm : ((me : Int) == 0) = true := by rw [gme0]; rfl
          have gz := Lib.hid hz
          have f0 : (F == 0) = true := by rw [hF]; rfl
          clear gme0 hF hz hlt
          go_wp2_with fail
          refine (glb.out (some ad2) crb x4 (Tms.of_own hrb.out.1 hrb.out.2)).mono ?_
          rintro en x5 ⟨Are, cre, Arf, crf, rfl, hore, horf, hap, hb⟩
          clear hap
          have hre : Hid (x5.ownsRow x4.heap.size 35 2 (.slice Are me cre) me (T2 (dueA (dueB l now) later)) ∧ (dueA (dueB l now) later).length = me) := Lib.hid ⟨hore, gme.out⟩
          have ire : Hid (∀ k, (Value.slice Are me cre).ownBlock = some k → x4.heap.size ≤ k ∧ k < x5.heap.size) := Lib.hid (fun k hk => ⟨own_base hore hk, own_lt hore hk⟩)
          clear hore
          have hrf : Hid (x5.ownsRow x4.heap.size 35 2 (.slice Arf mf crf) mf (T2 (dueB (dueB l now) later)) ∧ (dueB (dueB l now) later).length = mf) := Lib.hid ⟨horf, gmf.out⟩
          have irf : Hid (∀ k, (Value.slice Arf mf crf).ownBlock = some k → x4.heap.size ≤ k ∧ k < x5.heap.size) := Lib.hid (fun k hk => ⟨own_base horf hk, own_lt horf hk⟩)
          clear horf
          have sx5 := hb.size
          replace hra := Lib.hid (And.intro (own_below hra.out.1 hb) hra.out.2)
          replace hrb := Lib.hid (And.intro (own_below hrb.out.1 hb) hrb.out.2)
          replace hrc := Lib.hid (And.intro (own_below hrc.out.1 hb) hrc.out.2)
          replace gB := Lib.hid (gB.out.trans (hb.mono gB.out.size))
          clear hb
          go_wp2_with fail
          refine (gll.out A n c x5 (gL.out x5 gB.out) (by omega)).mono ?_
          rintro en x6 ⟨Arg, crg, Arh, crh, rfl, horg, horh, hap, hb⟩
          clear hap
          have hrg : Hid (x6.ownsRow x5.heap.size 35 2 (.slice Arg mg crg) mg (T2 (dueA l later)) ∧ (dueA l later).length = mg) := Lib.hid ⟨horg, gmg.out⟩
          have irg : Hid (∀ k, (Value.slice Arg mg crg).ownBlock = some k → x5.heap.size ≤ k ∧ k < x6.heap.size) := Lib.hid (fun k hk => ⟨own_base horg hk, own_lt horg hk⟩)
          clear horg
          have hrh : Hid (x6.ownsRow x5.heap.size 35 2 (.slice Arh mh crh) mh (T2 (dueB l later)) ∧ (dueB l later).length = mh) := Lib.hid ⟨horh, gmh.out⟩
          have irh : Hid (∀ k, (Value.slice Arh mh crh).ownBlock = some k → x5.heap.size ≤ k ∧ k < x6.heap.size) := Lib.hid (fun k hk => ⟨own_base horh hk, own_lt horh hk⟩)
          clear horh
          have sx6 := hb.size
          replace hra := Lib.hid (And.intro (own_below hra.out.1 hb) hra.out.2)
          replace hrb := Lib.hid (And.intro (own_below hrb.out.1 hb) hrb.out.2)
          replace hrc := Lib.hid (And.intro (own_below hrc.out.1 hb) hrc.out.2)
          replace hre := Lib.hid (And.intro (own_below hre.out.1 hb) hre.out.2)
          replace hrf := Lib.hid (And.intro (own_below hrf.out.1 hb) hrf.out.2)
          replace gB := Lib.hid (gB.out.trans (hb.mono gB.out.size))
          clear hb
          go_wp2_with fail
          refine (rsame_any Arf (some ad2) mf mb crf crb (dueB (dueB l now) later) (dueB l now) (own_max hrf.out.1) x6 (Tms.of_own hrf.out.1 hrf.out.2) (Tms.of_own hrb.out.1 hrb.out.2) true (decide_eq_true gz.out.2)).mono ?_
          rintro en x7 ⟨rfl, hb⟩
          have sx7 := hb.size
          replace hra := Lib.hid (And.intro (own_below hra.out.1 hb) hra.out.2)
          replace hrb := Lib.hid (And.intro (own_below hrb.out.1 hb) hrb.out.2)
          replace hrc := Lib.hid (And.intro (own_below hrc.out.1 hb) hrc.out.2)
          replace hre := Lib.hid (And.intro (own_below hre.out.1 hb) hre.out.2)
          replace hrf := Lib.hid (And.intro (own_below hrf.out.1 hb) hrf.out.2)
          replace hrg := Lib.hid (And.intro (own_below hrg.out.1 hb) hrg.out.2)
          replace hrh := Lib.hid (And.intro (own_below hrh.out.1 hb) hrh.out.2)
          replace gB := Lib.hid (gB.out.trans (hb.mono gB.out.size))
          clear hb
          go_wp2
          go_ret
          exact ⟨rfl, gB.out⟩
        · have f1 : (F != 0) = false := by rw [hF]; rfl
          have f2 : decide (later < now) = false := decide_eq_false hlt
          have gz := Lib.hid (due_after gE.out (by rw [gF2.out, hF]) hlt)
          have f0 : (F == 0) = true := by rw [hF]; rfl
          clear hF hlt
          go_wp2_with fail
          refine (glb.out (some ad2) crb x4 (Tms.of_own hrb.out.1 hrb.out.2)).mono ?_
          rintro en x5 ⟨Are, cre, Arf, crf, rfl, hore, horf, hap, hb⟩
          clear hap
          have hre : Hid (x5.ownsRow x4.heap.size 35 2 (.slice Are me cre) me (T2 (dueA (dueB l now) later)) ∧ (dueA (dueB l now) later).length = me) := Lib.hid ⟨hore, gme.out⟩
          have ire : Hid (∀ k, (Value.slice Are me cre).ownBlock = some k → x4.heap.size ≤ k ∧ k < x5.heap.size) := Lib.hid (fun k hk => ⟨own_base hore hk, own_lt hore hk⟩)
          clear hore
          have hrf : Hid (x5.ownsRow x4.heap.size 35 2 (.slice Arf mf crf) mf (T2 (dueB (dueB l now) later)) ∧ (dueB (dueB l now) later).length = mf) := Lib.hid ⟨horf, gmf.out⟩
          have irf : Hid (∀ k, (Value.slice Arf mf crf).ownBlock = some k → x4.heap.size ≤ k ∧ k < x5.heap.size) := Lib.hid (fun k hk => ⟨own_base horf hk, own_lt horf hk⟩)
          clear horf
          have sx5 := hb.size
          replace hra := Lib.hid (And.intro (own_below hra.out.1 hb) hra.out.2)
          replace hrb := Lib.hid (And.intro (own_below hrb.out.1 hb) hrb.out.2)
          replace hrc := Lib.hid (And.intro (own_below hrc.out.1 hb) hrc.out.2)
          replace gB := Lib.hid (gB.out.trans (hb.mono gB.out.size))
          clear hb
          go_wp2_with fail
          refine (gll.out A n c x5 (gL.out x5 gB.out) (by omega)).mono ?_
          rintro en x6 ⟨Arg, crg, Arh, crh, rfl, horg, horh, hap, hb⟩
          clear hap
          have hrg : Hid (x6.ownsRow x5.heap.size 35 2 (.slice Arg mg crg) mg (T2 (dueA l later)) ∧ (dueA l later).length = mg) := Lib.hid ⟨horg, gmg.out⟩
          have irg : Hid (∀ k, (Value.slice Arg mg crg).ownBlock = some k → x5.heap.size ≤ k ∧ k < x6.heap.size) := Lib.hid (fun k hk => ⟨own_base horg hk, own_lt horg hk⟩)
          clear horg
          have hrh : Hid (x6.ownsRow x5.heap.size 35 2 (.slice Arh mh crh) mh (T2 (dueB l later)) ∧ (dueB l later).length = mh) := Lib.hid ⟨horh, gmh.out⟩
          have irh : Hid (∀ k, (Value.slice Arh mh crh).ownBlock = some k → x5.heap.size ≤ k ∧ k < x6.heap.size) := Lib.hid (fun k hk => ⟨own_base horh hk, own_lt horh hk⟩)
          clear horh
          have sx6 := hb.size
          replace hra := Lib.hid (And.intro (own_below hra.out.1 hb) hra.out.2)
          replace hrb := Lib.hid (And.intro (own_below hrb.out.1 hb) hrb.out.2)
          replace hrc := Lib.hid (And.intro (own_below hrc.out.1 hb) hrc.out.2)
          replace hre := Lib.hid (And.intro (own_below hre.out.1 hb) hre.out.2)
          replace hrf := Lib.hid (And.intro (own_below hrf.out.1 hb) hrf.out.2)
          replace gB := Lib.hid (gB.out.trans (hb.mono gB.out.size))
          clear hb
          go_wp2_with (first | (at_builtin; refine wpList_append_g (by rfl) (.tmp 123) (.tmp 124) 22 rfl x6.heap.size 35 i0 _ 2 16 Try.underlying22 hi0 hz0 hz1 hz2 rfl (by omega) (.slice (some ⟨x6.heap.size, 0, none⟩) 0 0) 0 [] rfl (own_empty (size := 2) (Blk.new x6 35 #[]) (Nat.le_refl _)) x6.heap.size (some ad) ma cra (T2 (dueA l now)) rfl ((Reads.of_own hra.out.1).alloc (Nat.le_refl _) _) (T2_one _) (by unfold maxLen; omega) (by omega) (by simp) ?_; intro z1 u7 hy1 hq1 _; have hb1 := Below.grown ((Below.refl x6.heap.size x6).alloc (Nat.le_refl _) (.cells #[] 35)) hq1 (by simp) (fun q hq => by simp [Value.ownBlock] at hq; omega); have sz1 := hb1.size; have hr1 := own_below hre.out.1 hb1; rw [Nat.zero_add, List.nil_append] at hy1; obtain ⟨Az, cz, rfl, _, _⟩ := own_slice hy1) | (at_builtin; refine wpList_append_g (by rfl) (.tmp 125) (.tmp 126) 22 rfl x6.heap.size 35 i0 _ 2 16 Try.underlying22 hi0 hz0 hz1 hz2 rfl (by omega) (.slice Az ma cz) ma (T2 (dueA l now)) rfl hy1 u7.heap.size Are me cre (T2 (dueA (dueB l now) later)) rfl (Reads.of_own hr1) (T2_one _) (by unfold maxLen; omega) (by omega) sz1 ?_; intro z2 v7 hy2 hq2 _; have hb2 : Below x6.heap.size x6 v7 := Below.grown hb1 hq2 sz1 (fun q hq => own_base hy1 hq); rw [← T2_app] at hy2; obtain ⟨Ark, crk, rfl, _, _⟩ := own_slice hy2))
          have hrk : Hid (v7.ownsRow x6.heap.size 35 2 (.slice Ark (ma + me) crk) (ma + me) (T2 ((dueA l now) ++ (dueA (dueB l now) later))) ∧ ((dueA l now) ++ (dueA (dueB l now) later)).length = ma + me) := Lib.hid ⟨hy2, by rw [List.length_append, hra.out.2, hre.out.2]⟩
          have irk : Hid (∀ k, (Value.slice Ark (ma + me) crk).ownBlock = some k → x6.heap.size ≤ k ∧ k < v7.heap.size) := Lib.hid (fun k hk => ⟨own_base hy2 hk, own_lt hy2 hk⟩)
          clear hq1 hq2 hy1 hy2 hb1 hr1
          have sv7 := hb2.size
          replace hra := Lib.hid (And.intro (own_below hra.out.1 hb2) hra.out.2)
          replace hrb := Lib.hid (And.intro (own_below hrb.out.1 hb2) hrb.out.2)
          replace hrc := Lib.hid (And.intro (own_below hrc.out.1 hb2) hrc.out.2)
          replace hre := Lib.hid (And.intro (own_below hre.out.1 hb2) hre.out.2)
          replace hrf := Lib.hid (And.intro (own_below hrf.out.1 hb2) hrf.out.2)
          replace hrg := Lib.hid (And.intro (own_below hrg.out.1 hb2) hrg.out.2)
          replace hrh := Lib.hid (And.intro (own_below hrh.out.1 hb2) hrh.out.2)
          replace gB := Lib.hid (gB.out.trans (hb2.mono gB.out.size))
          clear hb2
          refine (rsame_any Ark Arg (ma + me) mg crk crg ((dueA l now) ++ (dueA (dueB l now) later)) (dueA l later) (own_max hrk.out.1) v7 (Tms.of_own hrk.out.1 hrk.out.2) (Tms.of_own hrg.out.1 hrg.out.2) true (decide_eq_true gz.out.1)).mono ?_
          rintro en x8 ⟨rfl, hb⟩
          have sx8 := hb.size
          replace hra := Lib.hid (And.intro (own_below hra.out.1 hb) hra.out.2)
          replace hrb := Lib.hid (And.intro (own_below hrb.out.1 hb) hrb.out.2)
          replace hrc := Lib.hid (And.intro (own_below hrc.out.1 hb) hrc.out.2)
          replace hre := Lib.hid (And.intro (own_below hre.out.1 hb) hre.out.2)
          replace hrf := Lib.hid (And.intro (own_below hrf.out.1 hb) hrf.out.2)
          replace hrg := Lib.hid (And.intro (own_below hrg.out.1 hb) hrg.out.2)
          replace hrh := Lib.hid (And.intro (own_below hrh.out.1 hb) hrh.out.2)
          replace hrk := Lib.hid (And.intro (own_below hrk.out.1 hb) hrk.out.2)
          replace gB := Lib.hid (gB.out.trans (hb.mono gB.out.size))
          clear hb
          go_wp2_with fail
          refine (rsame_any Arf Arh mf mh crf crh (dueB (dueB l now) later) (dueB l later) (own_max hrf.out.1) x8 (Tms.of_own hrf.out.1 hrf.out.2) (Tms.of_own hrh.out.1 hrh.out.2) true (decide_eq_true gz.out.2)).mono ?_
          rintro en x9 ⟨rfl, hb⟩
          have sx9 := hb.size
          replace hra := Lib.hid (And.intro (own_below hra.out.1 hb) hra.out.2)
          replace hrb := Lib.hid (And.intro (own_below hrb.out.1 hb) hrb.out.2)
          replace hrc := Lib.hid (And.intro (own_below hrc.out.1 hb) hrc.out.2)
          replace hre := Lib.hid (And.intro (own_below hre.out.1 hb) hre.out.2)
          replace hrf := Lib.hid (And.intro (own_below hrf.out.1 hb) hrf.out.2)
          replace hrg := Lib.hid (And.intro (own_below hrg.out.1 hb) hrg.out.2)
          replace hrh := Lib.hid (And.intro (own_below hrh.out.1 hb) hrh.out.2)
          replace hrk := Lib.hid (And.intro (own_below hrk.out.1 hb) hrk.out.2)
          replace gB := Lib.hid (gB.out.trans (hb.mono gB.out.size))
          clear hb
          go_wp2
          go_ret
          exact ⟨rfl, gB.out⟩
end Go.Proofs.Ythageikchniahaa
