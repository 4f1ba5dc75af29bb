/- Flight: acts on different Numbers -/
import Derived.Test.YtdmjdpaehnhdoaaNH
import Derived.Test.YtdmjdpaehnhdoaaLF
import Derived.Test.YtdmjdpaehnhdoaaLH
namespace Go.Proofs.Ytdmjdpaehnhdoaa
open Go.ChangeShapes Go.WideShapes Go.ChangeAt Go.RowKit
set_option linter.unusedSimpArgs false
set_option linter.unusedVariables false
theorem fineA_sm {l : List En} (h : fine l) : ∀ x ∈ l, smM x.give := fun x hx => by
  have := h x hx
  unfold smM
  omega
def DonF (p : Int) (l : List En) (N : Int) (l' : List En) (E : Int) : Prop := (p = 0 ∧ DblF l N l' E) ∨ (p = 1 ∧ ∃ x, CmeF false l N l' x E) ∨ ((p ≠ 0 ∧ p ≠ 1) ∧ ∃ x, CmeF true l N l' x E)
theorem don_ok {p : Int} {l l' : List En} {N E : Int} (hs : ∀ x ∈ l, smM x.give) (h : DonF p l N l' E) : OkE l l' := by
  rcases h with ⟨_, h⟩ | ⟨_, x, h⟩ | ⟨_, x, h⟩
  · exact dbl_ok hs h
  · exact (cme_ok hs h).1
  · exact (cme_ok hs h).1
def actN (p : Int) (y : En) : Option En := if p = 0 then some { y with cp := y.cp + 1 } else if p = 1 then (if y.cp = 1 then none else some { y with cp := y.cp - 1 }) else none
def atN (p N : Int) (y : En) : Option En := if y.nu = N then actN p y else some y
theorem fm_id (f : En → Option En) : ∀ (l : List En), (∀ x ∈ l, f x = some x) → l.filterMap f = l
  | [], _ => rfl
  | x :: r, h => by rw [List.filterMap_cons_some (h x (by simp)), fm_id f r (fun y hy => h y (by simp [hy]))]
theorem fm_at (f : En → Option En) (o : Option En) : ∀ (l : List En) (k : Nat), k < l.length → (∀ (j : Nat) (x : En), l[j]? = some x → f x = if j = k then o else some x) → l.filterMap f = l.take k ++ (o.toList ++ l.drop (k + 1))
  | [], k, hk, _ => by simp at hk
  | x :: r, 0, _, h => by
    have h0 := h 0 x rfl
    rw [if_pos rfl] at h0
    have hr : r.filterMap f = r := fm_id f r (fun y hy => by
      obtain ⟨j, hj, rfl⟩ := List.getElem_of_mem hy
      have := h (j + 1) r[j] (by simp [hj])
      rwa [if_neg (by omega)] at this)
    cases o with
    | none => rw [List.filterMap_cons_none h0, hr]; simp
    | some y => rw [List.filterMap_cons_some h0, hr]; simp
  | x :: r, k + 1, hk, h => by
    have h0 := h 0 x rfl
    rw [if_neg (by omega)] at h0
    rw [List.filterMap_cons_some h0, fm_at f o r k (by simpa using hk) (fun j y hy => by
      have := h (j + 1) y (by simpa using hy)
      by_cases e : j = k
      · rw [if_pos (by omega)] at this; rw [if_pos e]; exact this
      · rw [if_neg (by omega)] at this; rw [if_neg e]; exact this)]
    simp
theorem at_map {p N : Int} {l : List En} (hg : goodF l) {k : Nat} {y : En} (hy : l[k]? = some y) (hn : y.nu = N) : l.filterMap (atN p N) = l.take k ++ ((actN p y).toList ++ l.drop (k + 1)) := by
  refine fm_at _ _ l k (List.getElem?_eq_some_iff.1 hy).1 (fun j x hx => ?_)
  by_cases e : j = k
  · subst e
    rw [hy] at hx
    injection hx with hx
    subst hx
    rw [if_pos rfl]
    exact if_pos hn
  · rw [if_neg e]
    exact if_neg (fun h => e (num_one hg hx hy (by rw [h, hn])))
theorem no_map {p N : Int} {l : List En} (h : ∀ (j : Nat) (y : En), l[j]? = some y → y.nu ≠ N) : l.filterMap (atN p N) = l := fm_id _ l (fun x hx => by
  obtain ⟨j, hj, rfl⟩ := List.getElem_of_mem hx
  exact if_neg (h j _ (List.getElem?_eq_getElem hj)))
theorem set_td {l : List En} {k : Nat} {y z : En} (hy : l[k]? = some y) : l.set k z = l.take k ++ ([z] ++ l.drop (k + 1)) := by
  have hk := (List.getElem?_eq_some_iff.1 hy).1
  rw [List.set_eq_take_append_cons_drop, if_pos hk]
  simp
theorem don_map {p : Int} {l l' : List En} {N : Int} (h : DonF p l N l' 0) : l' = l.filterMap (atN p N) := by
  rcases h with ⟨rfl, h⟩ | ⟨rfl, x, h⟩ | ⟨hp, x, h⟩
  · rcases h with ⟨_, h, _⟩ | ⟨_, _, h, _⟩ | ⟨hc, _, ⟨k, y, hy, hn, ⟨_, _, h⟩ | ⟨_, rfl, _⟩⟩ | ⟨hno, rfl, _⟩⟩
    · exact absurd rfl h
    · cases h
    · cases h
    · rw [at_map hc.good hy hn, set_td hy]; rfl
    · exact (no_map hno).symm
  · rcases h with ⟨_, h, _⟩ | ⟨_, _, h, _⟩ | ⟨hc, _, _, ⟨k, y, hy, hn, ⟨h1, rfl, _⟩ | ⟨h1, rfl, _⟩⟩ | ⟨hno, rfl, _⟩⟩
    · exact absurd rfl h
    · cases h
    · rw [at_map hc.good hy hn]
      have : y.cp = 1 := by rcases h1 with h1 | h1; exact Bool.noConfusion h1; exact h1
      simp [actN, this]
    · rw [at_map hc.good hy hn, set_td hy]
      have : ¬ y.cp = 1 := fun e => h1 (.inr e)
      simp [actN, this]
    · exact (no_map hno).symm
  · rcases h with ⟨_, h, _⟩ | ⟨_, _, h, _⟩ | ⟨hc, _, _, ⟨k, y, hy, hn, ⟨h1, rfl, _⟩ | ⟨h1, rfl, _⟩⟩ | ⟨hno, rfl, _⟩⟩
    · exact absurd rfl h
    · cases h
    · rw [at_map hc.good hy hn]
      simp [actN, hp.1, hp.2]
    · exact absurd (.inl rfl) h1
    · exact (no_map hno).symm
theorem act_nu {p : Int} {y z : En} (h : actN p y = some z) : z.nu = y.nu := by
  unfold actN at h
  split at h
  · injection h with h; rw [← h]
  · split at h
    · split at h
      · cases h
      · injection h with h; rw [← h]
    · cases h
theorem act_com {p q a b : Int} (hab : a ≠ b) (l : List En) : (l.filterMap (atN p a)).filterMap (atN q b) = (l.filterMap (atN q b)).filterMap (atN p a) := by
  rw [List.filterMap_filterMap, List.filterMap_filterMap]
  congr 1
  funext y
  by_cases h1 : y.nu = a
  · have e1 : atN p a y = actN p y := if_pos h1
    have e2 : atN q b y = some y := if_neg (by rw [h1]; exact hab)
    rw [e1, e2, Option.bind_some, e1]
    cases h : actN p y with
    | none => rfl
    | some z => exact if_neg (by rw [act_nu h, h1]; exact hab)
  · have e1 : atN p a y = some y := if_neg h1
    rw [e1, Option.bind_some]
    by_cases h2 : y.nu = b
    · have e2 : atN q b y = actN q y := if_pos h2
      rw [e2]
      cases h : actN q y with
      | none => rfl
      | some z => exact (if_neg (by rw [act_nu h]; exact h1) : atN p a z = some z).symm
    · have e2 : atN q b y = some y := if_neg h2
      rw [e2, Option.bind_some, e1]
theorem don_com {p q a b : Int} (hab : a ≠ b) {l l1 l2 l3 l4 : List En} (h1 : DonF p l a l1 0) (h2 : DonF q l1 b l2 0) (h3 : DonF q l b l3 0) (h4 : DonF p l3 a l4 0) : l2 = l4 := by
  rw [don_map h2, don_map h1, don_map h4, don_map h3]
  exact act_com hab l
theorem outE_pair {w w' : World} {v : Value} {l : List En} {x : En} {ox : EO} (h : PairE w v l x ox w') (o : Obj) : OutE w v l (w'.alloc o) := by
  obtain ⟨⟨A, n, c, os, rfl, h1, h2, h3, h4, h5, h6⟩, hb⟩ := h
  exact ⟨A, n, c, rfl, accE_done (AccE.below ⟨os, h1, h3, h4⟩ ((Below.refl _ _).alloc (Nat.le_refl _) _)) (hb.alloc hb.size _)⟩
set_option maxRecDepth 100000 in
set_option maxHeartbeats 8000000 in
theorem done_any (A : Option Addr) (n c : Nat) (l : List En) (hm : n ≤ 10000) (hs1 : ∀ x ∈ l, smM x.give) (w : World) (h : Ens w w.heap.size A n l) (N p : Int) : Calls Try.prog 28 #[.slice A n c, .int .i64 N, .int .u8 p] w fun en w' => ∃ l' v E, en = .returned (.tuple #[v, .int .i64 E]) ∧ DonF p l N l' E ∧ OutE w v l' w' := by
  by_cases h0 : p = 0
  · subst h0
    go_enter Try.func28, Try.ntmps28
    go_wp2_with fail
    refine (double_any A n c l hm hs1 w h N).mono ?_
    rintro en w1 ⟨l', v, E, rfl, hF, hO⟩
    have gO := Lib.hid hO
    have gF := Lib.hid hF
    clear hO hF
    go_wp2
    go_ret2
    exact ⟨l', v, E, rfl, .inl ⟨rfl, gF.out⟩, gO.out⟩
  have f0 : (p == 0) = false := beq_eq_false_iff_ne.2 h0
  by_cases h1 : p = 1
  · subst h1
    clear f0
    go_enter Try.func28, Try.ntmps28
    go_wp2_with fail
    refine (lose_any A n c l hm hs1 w h N).mono ?_
    rintro en w1 ⟨l', x, ox, v, vx, E, rfl, hF, rfl, hP⟩
    have hO := outE_pair hP (.cells #[.int .i64 ox.x.nu, .int .i64 ox.x.ep, .int .i64 ox.x.cp, .bool ox.x.give.s.neg, .slice ox.X0 ox.x.give.s.ls.length ox.c0, .int .i64 ox.x.give.s.ex, .bool ox.x.give.w.neg, .slice ox.X1 ox.x.give.w.ls.length ox.c1, .int .i64 ox.x.give.w.ex, .bool ox.x.give.c.neg, .slice ox.X2 ox.x.give.c.ls.length ox.c2, .int .i64 ox.x.give.c.ex, .bool ox.x.give.a.neg, .slice ox.X3 ox.x.give.a.ls.length ox.c3, .int .i64 ox.x.give.a.ex] 40)
    have gO := Lib.hid hO
    have gF := Lib.hid hF
    clear hO hF hP
    unfold aggE
    go_wp2
    go_ret2
    exact ⟨l', v, E, rfl, .inr (.inl ⟨rfl, x, gF.out⟩), gO.out⟩
  · have f1 : (p == 1) = false := beq_eq_false_iff_ne.2 h1
    have gp := Lib.hid (And.intro h0 h1)
    clear h0 h1
    go_enter Try.func28, Try.ntmps28
    go_wp2_with fail
    refine (land_any A n c l hm hs1 w h N).mono ?_
    rintro en w1 ⟨l', x, ox, v, vx, E, rfl, hF, rfl, hP⟩
    have hO := outE_pair hP (.cells #[.int .i64 ox.x.nu, .int .i64 ox.x.ep, .int .i64 ox.x.cp, .bool ox.x.give.s.neg, .slice ox.X0 ox.x.give.s.ls.length ox.c0, .int .i64 ox.x.give.s.ex, .bool ox.x.give.w.neg, .slice ox.X1 ox.x.give.w.ls.length ox.c1, .int .i64 ox.x.give.w.ex, .bool ox.x.give.c.neg, .slice ox.X2 ox.x.give.c.ls.length ox.c2, .int .i64 ox.x.give.c.ex, .bool ox.x.give.a.neg, .slice ox.X3 ox.x.give.a.ls.length ox.c3, .int .i64 ox.x.give.a.ex] 40)
    have gO := Lib.hid hO
    have gF := Lib.hid hF
    clear hO hF hP
    unfold aggE
    go_wp2
    go_ret2
    exact ⟨l', v, E, rfl, .inr (.inr ⟨gp.out, x, gF.out⟩), gO.out⟩
set_option maxRecDepth 100000 in
set_option maxHeartbeats 32000000 in
theorem FlightApart.walk (A : Option Addr) (n c : Nat) (l : List En) (hnx : n ≤ maxLen) (a b p q : Int) (w : World) (h : Ens w w.heap.size A n l) : Calls Try.prog 5 #[.slice A n c, .int .i64 a, .int .i64 b, .int .u8 p, .int .u8 q] w fun en w' => en = .returned (.bool true) ∧ Below w.heap.size w w' := by
  have gh := Lib.hid h
  have gln := Lib.hid (ens_len h)
  clear h
  go_enter Try.func5, Try.ntmps5
  go_wp2_with fail
  refine (alive_any w).mono ?_
  rintro en w1 ⟨rfl, hb1⟩
  go_wp2_with fail
  refine (lgreat_any A n c l hnx w1 (Recs.more (Recs.below gh.out hb1) hb1.size)).mono ?_
  rintro en wg ⟨G, rfl, hb2, hG⟩
  have hB2 := hb1.trans (hb2.mono hb1.size)
  have gB := Lib.hid hB2
  have gL : Hid (∀ v', Below w.heap.size w v' → Ens v' v'.heap.size A n l) := Lib.hid (fun v' hb => Recs.more (Recs.below gh.out hb) hb.size)
  clear hb1 hb2 hB2
  cases G with
  | true =>
    clear hG
    go_wp2
    go_ret
    exact ⟨rfl, gB.out⟩
  | false =>
    have hG' := hG rfl
    have gs := Lib.hid (fineA_sm hG'.2)
    have gl20 := Lib.hid hG'.1
    have hn10 : n ≤ 10000 := by have h1 := hG'.1; have h2 := gln.out; rw [h2] at h1; omega
    clear hG hG'
    by_cases hab0 : a = b
    · have f0 : (a == b) = true := by simp [hab0]
      clear hab0
      go_wp2
      go_ret
      exact ⟨rfl, gB.out⟩
    have hab := Lib.hid (show a ≠ b from hab0)
    have f0 : (a == b) = false := beq_eq_false_iff_ne.2 hab0
    clear hab0
    go_wp2_with fail
    refine (done_any A n c l (by omega) gs.out wg (gL.out _ gB.out) a p).mono ?_
    rintro en x1 ⟨lx, vx, Ex, rfl, hF, hO⟩
    have slx := Lib.hid (don_ok gs.out hF).2
    have zlx : Hid (lx.length ≤ 21) := Lib.hid (by have h1 := (don_ok gs.out hF).1; have h2 := gl20.out; omega)
    obtain ⟨Ax, nx, cx, rfl, hT⟩ := hO
    have hb := hT.2.2.2.1
    have rx := Lib.hid hT.2.1
    have qx : nx ≤ 10000 := by rw [← ens_len hT.2.1]; have := zlx.out; omega
    have gx := Lib.hid hF
    clear hT hF
    replace gB := Lib.hid (gB.out.trans (hb.mono gB.out.size))
    clear hb
    go_wp2_with fail
    refine (done_any Ax nx cx lx (by omega) slx.out x1 rx.out b q).mono ?_
    rintro en x2 ⟨ly, vy, Ey, rfl, hF, hO⟩
    have sly := Lib.hid (don_ok slx.out hF).2
    have zly : Hid (ly.length ≤ 22) := Lib.hid (by have h1 := (don_ok slx.out hF).1; have h2 := zlx.out; omega)
    obtain ⟨Ay, ny, cy, rfl, hT⟩ := hO
    have hb := hT.2.2.2.1
    have ry := Lib.hid hT.2.1
    have qy : ny ≤ 10000 := by rw [← ens_len hT.2.1]; have := zly.out; omega
    have gy := Lib.hid hF
    clear hT hF
    replace rx := Lib.hid (Recs.more (Recs.below rx.out hb) hb.size)
    replace gB := Lib.hid (gB.out.trans (hb.mono gB.out.size))
    clear hb
    go_wp2_with fail
    refine (done_any A n c l (by omega) gs.out x2 (gL.out _ gB.out) b q).mono ?_
    rintro en x3 ⟨lz, vz, Ez, rfl, hF, hO⟩
    have slz := Lib.hid (don_ok gs.out hF).2
    have zlz : Hid (lz.length ≤ 21) := Lib.hid (by have h1 := (don_ok gs.out hF).1; have h2 := gl20.out; omega)
    obtain ⟨Az, nz, cz, rfl, hT⟩ := hO
    have hb := hT.2.2.2.1
    have rz := Lib.hid hT.2.1
    have qz : nz ≤ 10000 := by rw [← ens_len hT.2.1]; have := zlz.out; omega
    have gz := Lib.hid hF
    clear hT hF
    replace rx := Lib.hid (Recs.more (Recs.below rx.out hb) hb.size)
    replace ry := Lib.hid (Recs.more (Recs.below ry.out hb) hb.size)
    replace gB := Lib.hid (gB.out.trans (hb.mono gB.out.size))
    clear hb
    go_wp2_with fail
    refine (done_any Az nz cz lz (by omega) slz.out x3 rz.out a p).mono ?_
    rintro en x4 ⟨lu, vu, Eu, rfl, hF, hO⟩
    have slu := Lib.hid (don_ok slz.out hF).2
    have zlu : Hid (lu.length ≤ 22) := Lib.hid (by have h1 := (don_ok slz.out hF).1; have h2 := zlz.out; omega)
    obtain ⟨Au, nu, cu, rfl, hT⟩ := hO
    have hb := hT.2.2.2.1
    have ru := Lib.hid hT.2.1
    have qu : nu ≤ 10000 := by rw [← ens_len hT.2.1]; have := zlu.out; omega
    have gu := Lib.hid hF
    clear hT hF
    replace rx := Lib.hid (Recs.more (Recs.below rx.out hb) hb.size)
    replace ry := Lib.hid (Recs.more (Recs.below ry.out hb) hb.size)
    replace rz := Lib.hid (Recs.more (Recs.below rz.out hb) hb.size)
    replace gB := Lib.hid (gB.out.trans (hb.mono gB.out.size))
    clear hb
    by_cases hx : Ex = 0
    rotate_left
    · have ex1 : (Ex == 0) = false := beq_eq_false_iff_ne.2 hx
      have ex2 : (Ex != 0) = true := by simp [bne, ex1]
      go_wp2
      go_ret
      exact ⟨rfl, gB.out⟩
    subst hx
    by_cases hy : Ey = 0
    rotate_left
    · have ey1 : (Ey == 0) = false := beq_eq_false_iff_ne.2 hy
      have ey2 : (Ey != 0) = true := by simp [bne, ey1]
      go_wp2
      go_ret
      exact ⟨rfl, gB.out⟩
    subst hy
    by_cases hz : Ez = 0
    rotate_left
    · have ez1 : (Ez == 0) = false := beq_eq_false_iff_ne.2 hz
      have ez2 : (Ez != 0) = true := by simp [bne, ez1]
      go_wp2
      go_ret
      exact ⟨rfl, gB.out⟩
    subst hz
    by_cases hu : Eu = 0
    rotate_left
    · have eu1 : (Eu == 0) = false := beq_eq_false_iff_ne.2 hu
      have eu2 : (Eu != 0) = true := by simp [bne, eu1]
      go_wp2
      go_ret
      exact ⟨rfl, gB.out⟩
    subst hu
    go_wp2_with fail
    refine (esame_any Ay Au ny nu cy cu ly lu qy qu sly.out slu.out true (decide_eq_true (don_com hab.out gx.out gy.out gz.out gu.out)) x4 ry.out ru.out).mono ?_
    rintro en x5 ⟨rfl, hb⟩
    go_wp2
    go_ret
    exact ⟨rfl, gB.out.trans (hb.mono gB.out.size)⟩
end Go.Proofs.Ytdmjdpaehnhdoaa
