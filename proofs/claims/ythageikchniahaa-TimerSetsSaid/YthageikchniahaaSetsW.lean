/- Timer: the walk of TimerSets -/
import Derived.Test.YthageikchniahaaTY
namespace Go.Proofs.Ythageikchniahaa
open Go.ChangeShapes Go.WideShapes Go.ChangeAt Go.RowKit
set_option linter.unusedSimpArgs false
set_option linter.unusedVariables false

/-- Those of the first k that may be, in order. -/
def Acc (l : List Tm) (k : Nat) (a : List Tm) : Prop := Str a ∧ (∀ x, x ∈ a ↔ x ∈ l.take k ∧ mayT x = true) ∧ a.length ≤ k
theorem acc_start (l : List Tm) : Acc l 0 [] := ⟨List.Pairwise.nil, fun x => by simp, Nat.le_refl _⟩
theorem acc_chk {l a : List Tm} {k : Nat} (h : Acc l k a) (hk : k ≤ 1024) : chkE a = 0 := by
  obtain ⟨h1, h2, h3⟩ := h
  refine chk_ok (by omega) (fun j hj => ⟨((h2 _).1 (List.mem_of_getElem? (tz_lt hj))).2, fun h0 => ?_⟩)
  have := adj_str h1 (j - 1) (by omega)
  rwa [show j - 1 + 1 = j by omega] at this
theorem acc_skip {l a : List Tm} {k : Nat} (h : Acc l k a) (hk : k < l.length) (h1 : mayT (tz l k) = false ∨ a.contains (tz l k) = true) : Acc l (k + 1) a := by
  refine ⟨h.1, fun x => ?_, by have := h.2.2; omega⟩
  rw [take_one hk, List.mem_append, List.mem_singleton, h.2.1]
  constructor
  · rintro ⟨h2, h3⟩
    exact ⟨.inl h2, h3⟩
  · rintro ⟨h2 | h2, h3⟩
    · exact ⟨h2, h3⟩
    · subst h2
      rcases h1 with h1 | h1
      · rw [h1] at h3; cases h3
      · exact (h.2.1 _).1 (by simpa using h1)
theorem acc_put {l a : List Tm} {k : Nat} (h : Acc l k a) (hk : k < l.length) (h1 : mayT (tz l k) = true) (h2 : a.contains (tz l k) = false) : Acc l (k + 1) (wth a (tz l k)) := by
  refine ⟨wth_str h.1 (by simpa using h2), fun x => ?_, by rw [wth_len]; have := h.2.2; omega⟩
  rw [take_one hk, wth_mem, List.mem_append, List.mem_singleton, h.2.1]
  constructor
  · rintro (h3 | ⟨h3, h4⟩)
    · subst h3; exact ⟨.inr rfl, h1⟩
    · exact ⟨.inl h3, h4⟩
  · rintro ⟨h3 | h3, h4⟩
    · exact .inr ⟨h3, h4⟩
    · exact .inl h3
theorem acc_end {l a b : List Tm} {n : Nat} (hn : l.length = n) (ha : Acc l n a) (hb : Acc l.reverse n b) : a = b := by
  subst hn
  refine str_eq ha.1 hb.1 (fun x => ?_)
  rw [ha.2.1, hb.2.1, List.take_length, List.take_of_length_le (by simp), List.mem_reverse]
theorem tz_rev {l : List Tm} {k n : Nat} (hn : l.length = n) (hk : k < n) : tz l.reverse k = tz l (n - 1 - k) := by
  subst hn
  have h1 := tz_lt (l := l.reverse) (k := k) (by simpa using hk)
  rw [List.getElem?_reverse hk, tz_lt (by omega)] at h1
  injection h1 with h1
  exact h1.symm
/-- What a setting answers, and makes, where the list is right and not full. -/
theorem set_cases {a : List Tm} {t : Tm} (h : chkE a = 0) (hl : a.length < 1024) : (mayT t = false ∧ setE a t = 8 ∧ setO a t = []) ∨ (mayT t = true ∧ a.contains t = true ∧ setE a t = 12 ∧ setO a t = []) ∨ (mayT t = true ∧ a.contains t = false ∧ setE a t = 0 ∧ setO a t = wth a t) := by
  cases hm : mayT t with
  | false => exact .inl ⟨rfl, set_may h hm, set_mayO h hm⟩
  | true =>
    cases hc : a.contains t with
    | true => exact .inr (.inl ⟨rfl, rfl, set_in h hm hc, set_inO h hm hc⟩)
    | false => exact .inr (.inr ⟨rfl, rfl, set_ok h hm hc (by omega), set_okO h hm hc (by omega)⟩)
/-- What were set, one behind the other. -/
def Som (a s : List Tm) : Prop := (∀ x, x ∈ s ↔ x ∈ a) ∧ s.length = a.length
theorem som_put {a s : List Tm} {t : Tm} (h : Som a s) : Som (wth a t) (s ++ [t]) := by
  refine ⟨fun x => ?_, by rw [List.length_append, wth_len, h.2]; rfl⟩
  rw [List.mem_append, List.mem_singleton, wth_mem, h.1]
  exact Or.comm
theorem som_order {l a s : List Tm} {k : Nat} (h : Som a s) (ha : Acc l k a) (hk : k ≤ 1024) : ordE s = 0 ∧ ordO s = a := by
  have hl := ha.2.2
  have e : ordE s = 0 := by
    unfold ordE
    rw [if_neg (by rw [h.2]; omega), if_neg]
    intro hx
    rw [List.any_eq_true] at hx
    obtain ⟨z, hz, hz2⟩ := hx
    rw [((ha.2.1 z).1 ((h.1 z).1 hz)).2] at hz2
    cases hz2
  refine ⟨e, ?_⟩
  unfold ordO
  rw [if_pos e]
  exact (ordL_eq ha.1 (fun x => (h.1 x).symm)).symm
theorem som_min {l a s : List Tm} {k j : Nat} (h : Som a s) (ha : Acc l k a) (hj : j < s.length) : ahd (tz s j) (tz a 0) = false := by
  have hm : tz s j ∈ a := (h.1 _).1 (List.mem_of_getElem? (tz_lt hj))
  have hs := ha.1
  cases a with
  | nil => cases hm
  | cons y r =>
    have h1 := List.pairwise_cons.1 hs
    rcases List.mem_cons.1 hm with e | e
    · rw [e]; exact ahd_irr _
    · exact ahd_asymm (h1.1 _ e)
/-- The three rows under way. -/
def TI3 (w wr : World) (va vb vs : Value) (a b s : List Tm) (ma mb ms : Nat) : Prop := Ow wr w.heap.size va ma a ∧ Ow wr w.heap.size vb mb b ∧ Ow wr w.heap.size vs ms s ∧ Apart va vs ∧ Apart vb vs ∧ Below w.heap.size w wr ∧ w.heap.size ≤ wr.heap.size
theorem TI3.below {w wr w2 : World} {va vb vs : Value} {a b s : List Tm} {ma mb ms : Nat} (h : TI3 w wr va vb vs a b s ma mb ms) (hb : Below wr.heap.size wr w2) : TI3 w w2 va vb vs a b s ma mb ms := by
  obtain ⟨h1, h2, h3, h4, h5, h6, h7⟩ := h
  exact ⟨h1.below hb, h2.below hb, h3.below hb, h4, h5, h6.trans (hb.mono h7), Nat.le_trans h7 hb.size⟩
theorem TI3.newa {w wr w2 : World} {va vb vs v : Value} {a b s o : List Tm} {ma mb ms m : Nat} (h : TI3 w wr va vb vs a b s ma mb ms) (hb : Below wr.heap.size wr w2) (ho : w2.ownsRow wr.heap.size 35 2 v m (T2 o)) (hl : o.length = m) : TI3 w w2 v vb vs o b s m mb ms := by
  have h8 := h.below hb
  obtain ⟨h1, h2, h3, h4, h5, h6, h7⟩ := h8
  refine ⟨⟨hl, own_base_le ho h.2.2.2.2.2.2⟩, h2, h3, fun k hk e => ?_, h5, h6, h7⟩
  have a1 := own_base ho hk
  have a2 := own_lt h.2.2.1.2 e
  omega
theorem TI3.newb {w wr w2 : World} {va vb vs v : Value} {a b s o : List Tm} {ma mb ms m : Nat} (h : TI3 w wr va vb vs a b s ma mb ms) (hb : Below wr.heap.size wr w2) (ho : w2.ownsRow wr.heap.size 35 2 v m (T2 o)) (hl : o.length = m) : TI3 w w2 va v vs a o s ma m ms := by
  have h8 := h.below hb
  obtain ⟨h1, h2, h3, h4, h5, h6, h7⟩ := h8
  refine ⟨h1, ⟨hl, own_base_le ho h.2.2.2.2.2.2⟩, h3, h4, fun k hk e => ?_, h6, h7⟩
  have a1 := own_base ho hk
  have a2 := own_lt h.2.2.1.2 e
  omega
theorem TI3.push {w W w4 : World} {va vb vs v4 : Value} {a b s : List Tm} {ma mb ms : Nat} {o : Obj} {t : Tm} (h : TI3 w W va vb vs a b s ma mb ms) (ho : w4.ownsRow w.heap.size 35 2 v4 (ms + 1) (T2 s ++ [.int .i64 t.1, .int .i64 t.2])) (hg : (W.alloc o).grownBy w4 vs.ownBlock) (hor : v4.ownBlock = vs.ownBlock ∨ v4.ownBlock = some (W.alloc o).heap.size) : TI3 w w4 va vb v4 a b (s ++ [t]) ma mb (ms + 1) := by
  obtain ⟨h1, h2, h3, h4, h5, h6, h7⟩ := h
  obtain ⟨k1, k2, k3⟩ := h3.push h6 h7 ho hg
  have hb := (Below.refl W.heap.size W).alloc (Nat.le_refl _) o
  exact ⟨⟨h1.1, own_grown (own_below h1.2 hb) hg (fun k hk e => h4 k hk e)⟩, ⟨h2.1, own_grown (own_below h2.2 hb) hg (fun k hk e => h5 k hk e)⟩, k1, (fresh_apart h4.symm h1.2 hor).symm, (fresh_apart h5.symm h2.2 hor).symm, k2, k3⟩
def SI (w wr : World) (l : List Tm) (va vb vs : Value) (ma mb ms k : Nat) : Prop := ∃ a b s, TI3 w wr va vb vs a b s ma mb ms ∧ Acc l k a ∧ Acc l.reverse k b ∧ Som a s
theorem SI.below {w wr w2 : World} {l : List Tm} {va vb vs : Value} {ma mb ms k : Nat} (h : SI w wr l va vb vs ma mb ms k) (hb : Below wr.heap.size wr w2) : SI w w2 l va vb vs ma mb ms k := by
  obtain ⟨a, b, s, h1, h2⟩ := h
  exact ⟨a, b, s, h1.below hb, h2⟩

set_option maxRecDepth 100000 in
set_option maxHeartbeats 64000000 in
theorem TimerSets.walk (A : Option Addr) (n c : Nat) (l : List Tm) (w0 : World) (h : Tms w0 w0.heap.size A n l) : Calls Try.prog 5 #[.slice A n c] w0 fun en w' => en = .returned (.bool true) ∧ Below w0.heap.size w0 w' := by
  have gl := Lib.hid h.1
  obtain ⟨i0, hi0, hz0, hz1, hz2⟩ := info_parts infoT
  have hal := alive_any w0
  by_cases hbig : 60 < n
  · have d1 : decide ((60 : Int) < n) = true := decide_eq_true (by omega)
    have d2 : decide (60 < n) = true := decide_eq_true hbig
    clear h hbig
    go_enter Try.func5, Try.ntmps5
    go_wp2_with fail
    refine hal.mono ?_
    rintro en w ⟨rfl, hb⟩
    go_wp2
    go_ret
    exact ⟨rfl, hb⟩
  have hn : n ≤ 60 := by omega
  have d1 : decide ((60 : Int) < n) = false := decide_eq_false (by omega)
  have d2 : decide (60 < n) = false := decide_eq_false hbig
  clear hbig
  go_enter Try.func5, Try.ntmps5
  go_wp2_with fail
  refine hal.mono ?_
  rintro en w ⟨rfl, hb0⟩
  have hw := h.go hb0 hb0.size
  have gB0 := Lib.hid hb0
  have hat : Hid (∀ k, k < n → ∃ ad, A = some ad ∧ ad.block < w.heap.size ∧ ∀ w', Below w.heap.size w w' → w'.cell? (ad.add (k * 2)) = some (.int .i64 (tz l k).1) ∧ w'.cell? ⟨(ad.add (k * 2)).block, (ad.add (k * 2)).off + 1, none⟩ = some (.int .i64 (tz l k).2)) := Lib.hid (fun k hk => hw.at_ hk)
  have gS0 : Hid (SI w w l (.slice none 0 0) (.slice none 0 0) (.slice none 0 0) 0 0 0 0) := Lib.hid ⟨[], [], [], ⟨⟨rfl, World.ownsRow_nil _ _ _ _⟩, ⟨rfl, World.ownsRow_nil _ _ _ _⟩, ⟨rfl, World.ownsRow_nil _ _ _ _⟩, Apart.nil _, Apart.nil _, Below.refl _ _, Nat.le_refl _⟩, acc_start l, acc_start _, ⟨fun x => Iff.rfl, rfl⟩⟩
  have hset : ∀ A n c a x y w', Tms w' w'.heap.size A n a → n ≤ 5000 → Calls Try.prog 15 #[.slice A n c, .agg #[.int .i64 x, .int .i64 y]] w' (RowPost w' (setO a (x, y)) (setE a (x, y))) := fun A n c a x y w' ht hn => set_any A n c a x y hn w' ht
  clear h hw hal hb0
  go_wp2
  go_loopw [4, 5, 6, 7] (fun va vb vs t wr => ∃ (k ma mb ms ca cb cs : Nat) (Aa Ab As : Option Addr), k ≤ n ∧ ma ≤ k ∧ mb ≤ k ∧ ms ≤ k ∧ va = .slice Aa ma ca ∧ vb = .slice Ab mb cb ∧ vs = .slice As ms cs ∧ t = .int .i64 (k : Int) ∧ Hid (SI w wr l (.slice Aa ma ca) (.slice Ab mb cb) (.slice As ms cs) ma mb ms k)) (fun _ _ _ t _ => n - (intOf t).toNat)
  case atStart => exact ⟨0, 0, 0, 0, 0, 0, 0, none, none, none, Nat.zero_le _, Nat.zero_le _, Nat.zero_le _, Nat.zero_le _, rfl, rfl, rfl, rfl, gS0⟩
  case round =>
    clear gS0
    obtain ⟨k, ma, mb, ms, ca, cb, cs, Aa, Ab, As, hk, hma, hmb, hms, rfl, rfl, rfl, rfl, gI⟩ := hrel
    obtain ⟨a, b, s, hT, hAc, hBc, hSm⟩ := gI.out
    have gt := Lib.hid hT
    have hla := hT.1.1
    have hlb := hT.2.1.1
    have hwr := hT.2.2.2.2.2.1
    have hws := hT.2.2.2.2.2.2
    have hta := Tms.of_own hT.1.2 hT.1.1
    have hac := acc_chk hAc (by omega)
    have hbc := acc_chk hBc (by omega)
    by_cases hlt : k < n
    · obtain ⟨ad, rfl, hab, hc⟩ := hat.out k hlt
      obtain ⟨c0, c1⟩ := hc wr hwr
      obtain ⟨j, hj⟩ : ∃ j, n - 1 - k = j := ⟨_, rfl⟩
      obtain ⟨_, e, _, hd⟩ := hat.out j (by omega)
      injection e with e
      subst e
      obtain ⟨e0, e1⟩ := hd wr hwr
      have i1 : (0 : Int) ≤ k := by omega
      have i2 : (k : Int) < n := by omega
      have i3 : (0 : Int) ≤ j := by omega
      have i4 : (j : Int) < n := by omega
      have p3 : ((n : Int) - 1 - k) = j := by omega
      have p4 : wrap64 ((n : Int) - 1 - k) = j := by rw [p3]; unfold wrap64; omega
      obtain ⟨x, y, hxy⟩ : ∃ x y, tz l k = (x, y) := ⟨_, _, rfl⟩
      obtain ⟨x2, y2, hxy2⟩ : ∃ x y, tz l j = (x, y) := ⟨_, _, rfl⟩
      rw [hxy] at c0 c1 hc
      rw [hxy2] at e0 e1 hd
      have gxy := Lib.hid hxy
      have gxr : Hid (tz l.reverse k = (x2, y2)) := Lib.hid (by rw [tz_rev gl.out hlt, hj, hxy2])
      have gkl : Hid (k < l.length) := Lib.hid (by rw [gl.out]; exact hlt)
      have gkr : Hid (k < l.reverse.length) := Lib.hid (by rw [List.length_reverse, gl.out]; exact hlt)
      have gc : Hid (∀ v', Below wr.heap.size wr v' → v'.cell? (ad.add (k * 2)) = some (.int .i64 x) ∧ v'.cell? ⟨(ad.add (k * 2)).block, (ad.add (k * 2)).off + 1, none⟩ = some (.int .i64 y)) := Lib.hid (fun v' hb => hc v' (hwr.trans (hb.mono hws)))
      have gd : Hid (∀ v', Below wr.heap.size wr v' → v'.cell? (ad.add (j * 2)) = some (.int .i64 x2) ∧ v'.cell? ⟨(ad.add (j * 2)).block, (ad.add (j * 2)).off + 1, none⟩ = some (.int .i64 y2)) := Lib.hid (fun v' hb => hd v' (hwr.trans (hb.mono hws)))
      have gd2 : Hid (∀ v', Below w.heap.size w v' → v'.cell? (ad.add (j * 2)) = some (.int .i64 x2) ∧ v'.cell? ⟨(ad.add (j * 2)).block, (ad.add (j * 2)).off + 1, none⟩ = some (.int .i64 y2)) := Lib.hid (fun v' hb => hd v' hb)
      clear hc hd hxy hxy2 hj hT gI hat hwr
      rcases set_cases (t := (x, y)) hac (by rw [hla]; omega) with hA | hA | hA
      · have gA := Lib.hid hA
        have hsa := hset Aa ma ca a x y wr hta (by omega)
        rw [hA.2.1, hA.2.2] at hsa
        unfold RowPost at hsa
        have gacc : Hid (Acc l (k + 1) a ∧ Som a s) := Lib.hid ⟨acc_skip hAc gkl.out (by rw [gxy.out]; exact (.inl hA.1)), hSm⟩
        clear hA
        go_wp2_with fail
        refine hsa.mono ?_
        rintro en x1 ⟨A1, q1, rfl, ho1, hb1⟩
        have sx1 := hb1.size
        have gt1 := Lib.hid (gt.out.below hb1)
        obtain ⟨d0, d1⟩ := gd.out x1 hb1
        clear hsa ho1 hta e0 e1 c0 c1
        go_wp2_with fail
        have htb := Tms.of_own gt1.out.2.1.2 gt1.out.2.1.1
        have hsb := hset Ab mb cb b x2 y2 x1 htb (by omega)
        clear htb
        rcases set_cases (t := (x2, y2)) hbc (by rw [hlb]; omega) with hQ | hQ | hQ
        · rw [hQ.2.1, hQ.2.2] at hsb
          unfold RowPost at hsb
          have gbac : Hid (Acc l.reverse (k + 1) b) := Lib.hid (acc_skip hBc gkr.out (by rw [gxr.out]; exact (.inl hQ.1)))
          clear hQ
          refine hsb.mono ?_
          rintro en x9 ⟨A9, c9, rfl, ho9b, hb9⟩
          have gt9 := Lib.hid (gt1.out.below hb9)
          clear hsb ho9b
          go_wp2
          go_roundw
          case rel => exact ⟨k + 1, ma, mb, ms, ca, cb, cs, Aa, Ab, As, by omega, by omega, by omega, by omega, rfl, rfl, rfl, by go_num, Lib.hid ⟨_, _, _, gt9.out, gacc.out.1, gbac.out, gacc.out.2⟩⟩
          case measure => simp [intOf]; omega
        · rw [hQ.2.2.1, hQ.2.2.2] at hsb
          unfold RowPost at hsb
          have gbac : Hid (Acc l.reverse (k + 1) b) := Lib.hid (acc_skip hBc gkr.out (by rw [gxr.out]; exact (.inr hQ.2.1)))
          clear hQ
          refine hsb.mono ?_
          rintro en x9 ⟨A9, c9, rfl, ho9b, hb9⟩
          have gt9 := Lib.hid (gt1.out.below hb9)
          clear hsb ho9b
          go_wp2
          go_roundw
          case rel => exact ⟨k + 1, ma, mb, ms, ca, cb, cs, Aa, Ab, As, by omega, by omega, by omega, by omega, rfl, rfl, rfl, by go_num, Lib.hid ⟨_, _, _, gt9.out, gacc.out.1, gbac.out, gacc.out.2⟩⟩
          case measure => simp [intOf]; omega
        · rw [hQ.2.2.1, hQ.2.2.2] at hsb
          unfold RowPost at hsb
          have gbac : Hid (Acc l.reverse (k + 1) (wth b (x2, y2))) := Lib.hid (by rw [← gxr.out]; exact acc_put hBc gkr.out (by rw [gxr.out]; exact hQ.1) (by rw [gxr.out]; exact hQ.2.1))
          clear hQ
          refine hsb.mono ?_
          rintro en x9 ⟨A9, c9, rfl, ho9b, hb9⟩
          have hwb : (wth b (x2, y2)).length = mb + 1 := by rw [wth_len, hlb]
          rw [hwb] at ho9b ⊢
          have gt9 := Lib.hid (gt1.out.newb hb9 ho9b hwb)
          clear hsb ho9b
          go_wp2
          go_roundw
          case rel => exact ⟨k + 1, ma, mb + 1, ms, ca, c9, cs, Aa, A9, As, by omega, by omega, by omega, by omega, rfl, rfl, rfl, by go_num, Lib.hid ⟨_, _, _, gt9.out, gacc.out.1, gbac.out, gacc.out.2⟩⟩
          case measure => simp [intOf]; omega
      · have gA := Lib.hid hA
        have hsa := hset Aa ma ca a x y wr hta (by omega)
        rw [hA.2.2.1, hA.2.2.2] at hsa
        unfold RowPost at hsa
        have gacc : Hid (Acc l (k + 1) a ∧ Som a s) := Lib.hid ⟨acc_skip hAc gkl.out (by rw [gxy.out]; exact (.inr hA.2.1)), hSm⟩
        clear hA
        go_wp2_with fail
        refine hsa.mono ?_
        rintro en x1 ⟨A1, q1, rfl, ho1, hb1⟩
        have sx1 := hb1.size
        have gt1 := Lib.hid (gt.out.below hb1)
        obtain ⟨d0, d1⟩ := gd.out x1 hb1
        clear hsa ho1 hta e0 e1 c0 c1
        go_wp2_with fail
        have htb := Tms.of_own gt1.out.2.1.2 gt1.out.2.1.1
        have hsb := hset Ab mb cb b x2 y2 x1 htb (by omega)
        clear htb
        rcases set_cases (t := (x2, y2)) hbc (by rw [hlb]; omega) with hQ | hQ | hQ
        · rw [hQ.2.1, hQ.2.2] at hsb
          unfold RowPost at hsb
          have gbac : Hid (Acc l.reverse (k + 1) b) := Lib.hid (acc_skip hBc gkr.out (by rw [gxr.out]; exact (.inl hQ.1)))
          clear hQ
          refine hsb.mono ?_
          rintro en x9 ⟨A9, c9, rfl, ho9b, hb9⟩
          have gt9 := Lib.hid (gt1.out.below hb9)
          clear hsb ho9b
          go_wp2
          go_roundw
          case rel => exact ⟨k + 1, ma, mb, ms, ca, cb, cs, Aa, Ab, As, by omega, by omega, by omega, by omega, rfl, rfl, rfl, by go_num, Lib.hid ⟨_, _, _, gt9.out, gacc.out.1, gbac.out, gacc.out.2⟩⟩
          case measure => simp [intOf]; omega
        · rw [hQ.2.2.1, hQ.2.2.2] at hsb
          unfold RowPost at hsb
          have gbac : Hid (Acc l.reverse (k + 1) b) := Lib.hid (acc_skip hBc gkr.out (by rw [gxr.out]; exact (.inr hQ.2.1)))
          clear hQ
          refine hsb.mono ?_
          rintro en x9 ⟨A9, c9, rfl, ho9b, hb9⟩
          have gt9 := Lib.hid (gt1.out.below hb9)
          clear hsb ho9b
          go_wp2
          go_roundw
          case rel => exact ⟨k + 1, ma, mb, ms, ca, cb, cs, Aa, Ab, As, by omega, by omega, by omega, by omega, rfl, rfl, rfl, by go_num, Lib.hid ⟨_, _, _, gt9.out, gacc.out.1, gbac.out, gacc.out.2⟩⟩
          case measure => simp [intOf]; omega
        · rw [hQ.2.2.1, hQ.2.2.2] at hsb
          unfold RowPost at hsb
          have gbac : Hid (Acc l.reverse (k + 1) (wth b (x2, y2))) := Lib.hid (by rw [← gxr.out]; exact acc_put hBc gkr.out (by rw [gxr.out]; exact hQ.1) (by rw [gxr.out]; exact hQ.2.1))
          clear hQ
          refine hsb.mono ?_
          rintro en x9 ⟨A9, c9, rfl, ho9b, hb9⟩
          have hwb : (wth b (x2, y2)).length = mb + 1 := by rw [wth_len, hlb]
          rw [hwb] at ho9b ⊢
          have gt9 := Lib.hid (gt1.out.newb hb9 ho9b hwb)
          clear hsb ho9b
          go_wp2
          go_roundw
          case rel => exact ⟨k + 1, ma, mb + 1, ms, ca, c9, cs, Aa, A9, As, by omega, by omega, by omega, by omega, rfl, rfl, rfl, by go_num, Lib.hid ⟨_, _, _, gt9.out, gacc.out.1, gbac.out, gacc.out.2⟩⟩
          case measure => simp [intOf]; omega
      · have gA := Lib.hid hA
        have hsa := hset Aa ma ca a x y wr hta (by omega)
        rw [hA.2.2.1, hA.2.2.2] at hsa
        unfold RowPost at hsa
        have gacc : Hid (Acc l (k + 1) (wth a (x, y)) ∧ Som (wth a (x, y)) (s ++ [(x, y)])) := Lib.hid ⟨by rw [← gxy.out]; exact acc_put hAc gkl.out (by rw [gxy.out]; exact hA.1) (by rw [gxy.out]; exact hA.2.1), som_put hSm⟩
        clear hA
        go_wp2_with fail
        refine hsa.mono ?_
        rintro en x1 ⟨A1, q1, rfl, ho1, hb1⟩
        have sx1 := hb1.size
        have hwl : (wth a (x, y)).length = ma + 1 := by rw [wth_len, hla]
        rw [hwl] at ho1 ⊢
        have gt1 := Lib.hid (gt.out.newa hb1 ho1 hwl)
        clear c0 c1
        obtain ⟨c0, c1⟩ := gc.out x1 hb1
        obtain ⟨d0, d1⟩ := gd.out x1 hb1
        have ho9 := gt1.out.2.2.1.2
        have sw1 := gt1.out.2.2.2.2.2.2
        clear hsa ho1 hta e0 e1
        go_wp2_with (at_builtin; refine wpList_append_any _ rfl (.tmp 44) (.tmp 49) 22 rfl w.heap.size 35 i0 _ 2 16 Try.underlying22 hi0 hz0 hz1 hz2 rfl (by omega) (.slice As ms cs) ms (T2 s) rfl (own_below ho9 ((Below.refl x1.heap.size x1).alloc (Nat.le_refl _) _)) (x1.heap.size + 1) _ 1 1 [.int .i64 x, .int .i64 y] rfl (reads_one x1 [.int .i64 x, .int .i64 y] 35 2 rfl) (two_one (x, y)) (by unfold maxLen; omega) (by omega) (by simp; omega) ?_; intro v4 w4 ho4 hg4 hor4; have gt2 := Lib.hid (gt1.out.push (t := (x, y)) ho4 hg4 hor4); obtain ⟨A4, c4, rfl, _, _⟩ := own_slice ho4; have hb4 : Below x1.heap.size x1 w4 ∨ True := .inr trivial; obtain ⟨f0, f1⟩ := gd2.out w4 gt2.out.2.2.2.2.2.1)
        have htb := Tms.of_own gt2.out.2.1.2 gt2.out.2.1.1
        have hsb := hset Ab mb cb b x2 y2 w4 htb (by omega)
        clear htb
        rcases set_cases (t := (x2, y2)) hbc (by rw [hlb]; omega) with hQ | hQ | hQ
        · rw [hQ.2.1, hQ.2.2] at hsb
          unfold RowPost at hsb
          have gbac : Hid (Acc l.reverse (k + 1) b) := Lib.hid (acc_skip hBc gkr.out (by rw [gxr.out]; exact (.inl hQ.1)))
          clear hQ
          refine hsb.mono ?_
          rintro en x9 ⟨A9, c9, rfl, ho9b, hb9⟩
          have gt9 := Lib.hid (gt2.out.below hb9)
          clear hsb ho9b
          go_wp2
          go_roundw
          case rel => exact ⟨k + 1, (ma + 1), mb, (ms + 1), q1, cb, c4, A1, Ab, A4, by omega, by omega, by omega, by omega, rfl, rfl, rfl, by go_num, Lib.hid ⟨_, _, _, gt9.out, gacc.out.1, gbac.out, gacc.out.2⟩⟩
          case measure => simp [intOf]; omega
        · rw [hQ.2.2.1, hQ.2.2.2] at hsb
          unfold RowPost at hsb
          have gbac : Hid (Acc l.reverse (k + 1) b) := Lib.hid (acc_skip hBc gkr.out (by rw [gxr.out]; exact (.inr hQ.2.1)))
          clear hQ
          refine hsb.mono ?_
          rintro en x9 ⟨A9, c9, rfl, ho9b, hb9⟩
          have gt9 := Lib.hid (gt2.out.below hb9)
          clear hsb ho9b
          go_wp2
          go_roundw
          case rel => exact ⟨k + 1, (ma + 1), mb, (ms + 1), q1, cb, c4, A1, Ab, A4, by omega, by omega, by omega, by omega, rfl, rfl, rfl, by go_num, Lib.hid ⟨_, _, _, gt9.out, gacc.out.1, gbac.out, gacc.out.2⟩⟩
          case measure => simp [intOf]; omega
        · rw [hQ.2.2.1, hQ.2.2.2] at hsb
          unfold RowPost at hsb
          have gbac : Hid (Acc l.reverse (k + 1) (wth b (x2, y2))) := Lib.hid (by rw [← gxr.out]; exact acc_put hBc gkr.out (by rw [gxr.out]; exact hQ.1) (by rw [gxr.out]; exact hQ.2.1))
          clear hQ
          refine hsb.mono ?_
          rintro en x9 ⟨A9, c9, rfl, ho9b, hb9⟩
          have hwb : (wth b (x2, y2)).length = mb + 1 := by rw [wth_len, hlb]
          rw [hwb] at ho9b ⊢
          have gt9 := Lib.hid (gt2.out.newb hb9 ho9b hwb)
          clear hsb ho9b
          go_wp2
          go_roundw
          case rel => exact ⟨k + 1, (ma + 1), mb + 1, (ms + 1), q1, c9, c4, A1, A9, A4, by omega, by omega, by omega, by omega, rfl, rfl, rfl, by go_num, Lib.hid ⟨_, _, _, gt9.out, gacc.out.1, gbac.out, gacc.out.2⟩⟩
          case measure => simp [intOf]; omega
    · obtain rfl : k = n := by omega
      have hab := acc_end gl.out hAc hBc
      subst hab
      obtain ⟨os1, os2⟩ := som_order hSm hAc (by omega)
      have hsl : s.length = ms := hT.2.2.1.1
      obtain rfl : ms = ma := by rw [← hsl, hSm.2, hla]
      have hord := order_any As ms cs s (by unfold maxLen; omega) wr (Tms.of_own hT.2.2.1.2 hsl)
      unfold OrdPost at hord
      rw [os1, os2, hla] at hord
      have gmin : Hid (∀ q, q < ms → ahd (tz s q) (tz a 0) = false) := Lib.hid (fun q hq => som_min hSm hAc (by rw [hsl]; exact hq))
      obtain ⟨E, hE⟩ : ∃ E, nxE a = E := ⟨_, rfl⟩
      obtain ⟨P, hP⟩ : ∃ P, decide (0 < ms) = P := ⟨_, rfl⟩
      have hP2 : decide ((0 : Int) < ms) = P := by rw [← hP]; by_cases h0 : 0 < ms <;> simp [h0] <;> omega
      have hEP : (E == 0) = P := by
        rw [← hE, ← hP]
        rcases Nat.eq_zero_or_pos ms with h0 | h0
        · rw [(nx_none hac (by rw [hla]; exact h0)).1, h0]; rfl
        · rw [(nx_some hac (by rw [hla]; exact h0)).1]; exact (decide_eq_true h0).symm
      have gN : Hid (0 < ms → nxT a = tz a 0) := Lib.hid (fun h0 => (nx_some hac (by rw [hla]; exact h0)).2)
      have hla' := Lib.hid hla
      have gac := Lib.hid hac
      clear hta hac hbc hAc hBc hSm os1 os2 hlb hla hT gI hat hP 
      go_wp2_with fail
      refine hord.mono ?_
      rintro en x1 ⟨Ao, co, rfl, hoo, hb1⟩
      have gt1 := Lib.hid (gt.out.below hb1)
      have sx1 := hb1.size
      have goo := Lib.hid hoo
      have s1 := rsame_any Aa Ab ms mb ca cb a a (by unfold maxLen; omega) x1 (Tms.of_own gt1.out.1.2 gt1.out.1.1) (Tms.of_own gt1.out.2.1.2 gt1.out.2.1.1) true (decide_eq_true rfl)
      clear hord hoo hb1
      go_wp2_with fail
      refine s1.mono ?_
      rintro en x2 ⟨rfl, hb2⟩
      have gt2 := Lib.hid (gt1.out.below hb2)
      have goo2 := Lib.hid (own_below goo.out hb2)
      have s2 := rsame_any Aa Ao ms ms ca co a a (by unfold maxLen; omega) x2 (Tms.of_own gt2.out.1.2 gt2.out.1.1) (Tms.of_own goo2.out hla'.out) true (decide_eq_true rfl)
      clear s1 hb2
      go_wp2_with fail
      refine s2.mono ?_
      rintro en x3 ⟨rfl, hb3⟩
      have gt3 := Lib.hid (gt2.out.below hb3)
      have s3 := check_any Aa ms ca a x3 (Tms.of_own gt3.out.1.2 gt3.out.1.1) (by unfold maxLen; omega) 0 gac.out
      clear s2 hb3
      go_wp2_with fail
      refine s3.mono ?_
      rintro en x4 ⟨rfl, hb4⟩
      have gt4 := Lib.hid (gt3.out.below hb4)
      have s4 := next_of Aa ms ca a (by omega) x4 (Tms.of_own gt4.out.1.2 gt4.out.1.1)
      rw [hE] at s4
      obtain ⟨u, v, huv⟩ : ∃ u v, nxT a = (u, v) := ⟨_, _, rfl⟩
      rw [huv] at s4
      have guv := Lib.hid huv
      clear s3 hb4 hE huv
      go_wp2_with fail
      refine s4.mono ?_
      rintro en x5 ⟨rfl, hb5⟩
      have gt5 := Lib.hid (gt4.out.below hb5)
      clear s4 hb5
      obtain ⟨V, hV⟩ : ∃ V, V = x5.alloc (.cells #[.int .i64 u, .int .i64 v] 35) := ⟨_, rfl⟩
      have hbV : Below x5.heap.size x5 V := by rw [hV]; exact (Below.refl _ _).alloc (Nat.le_refl _) _
      have kb : Hid (Blk V x5.heap.size 35 #[.int .i64 u, .int .i64 v]) := Lib.hid (by rw [hV]; exact Blk.new x5 _ _)
      have gt6 := Lib.hid (gt5.out.below hbV)
      have gts : Hid (Tms V V.heap.size As ms s) := Lib.hid (Tms.of_own gt6.out.2.2.1.2 gt6.out.2.2.1.1)
      have gBV : Hid (Below w.heap.size w V) := Lib.hid gt6.out.2.2.2.2.2.1
      have gsV : Hid (w.heap.size ≤ V.heap.size) := Lib.hid gt6.out.2.2.2.2.2.2
      have hBV := Below.refl V.heap.size V
      clear hbV gt1 gt2 gt3 gt4 gt5 gt6 goo goo2 gt
      go_wp2
      rw [← hV]
      clear hV
      go_loopw [16] (fun t wr => ∃ (q : Nat), q ≤ ms ∧ t = .int .i64 (q : Int) ∧ Below V.heap.size V wr) (fun t _ => ms - (intOf t).toNat)
      case atStart => exact ⟨0, Nat.zero_le _, rfl, hBV⟩
      case round =>
        clear hBV
        obtain ⟨q, hq, rfl, hB⟩ := hrel
        by_cases hq2 : q < ms
        · obtain ⟨adS, rfl, _, hc⟩ := gts.out.at_ hq2
          obtain ⟨x, y, hxy⟩ : ∃ x y, tz s q = (x, y) := ⟨_, _, rfl⟩
          rw [hxy] at hc
          have hah := gmin.out q hq2
          rw [hxy, ← gN.out (by omega), guv.out, ahd_not] at hah
          simp only at hah
          have i1 : (0 : Int) ≤ q := by omega
          have i2 : (q : Int) < ms := by omega
          have hBr := Below.refl wr.heap.size wr
          have hVq : ∀ z : Bw wr.heap.size wr, Below V.heap.size V z.w := fun z => hB.trans (z.h.mono hB.size)
          have f0 : ∀ z : Bw wr.heap.size wr, z.w.cell? (adS.add (q * 2)) = some (.int .i64 x) := fun z => (hc z.w (hVq z)).1
          have f1 : ∀ z : Bw wr.heap.size wr, z.w.cell? ⟨(adS.add (q * 2)).block, (adS.add (q * 2)).off + 1, none⟩ = some (.int .i64 y) := fun z => (hc z.w (hVq z)).2
          have f2 : ∀ z : Bw wr.heap.size wr, z.w.cell? ⟨x5.heap.size, 0, none⟩ = some (.int .i64 u) := fun z => by rw [(kb.out.below (hVq z) kb.out.lt).cell]; rfl
          have f3 : ∀ z : Bw wr.heap.size wr, z.w.cell? ⟨x5.heap.size, 1, none⟩ = some (.int .i64 v) := fun z => by rw [(kb.out.below (hVq z) kb.out.lt).cell]; rfl
          have gV := Lib.hid hVq
          have l1 : decide (x < u) = false := decide_eq_false (by omega)
          clear hc hxy hVq hB
          by_cases e1 : x = u
          · have l2 : (x == u) = true := beq_iff_eq.2 e1
            have l3 : decide (y < v) = false := decide_eq_false (by omega)
            clear hah e1
            go_wp2_with fail
            refine wp_region_wq wr.heap.size wr hBr (by kernel_rfl) (by kernel_rfl) ?_
            repeat (first | (refine WQ.yes (by rfl) (fun K hK => ?_); go_simp; first | (refine hK _ ?_; clear hK K) | (apply Exists.intro; refine ⟨fun _ => ?_, hK _ ?_⟩; (fail); clear hK K)) | (refine WQ.no (by rfl) ?_; (try simp only [Act.put, List.setIfInBounds_toArray, List.set_cons_zero, List.set_cons_succ])))
            refine WQ.nil ?_
            intro pq
            go_wp2
            go_roundw
            case rel => exact ⟨q + 1, by omega, by go_num, gV.out pq⟩
            case measure => simp [intOf]; omega
          · have l2 : (x == u) = false := beq_eq_false_iff_ne.2 e1
            clear hah e1
            go_wp2_with fail
            refine wp_region_wq wr.heap.size wr hBr (by kernel_rfl) (by kernel_rfl) ?_
            repeat (first | (refine WQ.yes (by rfl) (fun K hK => ?_); go_simp; first | (refine hK _ ?_; clear hK K) | (apply Exists.intro; refine ⟨fun _ => ?_, hK _ ?_⟩; (fail); clear hK K)) | (refine WQ.no (by rfl) ?_; (try simp only [Act.put, List.setIfInBounds_toArray, List.set_cons_zero, List.set_cons_succ])))
            refine WQ.nil ?_
            intro pq
            go_wp2
            go_roundw
            case rel => exact ⟨q + 1, by omega, by go_num, gV.out pq⟩
            case measure => simp [intOf]; omega
        · obtain rfl : q = ms := by omega
          clear gts gmin hq hq2
          have gF : Hid (Below w0.heap.size w0 wr) := Lib.hid (gB0.out.trans ((gBV.out.trans (hB.mono gsV.out)).mono gB0.out.size))
          clear hB
          cases P with
          | false =>
            have hq0 : q = 0 := by have := of_decide_eq_false hP2; omega
            have hE0 : ¬ E = 0 := beq_eq_false_iff_ne.1 hEP
            subst hq0
            clear hP2
            go_wp2
            go_ret
            exact ⟨rfl, gF.out⟩
          | true =>
            have hE0 : E = 0 := beq_iff_eq.1 hEP
            have hq0 : 0 < q := by have := of_decide_eq_true hP2; omega
            have hq1 : ¬ q = 0 := by omega
            subst hE0
            clear hP2 hEP
            go_wp2
            go_ret
            exact ⟨rfl, gF.out⟩
end Go.Proofs.Ythageikchniahaa
