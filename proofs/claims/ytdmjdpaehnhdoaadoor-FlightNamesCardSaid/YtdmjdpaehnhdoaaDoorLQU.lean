/- Flight: Double | Flight: the reference's without | Flight: the reference's Launched | Flight: the reference's Launch | Flight: each of the answers is one | Flight: the closures of Land and Lose -/
import Derived.IntWalk
import Derived.Test.YtdmjdpaehnhdoaaDoorLE
import Derived.Test.YtdmjdpaehnhdoaaDoorLKM
import Derived.Test.YtdmjdpaehnhdoaaDoorKA
namespace Go.Proofs.YtdmjdpaehnhdoaaDoor
open Go.ChangeShapes Go.WideShapes Go.ChangeAt Go.RowKit
set_option linter.unusedSimpArgs false
set_option linter.unusedVariables false
/-- One more copy of a load, in a row of one's own. -/
theorem accE_copies {w : World} {base g n c k : Nat} {l : List En} {x : En} (h : AccE w base (.slice (some ⟨g, 0, none⟩) n c) n l) (hk : l[k]? = some x) (q : Int) : AccE (w.setCell ⟨g, k * 15 + 2, none⟩ (.int .i64 q)) base (.slice (some ⟨g, 0, none⟩) n c) n (l.set k { x with cp := q }) := by
  obtain ⟨os, e, ho, ht⟩ := h
  have hol : os.length = l.length := by rw [← e, List.length_map]
  have hkl : k < l.length := (List.getElem?_eq_some_iff.1 hk).1
  obtain ⟨o, hok⟩ : ∃ o, os[k]? = some o := ⟨_, List.getElem?_eq_getElem (by omega)⟩
  have hox : o.x = x := by
    rw [← e, List.getElem?_map, hok] at hk
    injection hk
  have hfl := flat15_len os
  have hn := ho.1
  have hlen : os.length = n := by omega
  obtain ⟨g', cap, cur, hv, hbg, hh, hnc, hcm, hcs, htk⟩ : ∃ g' cap cur, (Value.slice (some ⟨g, 0, none⟩) n c) = .slice (some ⟨g', 0, none⟩) n cap ∧ base ≤ g' ∧ Blk w g' 48 cur ∧ n ≤ cap ∧ cap ≤ maxLen ∧ cur.size = cap * 15 ∧ cur.toList.take (n * 15) = os.flatMap row15 := by
    rcases ho.2 with ⟨h0, h⟩ | ⟨g', cap, cur, h1, h2, h3, h4, h5, h6, h7⟩
    · cases h0
    · exact ⟨g', cap, cur, h1, h2, h3, h4, h5, h6, h7⟩
  injection hv with hA _ hcc
  injection hA with hA
  injection hA with hA
  subst hA hcc
  have hs := row_step (n := n) (j := 2) (q := k * 15 + 2) (o' := { o with x := { x with cp := q } }) (v := .int .i64 q) ⟨hh, htk, hok⟩ (by subst hox; rfl) (by omega) rfl
  refine ⟨os.set k { o with x := { x with cp := q } }, by rw [List.map_set, e], ⟨by rw [flat15_len, List.length_set]; omega, .inr ⟨g, c, _, rfl, hbg, hs.1, hnc, hcm, by simpa using hcs, hs.2.1⟩⟩, fun o2 ho2 => ?_⟩
  have hin : ∃ o3 ∈ os, ownE w base o2 := by
    rcases List.mem_or_eq_of_mem_set ho2 with h3 | h3
    · exact ⟨o2, h3, ht o2 h3⟩
    · subst h3
      refine ⟨o, List.mem_of_getElem? hok, ?_⟩
      have := ht o (List.mem_of_getElem? hok)
      subst hox
      exact this
  obtain ⟨_, _, hown⟩ := hin
  refine hown.map (fun {X n xs} h => ⟨h.1, fun hp => ?_⟩)
  obtain ⟨g', cur', hA, hg', hb', ht'⟩ := h.2 hp
  exact ⟨g', cur', hA, hg', Blk.far (p := ⟨g, k * 15 + 2, none⟩) hb' (hb'.ne_ hh (by decide)) _, ht'⟩
theorem accE_head {w : World} {base n c : Nat} {A : Option Addr} {l : List En} (h : AccE w base (.slice A n c) n l) (h0 : 0 < n) : ∃ g cur, A = some ⟨g, 0, none⟩ ∧ base ≤ g ∧ Blk w g 48 cur ∧ ∀ k x, l[k]? = some x → w.cell? ⟨g, k * 15 + 2, none⟩ = some (.int .i64 x.cp) := by
  obtain ⟨os, e, ho, ht⟩ := h
  have hfl := flat15_len os
  have hn := ho.1
  rcases ho.2 with ⟨h1, h2⟩ | ⟨g, cap, cur, hv, hbg, hh, hnc, hcm, hcs, htk⟩
  · injection h1 with _ h1 _
    omega
  · injection hv with hA _ _
    have hh : Blk w g 48 cur := hh
    refine ⟨g, cur, hA, hbg, hh, fun k x hk => ?_⟩
    rw [← e, List.getElem?_map] at hk
    obtain ⟨o, hok, rfl⟩ := Option.map_eq_some_iff.1 hk
    have h5 := flat15_at os k 2 o (.int .i64 o.x.cp) hok rfl (by omega)
    rw [← htk, List.getElem?_take] at h5
    rw [hh.cell]
    split at h5
    · simpa using h5
    · cases h5
/-- A list that is answered, in new memory. -/
def OutE (w : World) (v : Value) (l : List En) (w' : World) : Prop := ∃ A n c, v = .slice A n c ∧ TwE w n l A c w'
theorem outE_nil {w w' : World} (hB : Below w.heap.size w w') : OutE w (.slice none 0 0) [] w' := ⟨none, 0, 0, rfl, accE_done (accE_nil _ _) hB⟩
theorem TwE.out {w w1 w' : World} {n c : Nat} {A : Option Addr} {l : List En} (h : TwE w1 n l A c w') (hB : Below w.heap.size w w1) : OutE w (.slice A n c) l w' := ⟨A, n, c, rfl, accE_done (h.2.2.2.2.base_le hB.size) (hB.trans (h.2.2.2.1.mono hB.size))⟩
/-- What Double answers. -/
def DblF (l : List En) (N : Int) (l' : List En) (E : Int) : Prop := (ChkF l E ∧ E ≠ 0 ∧ l' = []) ∨ (ChkF l 0 ∧ ¬ (0 ≤ N ∧ N ≤ 1048575) ∧ E = 2 ∧ l' = []) ∨ (ChkF l 0 ∧ (0 ≤ N ∧ N ≤ 1048575) ∧
  ((∃ (k : Nat) (x : En), l[k]? = some x ∧ x.nu = N ∧ ((x.cp = 16 ∧ l' = [] ∧ E = 9) ∨ (x.cp ≠ 16 ∧ l' = l.set k { x with cp := x.cp + 1 } ∧ E = 0))) ∨ ((∀ (j : Nat) (x : En), l[j]? = some x → x.nu ≠ N) ∧ l' = l ∧ E = 0)))
theorem lastN_lt {l : List En} (h : goodF l) : ∀ (k j : Nat) (x y : En), j < k → l[j]? = some x → l[k]? = some y → x.nu < y.nu
  | 0, j, x, y, hj, _, _ => by omega
  | k + 1, j, x, y, hj, hx, hy => by
    have h1 := (h (k + 1) y hy).1
    have hk : k < l.length := by have := (List.getElem?_eq_some_iff.1 hy).1; omega
    have hz : l[k]? = some l[k] := List.getElem?_eq_getElem hk
    simp only [lastN, hz] at h1
    rcases Nat.lt_or_ge j k with h2 | h2
    · have := lastN_lt h k j x _ h2 hx hz
      omega
    · obtain rfl : j = k := by omega
      rw [hz] at hx
      injection hx with hx
      subst hx
      exact h1
theorem at_none {l : List En} {N : Int} {k : Nat} (h : goodF l) (hk : AtF l N k) (hi : isAt l N k = false) : ∀ (j : Nat) (x : En), l[j]? = some x → x.nu ≠ N := by
  intro j x hx
  rcases Nat.lt_trichotomy j k with h1 | rfl | h1
  · have := hk.2.1 j x h1 hx
    omega
  · simp only [isAt, hx] at hi
    exact of_decide_eq_false hi
  · have hkl : k < l.length := by have := (List.getElem?_eq_some_iff.1 hx).1; omega
    have hz : l[k]? = some l[k] := List.getElem?_eq_getElem hkl
    have h2 := lastN_lt h j k _ x h1 hz hx
    have h3 := hk.2.2 _ hz
    omega
theorem at_some {l : List En} {N : Int} {k : Nat} (hi : isAt l N k = true) : ∃ x, l[k]? = some x ∧ x.nu = N := by
  unfold isAt at hi
  split at hi
  · exact ⟨_, by assumption, of_decide_eq_true hi⟩
  · cases hi
theorem ChkF.good {l : List En} (h : ChkF l 0) : goodF l := by
  rcases h.has with ⟨h, _⟩ | ⟨_, _, h⟩ | ⟨h, _⟩
  · cases h
  · exact h
  · cases h
set_option maxRecDepth 100000 in
set_option maxHeartbeats 16000000 in
theorem double_any (A : Option Addr) (n c : Nat) (l : List En) (hm : n ≤ 10000) (hs1 : ∀ x ∈ l, smM x.give) (w : World) (h : Ens w w.heap.size A n l) (N : Int) : Calls Tryd.prog 46 #[.slice A n c, .int .i64 N] w fun en w' => ∃ l' v E, en = .returned (.tuple #[v, .int .i64 E]) ∧ DblF l N l' E ∧ OutE w v l' w' := by
  have hf := found_any A n c l (by unfold maxLen; omega) w h N
  have gln := Lib.hid (ens_len h)
  have gh := Lib.hid h
  have gs := Lib.hid hs1
  clear h hs1
  go_enter Tryd.func46, Tryd.ntmps46
  go_wp2_with fail
  refine hf.mono ?_
  rintro en w1 ⟨a, i, E, rfl, hF, hb1⟩
  clear hf
  rcases hF with ⟨hE, hne, rfl, rfl⟩ | ⟨hE, hne, rfl, rfl, rfl⟩ | ⟨hE, hne, ⟨k, rfl, hk, rfl⟩, rfl⟩
  · rcases hE.has with ⟨rfl, _⟩ | ⟨rfl, _, _⟩ | ⟨rfl, _, _⟩
    · have gd : Hid (DblF l N [] 4) := Lib.hid (.inl ⟨hE, hne, rfl⟩)
      clear hE hne
      go_wp2
      go_ret2
      exact ⟨_, _, _, rfl, gd.out, outE_nil hb1⟩
    · exact absurd rfl hne
    · have gd : Hid (DblF l N [] 8) := Lib.hid (.inl ⟨hE, hne, rfl⟩)
      clear hE hne
      go_wp2
      go_ret2
      exact ⟨_, _, _, rfl, gd.out, outE_nil hb1⟩
  · have gd : Hid (DblF l N [] 2) := Lib.hid (.inr (.inl ⟨hE, hne, rfl, rfl⟩))
    clear hE hne
    go_wp2
    go_ret2
    exact ⟨_, _, _, rfl, gd.out, outE_nil hb1⟩
  · have h1 : Ens w1 w1.heap.size A n l := Recs.more (Recs.below gh.out hb1) hb1.size
    have ht := etwin_any A n c l hm gs.out w1 h1
    have gE := Lib.hid hE
    have gne := Lib.hid hne
    have gk := Lib.hid hk
    obtain ⟨Q, hQ⟩ : ∃ Q, isAt l N k = Q := ⟨_, rfl⟩
    rw [hQ]
    have gQ := Lib.hid hQ
    clear hE hne hk hQ
    cases Q with
    | false =>
      have gd : Hid (DblF l N l 0) := Lib.hid (.inr (.inr ⟨gE.out, gne.out, .inr ⟨at_none gE.out.good gk.out gQ.out, rfl, rfl⟩⟩))
      clear h1
      go_wp2_with (go_at_call 14; refine ht.mono ?_; rintro en w2 ⟨Ao, co, rfl, h2⟩; have g2 := Lib.hid h2; clear h2)
      go_ret2
      exact ⟨_, _, _, rfl, gd.out, g2.out.out hb1⟩
    | true =>
      obtain ⟨x, hx, hxn⟩ := at_some gQ.out
      have hlt : k < n := by rw [← gln.out]; exact (List.getElem?_eq_some_iff.1 hx).1
      obtain ⟨ad, nu, ep, cp, ag0, aX0, an0, ac0, ae0, ag1, aX1, an1, ac1, ae1, ag2, aX2, an2, ac2, ae2, ag3, aX3, an3, ac3, ae3, m, rfl, _, hl1, hx1, hrel1⟩ := ens_rel h1 hlt
      obtain ⟨a0, a1, a2, a3, a4, a5, a6, a7, a8, a9, a10, a11, a12, a13, a14⟩ := (hrel1 w1 (Below.refl _ _)).2
      rw [hx] at hl1
      injection hl1 with hl1
      subst hl1
      have hcp := gE.out.good k _ hx
      have c1 : 1 ≤ cp := hcp.2.2.2.2.1
      have c2 : cp ≤ 16 := hcp.2.2.2.2.2.1
      have gx := Lib.hid hx
      have gxn := Lib.hid hxn
      have i1 : (0 : Int) ≤ k := by omega
      have i2 : (k : Int) < n := by omega
      clear hrel1 hx1 h1 hcp hx hxn
      by_cases hc : cp = 16
      · subst hc
        have gd : Hid (DblF l N [] 9) := Lib.hid (.inr (.inr ⟨gE.out, gne.out, .inl ⟨k, _, gx.out, gxn.out, .inl ⟨rfl, rfl, rfl⟩⟩⟩))
        clear c1 c2
        go_wp2
        go_ret2
        exact ⟨_, _, _, rfl, gd.out, outE_nil hb1⟩
      · have gd : Hid (DblF l N (l.set k { (⟨nu, ep, cp, m⟩ : En) with cp := cp + 1 }) 0) := Lib.hid (.inr (.inr ⟨gE.out, gne.out, .inl ⟨k, _, gx.out, gxn.out, .inr ⟨hc, rfl, rfl⟩⟩⟩))
        have f1 : (cp == 16) = false := by simpa using hc
        have f2 : IntKind.i64.wrap (cp + 1) = cp + 1 := by simp [IntKind.wrap, IntKind.bits, IntKind.signed]; omega
        clear hc
        go_wp2_with (go_at_call 14; refine ht.mono ?_; rintro en w2 ⟨Ao, co, rfl, h2⟩; have g2 := Lib.hid h2; (obtain ⟨g, cur, rfl, hbg, hgl, hcl⟩ := accE_head h2.2.2.2.2 (by omega)); have q0 := hcl k _ gx.out; have qf := hgl.frozen (k * 15 + 2); have hp : (⟨g, 0, none⟩ : Addr).add (k * 15) = ⟨g, k * 15, none⟩ := (by unfold Addr.add; split <;> simp_all); simp only at q0; clear h2 hcl)
        go_ret2
        refine ⟨_, _, _, rfl, gd.out, some ⟨g, 0, none⟩, n, co, rfl, accE_done ((accE_copies g2.out.2.2.2.2 gx.out (cp + 1)).base_le hb1.size) ?_⟩
        exact Below.setCell (hb1.trans (g2.out.2.2.2.1.mono hb1.size)) (Nat.le_trans hb1.size hbg) _
end Go.Proofs.YtdmjdpaehnhdoaaDoor
namespace Go.Proofs.YtdmjdpaehnhdoaaDoor
open Go.ChangeShapes Go.WideShapes Go.ChangeAt Go.RowKit
set_option linter.unusedSimpArgs false
set_option linter.unusedVariables false
theorem tk_sm {l : List En} {k : Nat} (h : ∀ x ∈ l, smM x.give) : ∀ x ∈ l.take k ++ l.drop (k + 1), smM x.give := by
  intro x hx
  rcases List.mem_append.1 hx with h1 | h1
  · exact h x (List.mem_of_mem_take h1)
  · exact h x (List.mem_of_mem_drop h1)
theorem rds_below {w w' : World} {B B' : Nat} {os : List EO} (ht : ∀ o ∈ os, rdE w B o) (hb : Below B w w') (hB : B ≤ B') : ∀ o ∈ os, rdE w' B' o := fun o ho => (ht o ho).below hb hB
theorem rds_append {w : World} {B : Nat} {os os2 : List EO} (ht : ∀ o ∈ os, rdE w B o) (ht2 : ∀ o ∈ os2, rdE w B o) : ∀ o ∈ os ++ os2, rdE w B o := fun o ho => by exact (List.mem_append.1 ho).elim (ht o) (ht2 o)
end Go.Proofs.YtdmjdpaehnhdoaaDoor
namespace Go.Proofs.YtdmjdpaehnhdoaaDoor
open Go.ChangeShapes Go.WideShapes Go.ChangeAt Go.RowKit
set_option linter.unusedSimpArgs false
set_option linter.unusedVariables false
theorem row15_one (o : EO) : ∀ u ∈ row15 o, u.oneCell' = true := fun u hu => flat15_one [o] u (by simpa using hu)
/-- A load among the others, ahead of the first one of a greater Number. -/
def insL (x : En) : List En → List En
  | [] => [x]
  | y :: r => if x.nu < y.nu then x :: y :: r else y :: insL x r
theorem insL_app {x : En} : ∀ (a b : List En), (∃ y ∈ a, x.nu < y.nu) → insL x (a ++ b) = insL x a ++ b
  | [], b, h => by obtain ⟨y, hy, _⟩ := h; cases hy
  | z :: a, b, h => by
    show (if x.nu < z.nu then x :: z :: (a ++ b) else z :: insL x (a ++ b)) = (if x.nu < z.nu then x :: z :: a else z :: insL x a) ++ b
    by_cases hz : x.nu < z.nu
    · rw [if_pos hz, if_pos hz]; rfl
    · rw [if_neg hz, if_neg hz, insL_app a b]
      · rfl
      · obtain ⟨y, hy, h⟩ := h
        rcases List.mem_cons.1 hy with rfl | hy
        · exact absurd h hz
        · exact ⟨y, hy, h⟩
theorem insL_none {x : En} : ∀ (a b : List En), (∀ y ∈ a, ¬ x.nu < y.nu) → insL x (a ++ b) = a ++ insL x b
  | [], b, h => rfl
  | z :: a, b, h => by
    show (if x.nu < z.nu then x :: z :: (a ++ b) else z :: insL x (a ++ b)) = z :: (a ++ insL x b)
    rw [if_neg (h z (by simp)), insL_none a b (fun y hy => h y (by simp [hy]))]
theorem insL_sm {x : En} (hx : smM x.give) : ∀ {l : List En}, (∀ y ∈ l, smM y.give) → ∀ y ∈ insL x l, smM y.give
  | [], _, y, hy => by
    have : y = x := by simpa [insL] using hy
    subst this
    exact hx
  | z :: r, h, y, hy => by
    unfold insL at hy
    split at hy
    · rcases List.mem_cons.1 hy with rfl | hy
      · exact hx
      · exact h y hy
    · rcases List.mem_cons.1 hy with rfl | hy
      · exact h _ (by simp)
      · exact insL_sm hx (fun y hy => h y (by simp [hy])) y hy
/-- Under way: D, whether it is laid. -/
def LnI (x : En) (l : List En) (k : Nat) (D : Bool) (os : List EO) : Prop := (D = true → os.map (·.x) = insL x (l.take k) ∧ ∃ y ∈ l.take k, x.nu < y.nu) ∧ (D = false → os.map (·.x) = l.take k ∧ ∀ y ∈ l.take k, ¬ x.nu < y.nu)
theorem LnI.on {x y : En} {l : List En} {k : Nat} {os : List EO} {o : EO} (h : LnI x l k true os) (hy : l[k]? = some y) (ho : o.x = y) : LnI x l (k + 1) true (os ++ [o]) := by
  obtain ⟨h1, z, hz, hzx⟩ := h.1 rfl
  refine ⟨fun _ => ⟨?_, z, ?_, hzx⟩, fun h => by cases h⟩
  · rw [List.map_append, h1, List.take_add_one, hy, Option.toList_some, insL_app _ _ ⟨z, hz, hzx⟩, List.map_cons, ho, List.map_nil]
  · rw [List.take_add_one]
    exact List.mem_append_left _ hz
theorem LnI.lay {x y : En} {l : List En} {k : Nat} {os : List EO} {o ox : EO} (h : LnI x l k false os) (hy : l[k]? = some y) (ho : o.x = y) (hox : ox.x = x) (hlt : x.nu < y.nu) : LnI x l (k + 1) true ((os ++ [ox]) ++ [o]) := by
  obtain ⟨h1, h2⟩ := h.2 rfl
  refine ⟨fun _ => ⟨?_, y, ?_, hlt⟩, fun h => by cases h⟩
  · rw [List.map_append, List.map_append, h1, List.take_add_one, hy, Option.toList_some, insL_none _ _ h2]
    simp [insL, if_pos hlt, ho, hox]
  · rw [List.take_add_one, hy]
    simp
theorem LnI.skip {x y : En} {l : List En} {k : Nat} {os : List EO} {o : EO} (h : LnI x l k false os) (hy : l[k]? = some y) (ho : o.x = y) (hlt : ¬ x.nu < y.nu) : LnI x l (k + 1) false (os ++ [o]) := by
  obtain ⟨h1, h2⟩ := h.2 rfl
  refine ⟨(fun h => by cases h), fun _ => ⟨?_, ?_⟩⟩
  · rw [List.map_append, h1, List.take_add_one, hy, Option.toList_some, List.map_cons, ho, List.map_nil]
  · rw [List.take_add_one, hy]
    intro z hz
    rcases List.mem_append.1 hz with h | h
    · exact h2 z h
    · rw [Option.toList_some, List.mem_singleton] at h
      subst h
      exact hlt
end Go.Proofs.YtdmjdpaehnhdoaaDoor
namespace Go.Proofs.YtdmjdpaehnhdoaaDoor
open Go.ChangeShapes Go.WideShapes Go.ChangeAt Go.RowKit
set_option linter.unusedSimpArgs false
set_option linter.unusedVariables false
/-- What Launch answers. -/
def LchF (l : List En) (N e : Int) (m : Ms) (l' : List En) (E : Int) : Prop := (ChkF l E ∧ E ≠ 0 ∧ l' = []) ∨ (ChkF l 0 ∧ ¬ (0 ≤ N ∧ N ≤ 1048575) ∧ E = 2 ∧ l' = []) ∨ (ChkF l 0 ∧ (0 ≤ N ∧ N ≤ 1048575) ∧
  ((¬ (0 ≤ e ∧ e ≤ 65535) ∧ E = 2 ∧ l' = []) ∨ ((0 ≤ e ∧ e ≤ 65535) ∧
    ((mayM m = false ∧ E = 8 ∧ l' = []) ∨ (mayM m = true ∧
      (((∃ (k : Nat) (x : En), l[k]? = some x ∧ x.nu = N) ∧ E = 12 ∧ l' = []) ∨ ((∀ (j : Nat) (x : En), l[j]? = some x → x.nu ≠ N) ∧
        ((16 ≤ l.length ∧ E = 9 ∧ l' = []) ∨ (l.length < 16 ∧ E = 0 ∧ l' = insL ⟨N, e, 1, m⟩ l)))))))))
end Go.Proofs.YtdmjdpaehnhdoaaDoor
namespace Go.Proofs.YtdmjdpaehnhdoaaDoor
open Go.ChangeShapes Go.WideShapes Go.ChangeAt Go.RowKit
set_option linter.unusedSimpArgs false
set_option linter.unusedVariables false
theorem chk_one {l : List En} {E E' : Int} (h : ChkF l E) (h' : ChkF l E') : E = E' := by
  rcases h.has with ⟨rfl, a⟩ | ⟨rfl, a, b⟩ | ⟨rfl, a, b⟩ <;> rcases h'.has with ⟨rfl, a'⟩ | ⟨rfl, a', b'⟩ | ⟨rfl, a', b'⟩ <;> first | rfl | omega | exact absurd b b' | exact absurd b' b
theorem num_one {l : List En} (h : goodF l) {j k : Nat} {x y : En} (hx : l[j]? = some x) (hy : l[k]? = some y) (e : x.nu = y.nu) : j = k := by
  rcases Nat.lt_trichotomy j k with h1 | h1 | h1
  · have := lastN_lt h k j x y h1 hx hy; omega
  · exact h1
  · have := lastN_lt h j k y x h1 hy hx; omega
theorem dbl_one {l l1 l2 : List En} {N E1 E2 : Int} (h : DblF l N l1 E1) (h' : DblF l N l2 E2) : l1 = l2 ∧ E1 = E2 := by
  rcases h with ⟨a, b, rfl⟩ | ⟨a, b, rfl, rfl⟩ | ⟨a, b, c⟩ <;> rcases h' with ⟨a', b', rfl⟩ | ⟨a', b', rfl, rfl⟩ | ⟨a', b', c'⟩
  · exact ⟨rfl, chk_one a a'⟩
  · exact absurd (chk_one a a') b
  · exact absurd (chk_one a a') b
  · exact absurd (chk_one a' a) b'
  · exact ⟨rfl, rfl⟩
  · exact absurd b' b
  · exact absurd (chk_one a' a) b'
  · exact absurd b b'
  · rcases c with ⟨k, x, hx, hn, c⟩ | ⟨hno, rfl, rfl⟩ <;> rcases c' with ⟨k', x', hx', hn', c'⟩ | ⟨hno', rfl, rfl⟩
    · obtain rfl := num_one a.good hx hx' (by rw [hn, hn'])
      rw [hx] at hx'
      injection hx' with hx'
      subst hx'
      rcases c with ⟨p, rfl, rfl⟩ | ⟨p, rfl, rfl⟩ <;> rcases c' with ⟨p', rfl, rfl⟩ | ⟨p', rfl, rfl⟩
      · exact ⟨rfl, rfl⟩
      · exact absurd p p'
      · exact absurd p' p
      · exact ⟨rfl, rfl⟩
    · exact absurd hn (hno' _ _ hx)
    · exact absurd hn' (hno _ _ hx')
    · exact ⟨rfl, rfl⟩
theorem lch_one {l l1 l2 : List En} {N e E1 E2 : Int} {m : Ms} (h : LchF l N e m l1 E1) (h' : LchF l N e m l2 E2) : l1 = l2 ∧ E1 = E2 := by
  rcases h with ⟨a, b, rfl⟩ | ⟨a, b, rfl, rfl⟩ | ⟨a, b, c⟩ <;> rcases h' with ⟨a', b', rfl⟩ | ⟨a', b', rfl, rfl⟩ | ⟨a', b', c'⟩
  · exact ⟨rfl, chk_one a a'⟩
  · exact absurd (chk_one a a') b
  · exact absurd (chk_one a a') b
  · exact absurd (chk_one a' a) b'
  · exact ⟨rfl, rfl⟩
  · exact absurd b' b
  · exact absurd (chk_one a' a) b'
  · exact absurd b b'
  · rcases c with ⟨c, rfl, rfl⟩ | ⟨c, d⟩ <;> rcases c' with ⟨c', rfl, rfl⟩ | ⟨c', d'⟩
    · exact ⟨rfl, rfl⟩
    · exact absurd c' c
    · exact absurd c c'
    · rcases d with ⟨d, rfl, rfl⟩ | ⟨d, f⟩ <;> rcases d' with ⟨d', rfl, rfl⟩ | ⟨d', f'⟩
      · exact ⟨rfl, rfl⟩
      · rw [d] at d'; cases d'
      · rw [d] at d'; cases d'
      · rcases f with ⟨⟨k, x, hx, hn⟩, rfl, rfl⟩ | ⟨f, g⟩ <;> rcases f' with ⟨⟨k', x', hx', hn'⟩, rfl, rfl⟩ | ⟨f', g'⟩
        · exact ⟨rfl, rfl⟩
        · exact absurd hn (f' _ _ hx)
        · exact absurd hn' (f _ _ hx')
        · rcases g with ⟨g, rfl, rfl⟩ | ⟨g, rfl, rfl⟩ <;> rcases g' with ⟨g', rfl, rfl⟩ | ⟨g', rfl, rfl⟩ <;> first | exact ⟨rfl, rfl⟩ | omega
end Go.Proofs.YtdmjdpaehnhdoaaDoor
namespace Go.Proofs.YtdmjdpaehnhdoaaDoor
open Go.ChangeShapes Go.WideShapes Go.ChangeAt Go.RowKit
set_option linter.unusedSimpArgs false
set_option linter.unusedVariables false
theorem land1 (nu ep cp : Int) (ag0 : Bool) (aX0 : Option Addr) (an0 ac0 : Nat) (ae0 : Int) (ag1 : Bool) (aX1 : Option Addr) (an1 ac1 : Nat) (ae1 : Int) (ag2 : Bool) (aX2 : Option Addr) (an2 ac2 : Nat) (ae2 : Int) (ag3 : Bool) (aX3 : Option Addr) (an3 ac3 : Nat) (ae3 : Int) (w : World) : Calls Tryd.prog 49 #[.agg #[.int .i64 nu, .int .i64 ep, .int .i64 cp, .bool ag0, .slice aX0 an0 ac0, .int .i64 ae0, .bool ag1, .slice aX1 an1 ac1, .int .i64 ae1, .bool ag2, .slice aX2 an2 ac2, .int .i64 ae2, .bool ag3, .slice aX3 an3 ac3, .int .i64 ae3]] w fun en w' => en = .returned (.bool true) ∧ Below w.heap.size w w' := by
  have hB := (Below.refl w.heap.size w).alloc (Nat.le_refl _) (.cells #[.int .i64 nu, .int .i64 ep, .int .i64 cp, .bool ag0, .slice aX0 an0 ac0, .int .i64 ae0, .bool ag1, .slice aX1 an1 ac1, .int .i64 ae1, .bool ag2, .slice aX2 an2 ac2, .int .i64 ae2, .bool ag3, .slice aX3 an3 ac3, .int .i64 ae3] 48)
  go_enter Tryd.func49, Tryd.ntmps49
  go_wp2
  go_ret
  exact ⟨rfl, hB⟩
theorem lose1 (nu ep cp : Int) (ag0 : Bool) (aX0 : Option Addr) (an0 ac0 : Nat) (ae0 : Int) (ag1 : Bool) (aX1 : Option Addr) (an1 ac1 : Nat) (ae1 : Int) (ag2 : Bool) (aX2 : Option Addr) (an2 ac2 : Nat) (ae2 : Int) (ag3 : Bool) (aX3 : Option Addr) (an3 ac3 : Nat) (ae3 : Int) (w : World) (Q : Bool) (hQ : (cp == 1) = Q) : Calls Tryd.prog 48 #[.agg #[.int .i64 nu, .int .i64 ep, .int .i64 cp, .bool ag0, .slice aX0 an0 ac0, .int .i64 ae0, .bool ag1, .slice aX1 an1 ac1, .int .i64 ae1, .bool ag2, .slice aX2 an2 ac2, .int .i64 ae2, .bool ag3, .slice aX3 an3 ac3, .int .i64 ae3]] w fun en w' => en = .returned (.bool Q) ∧ Below w.heap.size w w' := by
  have hB := (Below.refl w.heap.size w).alloc (Nat.le_refl _) (.cells #[.int .i64 nu, .int .i64 ep, .int .i64 cp, .bool ag0, .slice aX0 an0 ac0, .int .i64 ae0, .bool ag1, .slice aX1 an1 ac1, .int .i64 ae1, .bool ag2, .slice aX2 an2 ac2, .int .i64 ae2, .bool ag3, .slice aX3 an3 ac3, .int .i64 ae3] 48)
  go_enter Tryd.func48, Tryd.ntmps48
  go_wp2
  go_ret
  exact ⟨rfl, hB⟩
end Go.Proofs.YtdmjdpaehnhdoaaDoor
