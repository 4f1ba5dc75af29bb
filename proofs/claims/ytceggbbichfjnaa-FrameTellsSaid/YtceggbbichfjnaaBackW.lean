/- Frame: the walk of the law FrameBack. -/
import Derived.Test.YtceggbbichfjnaaAliveW
import Derived.Test.YtceggbbichfjnaaBackP
namespace Go.Proofs.Ytceggbbichfjnaa.FrameBack
open Go.ChangeShapes Go.WideShapes Go.ChangeAt Go.RowKit
set_option linter.unusedSimpArgs false
set_option linter.unusedVariables false
theorem str_same (l : List Nat) : ((strOf l).toList == (strOf l).toList) = true := by simp
theorem str_same' (l : List Nat) : ((strOf l).toList != (strOf l).toList) = false := by simp
theorem put_n (kind : Nat) (hk : kind < 256) (A : Option Addr) (n c : Nat) (l : List Nat) (hn : l.length = n) (hl : ∀ b ∈ l, b < 256) (hm : n ≤ 4096) (w : World) (hR : Reads w w.heap.size 1 A n (bytes l)) :
    Calls Try.prog 10 #[.int .u8 (kind : Int), .slice A n c] w fun en w' => ∃ g cap, en = .returned (.tuple #[.slice g (n + 9) cap, .int .i64 0]) ∧ n + 9 ≤ cap ∧ Reads w' w'.heap.size 1 g (n + 9) (bytes (framed kind l)) ∧ Below w.heap.size w w' := by
  subst hn
  refine (put_ok kind hk A c l hl hm w hR).mono ?_
  rintro en w' ⟨v, rfl, ho, hb⟩
  obtain ⟨g, cap, rfl, hc, hR'⟩ := ho.slice
  have e : (framed kind l).length = l.length + 9 := by rw [framed_len]; omega
  rw [e] at hc hR' ⊢
  exact ⟨g, cap, rfl, hc, hR', hb⟩
theorem framed_lt {kind : Nat} {l : List Nat} (hk : kind < 256) (hm : l.length ≤ 4096) (hl : ∀ b ∈ l, b < 256) : ∀ b ∈ framed kind l, b < 256 := by
  intro b hb
  unfold framed at hb
  rcases List.mem_append.mp hb with h | h
  · exact headed_lt hk hm hl b h
  · exact told_lt (crc_lt _) b h
theorem take_framed (kind : Nat) (hk : kind < 256) (l : List Nat) (n : Nat) (hn : l.length = n) (hl : ∀ b ∈ l, b < 256) (hm : n ≤ 4096) (g : Option Addr) (c : Nat) (hc : n + 9 ≤ c) (w : World) (hR : Reads w w.heap.size 1 g (n + 9) (bytes (framed kind l))) :
    Calls Try.prog 11 #[.slice g (n + 9) c] w fun en w' => ∃ A c, en = .returned (.tuple #[.int .u8 (kind : Int), .slice A n c, .int .i64 0]) ∧ n ≤ c ∧ Reads w' w'.heap.size 1 A n (bytes l) ∧ Below w.heap.size w w' := by
  subst hn
  refine (take_any g _ c (framed kind l) (by rw [framed_len]; omega) (by omega) hc (framed_lt hk hm hl) w hR).mono ?_
  rintro en w' ⟨⟨e, _, _, rfl, hno⟩ | ⟨_, A, c', rfl, hc', hR'⟩, hb⟩
  · exact absurd (framed_ok hm) hno
  rw [framed_content] at hc' hR' ⊢
  rw [framed_kind]
  exact ⟨A, c', rfl, hc', hR', hb⟩
set_option maxHeartbeats 4000000 in
theorem out1 (k : Nat) (hk : k < 256) (A1 : Option Addr) (n1 c1 : Nat) (b : List Nat) (hn1 : b.length = n1) (hc1 : n1 ≤ c1) (hl1 : ∀ x ∈ b, x < 256) (A2 : Option Addr) (n2 c2 : Nat) (t : List Nat) (hn2 : t.length = n2) (hc2 : n2 ≤ c2) (hl2 : ∀ x ∈ t, x < 256) (w : World) (hR1 : Reads w w.heap.size 1 A1 n1 (bytes b)) (hR2 : Reads w w.heap.size 1 A2 n2 (bytes t)) (h : 5000 < n1) :
    Calls Try.prog 6 #[.int .u8 (k : Int), .slice A1 n1 c1, .slice A2 n2 c2] w fun en w' => en = .returned (.bool true) ∧ Below w.heap.size w w' := by
  have hd : decide ((5000 : Int) < n1) = true := by simp; omega
  go_enter Try.func6, Try.ntmps6
  go_wp2_with fail
  refine (alive_any _).mono ?_
  rintro en w1 ⟨rfl, hb1⟩
  go_wp2
  go_ret
  exact ⟨rfl, hb1⟩
set_option maxHeartbeats 4000000 in
theorem out2 (k : Nat) (hk : k < 256) (A1 : Option Addr) (n1 c1 : Nat) (b : List Nat) (hn1 : b.length = n1) (hc1 : n1 ≤ c1) (hl1 : ∀ x ∈ b, x < 256) (A2 : Option Addr) (n2 c2 : Nat) (t : List Nat) (hn2 : t.length = n2) (hc2 : n2 ≤ c2) (hl2 : ∀ x ∈ t, x < 256) (w : World) (hR1 : Reads w w.heap.size 1 A1 n1 (bytes b)) (hR2 : Reads w w.heap.size 1 A2 n2 (bytes t)) (h : n1 ≤ 5000) (h2 : 5000 < n2) :
    Calls Try.prog 6 #[.int .u8 (k : Int), .slice A1 n1 c1, .slice A2 n2 c2] w fun en w' => en = .returned (.bool true) ∧ Below w.heap.size w w' := by
  have hd : decide ((5000 : Int) < n1) = false := by simp; omega
  have hd2 : decide ((5000 : Int) < n2) = true := by simp; omega
  go_enter Try.func6, Try.ntmps6
  go_wp2_with fail
  refine (alive_any _).mono ?_
  rintro en w1 ⟨rfl, hb1⟩
  go_wp2
  go_ret
  exact ⟨rfl, hb1⟩
set_option maxHeartbeats 4000000 in
theorem walk00 (k : Nat) (hk : k < 256) (A1 : Option Addr) (n1 c1 : Nat) (b : List Nat) (hn1 : b.length = n1) (hc1 : n1 ≤ c1) (hl1 : ∀ x ∈ b, x < 256) (A2 : Option Addr) (n2 c2 : Nat) (t : List Nat) (hn2 : t.length = n2) (hc2 : n2 ≤ c2) (hl2 : ∀ x ∈ t, x < 256) (w : World) (hR1 : Reads w w.heap.size 1 A1 n1 (bytes b)) (hR2 : Reads w w.heap.size 1 A2 n2 (bytes t)) (h : n1 ≤ 5000) (h2 : n2 ≤ 5000) (h4 : n1 ≤ 4096) (hOk : ¬ OkT t) :
    Calls Try.prog 6 #[.int .u8 (k : Int), .slice A1 n1 c1, .slice A2 n2 c2] w fun en w' => en = .returned (.bool true) ∧ Below w.heap.size w w' := by
  have hd : decide ((5000 : Int) < n1) = false := by simp; omega
  have hd2 : decide ((5000 : Int) < n2) = false := by simp; omega
  go_enter Try.func6, Try.ntmps6
  go_wp2_with fail
  refine (alive_any _).mono ?_
  rintro en w1 ⟨rfl, hb1⟩
  go_wp2_with fail
  refine (put_n k hk A1 n1 c1 b hn1 hl1 h4 _ ((hR1.below hb1).more hb1.size)).mono ?_
  rintro en w2 ⟨ga, ca, rfl, hca, hRa, hb2⟩
  have hB2 := hb1.trans (hb2.mono hb1.size)
  go_wp2_with fail
  refine (take_framed k hk b n1 hn1 hl1 h4 ga ca hca _ hRa).mono ?_
  rintro en w3 ⟨gb, cb, rfl, hcb, hRb, hb3⟩
  have hB3 := hB2.trans (hb3.mono hB2.size)
  have kc1 : (convert 22 9 (.slice gb n1 cb)).run Try.prog w3 = .ok (.string (strOf b)) w3 := conv_str hn1 hl1 hRb
  have kc2 : (convert 22 9 (.slice A1 n1 c1)).run Try.prog w3 = .ok (.string (strOf b)) w3 := conv_str hn1 hl1 (hR1.below hB3)
  have ks := str_same' b
  clear hRa hRb hb2 hb3 hR1
  go_wp2_with fail
  refine (take_any A2 n2 c2 t hn2 (by omega) hc2 hl2 _ ((hR2.below hB3).more hB3.size)).mono ?_
  rintro en w4 ⟨⟨e, he, he', rfl, hno⟩ | ⟨hOk', gc, cc, rfl, hcc, hRc⟩, hb4⟩
  · have hB4 := hB3.trans (hb4.mono hB3.size)
    go_wp2_with fail
    refine (put_n 0 (by omega) none 0 0 [] rfl (by simp) (by omega) _ Reads.none_).mono ?_
    rintro en w5 ⟨gd, cd, rfl, hcd, hRd, hb5⟩
    have hB5 := hB4.trans (hb5.mono hB4.size)
    clear hRd hb4 hb5 hR2
    go_wp2
    go_ret
    exact ⟨rfl, hB5⟩
  · exact absurd hOk' hOk
set_option maxHeartbeats 4000000 in
theorem walk01 (k : Nat) (hk : k < 256) (A1 : Option Addr) (n1 c1 : Nat) (b : List Nat) (hn1 : b.length = n1) (hc1 : n1 ≤ c1) (hl1 : ∀ x ∈ b, x < 256) (A2 : Option Addr) (n2 c2 : Nat) (t : List Nat) (hn2 : t.length = n2) (hc2 : n2 ≤ c2) (hl2 : ∀ x ∈ t, x < 256) (w : World) (hR1 : Reads w w.heap.size 1 A1 n1 (bytes b)) (hR2 : Reads w w.heap.size 1 A2 n2 (bytes t)) (h : n1 ≤ 5000) (h2 : n2 ≤ 5000) (h4 : n1 ≤ 4096) (hOk : OkT t) :
    Calls Try.prog 6 #[.int .u8 (k : Int), .slice A1 n1 c1, .slice A2 n2 c2] w fun en w' => en = .returned (.bool true) ∧ Below w.heap.size w w' := by
  have hd : decide ((5000 : Int) < n1) = false := by simp; omega
  have hd2 : decide ((5000 : Int) < n2) = false := by simp; omega
  go_enter Try.func6, Try.ntmps6
  go_wp2_with fail
  refine (alive_any _).mono ?_
  rintro en w1 ⟨rfl, hb1⟩
  go_wp2_with fail
  refine (put_n k hk A1 n1 c1 b hn1 hl1 h4 _ ((hR1.below hb1).more hb1.size)).mono ?_
  rintro en w2 ⟨ga, ca, rfl, hca, hRa, hb2⟩
  have hB2 := hb1.trans (hb2.mono hb1.size)
  go_wp2_with fail
  refine (take_framed k hk b n1 hn1 hl1 h4 ga ca hca _ hRa).mono ?_
  rintro en w3 ⟨gb, cb, rfl, hcb, hRb, hb3⟩
  have hB3 := hB2.trans (hb3.mono hB2.size)
  have kc1 : (convert 22 9 (.slice gb n1 cb)).run Try.prog w3 = .ok (.string (strOf b)) w3 := conv_str hn1 hl1 hRb
  have kc2 : (convert 22 9 (.slice A1 n1 c1)).run Try.prog w3 = .ok (.string (strOf b)) w3 := conv_str hn1 hl1 (hR1.below hB3)
  have ks := str_same' b
  clear hRa hRb hb2 hb3 hR1
  go_wp2_with fail
  refine (take_any A2 n2 c2 t hn2 (by omega) hc2 hl2 _ ((hR2.below hB3).more hB3.size)).mono ?_
  rintro en w4 ⟨⟨e, he, he', rfl, hno⟩ | ⟨hOk', gc, cc, rfl, hcc, hRc⟩, hb4⟩
  · exact absurd hOk hno
  generalize hcon : content t = con at *
  have hlc : ∀ x ∈ con, x < 256 := by rw [← hcon]; exact fun x hx => hl2 x (List.mem_of_mem_drop (List.mem_of_mem_take hx))
  have hml : con.length ≤ 4096 := by rw [← hcon]; have := hOk.2.2.2.2.2; simp [content]; omega
  have hkk : t.getD 2 0 < 256 := by rw [List.getD_eq_getElem?_getD, List.getElem?_eq_getElem (by have := hOk.1; omega)]; exact hl2 _ (List.getElem_mem _)
  have hbk : framed (t.getD 2 0) con = t := by rw [← hcon]; exact framed_back hOk hl2
  generalize t.getD 2 0 = kk at *
  have hB4 := hB3.trans (hb4.mono hB3.size)
  obtain ⟨m, hm⟩ : ∃ m, con.length = m := ⟨_, rfl⟩
  rw [hm] at hcc hml hRc ⊢
  go_wp2_with fail
  refine (put_n kk hkk gc m cc con hm hlc hml _ (by first | exact hRc | exact hm ▸ hRc)).mono ?_
  rintro en w5 ⟨gd, cd, rfl, hcd, hRd, hb5⟩
  have hB5 := hB4.trans (hb5.mono hB4.size)
  rw [show m + 9 = n2 by rw [← hn2, ← hbk, framed_len]; omega] at *
  rw [hbk] at hRd
  have kd1 : (convert 22 9 (.slice gd n2 cd)).run Try.prog w5 = .ok (.string (strOf t)) w5 := conv_str hn2 hl2 hRd
  have kd2 : (convert 22 9 (.slice A2 n2 c2)).run Try.prog w5 = .ok (.string (strOf t)) w5 := conv_str hn2 hl2 (hR2.below hB5)
  have ks2 := str_same t
  clear hRc hRd hb4 hb5 hR2 hlc hml hbk hcon
  go_wp2
  go_ret
  exact ⟨rfl, hB5⟩
set_option maxHeartbeats 4000000 in
theorem walk10 (k : Nat) (hk : k < 256) (A1 : Option Addr) (n1 c1 : Nat) (b : List Nat) (hn1 : b.length = n1) (hc1 : n1 ≤ c1) (hl1 : ∀ x ∈ b, x < 256) (A2 : Option Addr) (n2 c2 : Nat) (t : List Nat) (hn2 : t.length = n2) (hc2 : n2 ≤ c2) (hl2 : ∀ x ∈ t, x < 256) (w : World) (hR1 : Reads w w.heap.size 1 A1 n1 (bytes b)) (hR2 : Reads w w.heap.size 1 A2 n2 (bytes t)) (h : n1 ≤ 5000) (h2 : n2 ≤ 5000) (h4 : 4096 < n1) (hOk : ¬ OkT t) :
    Calls Try.prog 6 #[.int .u8 (k : Int), .slice A1 n1 c1, .slice A2 n2 c2] w fun en w' => en = .returned (.bool true) ∧ Below w.heap.size w w' := by
  have hd : decide ((5000 : Int) < n1) = false := by simp; omega
  have hd2 : decide ((5000 : Int) < n2) = false := by simp; omega
  go_enter Try.func6, Try.ntmps6
  go_wp2_with fail
  refine (alive_any _).mono ?_
  rintro en w1 ⟨rfl, hb1⟩
  go_wp2_with fail
  refine (put_many k A1 n1 c1 h4 _).mono ?_
  rintro en w2 ⟨rfl, rfl⟩
  go_wp2_with fail
  refine (take_short none 0 0 (by omega) _).mono ?_
  rintro en w3 ⟨rfl, rfl⟩
  have hB3 := hb1
  go_wp2_with fail
  refine (take_any A2 n2 c2 t hn2 (by omega) hc2 hl2 _ ((hR2.below hB3).more hB3.size)).mono ?_
  rintro en w4 ⟨⟨e, he, he', rfl, hno⟩ | ⟨hOk', gc, cc, rfl, hcc, hRc⟩, hb4⟩
  · have hB4 := hB3.trans (hb4.mono hB3.size)
    go_wp2_with fail
    refine (put_n 0 (by omega) none 0 0 [] rfl (by simp) (by omega) _ Reads.none_).mono ?_
    rintro en w5 ⟨gd, cd, rfl, hcd, hRd, hb5⟩
    have hB5 := hB4.trans (hb5.mono hB4.size)
    clear hRd hb4 hb5 hR2
    go_wp2
    go_ret
    exact ⟨rfl, hB5⟩
  · exact absurd hOk' hOk
set_option maxHeartbeats 4000000 in
theorem walk11 (k : Nat) (hk : k < 256) (A1 : Option Addr) (n1 c1 : Nat) (b : List Nat) (hn1 : b.length = n1) (hc1 : n1 ≤ c1) (hl1 : ∀ x ∈ b, x < 256) (A2 : Option Addr) (n2 c2 : Nat) (t : List Nat) (hn2 : t.length = n2) (hc2 : n2 ≤ c2) (hl2 : ∀ x ∈ t, x < 256) (w : World) (hR1 : Reads w w.heap.size 1 A1 n1 (bytes b)) (hR2 : Reads w w.heap.size 1 A2 n2 (bytes t)) (h : n1 ≤ 5000) (h2 : n2 ≤ 5000) (h4 : 4096 < n1) (hOk : OkT t) :
    Calls Try.prog 6 #[.int .u8 (k : Int), .slice A1 n1 c1, .slice A2 n2 c2] w fun en w' => en = .returned (.bool true) ∧ Below w.heap.size w w' := by
  have hd : decide ((5000 : Int) < n1) = false := by simp; omega
  have hd2 : decide ((5000 : Int) < n2) = false := by simp; omega
  go_enter Try.func6, Try.ntmps6
  go_wp2_with fail
  refine (alive_any _).mono ?_
  rintro en w1 ⟨rfl, hb1⟩
  go_wp2_with fail
  refine (put_many k A1 n1 c1 h4 _).mono ?_
  rintro en w2 ⟨rfl, rfl⟩
  go_wp2_with fail
  refine (take_short none 0 0 (by omega) _).mono ?_
  rintro en w3 ⟨rfl, rfl⟩
  have hB3 := hb1
  go_wp2_with fail
  refine (take_any A2 n2 c2 t hn2 (by omega) hc2 hl2 _ ((hR2.below hB3).more hB3.size)).mono ?_
  rintro en w4 ⟨⟨e, he, he', rfl, hno⟩ | ⟨hOk', gc, cc, rfl, hcc, hRc⟩, hb4⟩
  · exact absurd hOk hno
  generalize hcon : content t = con at *
  have hlc : ∀ x ∈ con, x < 256 := by rw [← hcon]; exact fun x hx => hl2 x (List.mem_of_mem_drop (List.mem_of_mem_take hx))
  have hml : con.length ≤ 4096 := by rw [← hcon]; have := hOk.2.2.2.2.2; simp [content]; omega
  have hkk : t.getD 2 0 < 256 := by rw [List.getD_eq_getElem?_getD, List.getElem?_eq_getElem (by have := hOk.1; omega)]; exact hl2 _ (List.getElem_mem _)
  have hbk : framed (t.getD 2 0) con = t := by rw [← hcon]; exact framed_back hOk hl2
  generalize t.getD 2 0 = kk at *
  have hB4 := hB3.trans (hb4.mono hB3.size)
  obtain ⟨m, hm⟩ : ∃ m, con.length = m := ⟨_, rfl⟩
  rw [hm] at hcc hml hRc ⊢
  go_wp2_with fail
  refine (put_n kk hkk gc m cc con hm hlc hml _ (by first | exact hRc | exact hm ▸ hRc)).mono ?_
  rintro en w5 ⟨gd, cd, rfl, hcd, hRd, hb5⟩
  have hB5 := hB4.trans (hb5.mono hB4.size)
  rw [show m + 9 = n2 by rw [← hn2, ← hbk, framed_len]; omega] at *
  rw [hbk] at hRd
  have kd1 : (convert 22 9 (.slice gd n2 cd)).run Try.prog w5 = .ok (.string (strOf t)) w5 := conv_str hn2 hl2 hRd
  have kd2 : (convert 22 9 (.slice A2 n2 c2)).run Try.prog w5 = .ok (.string (strOf t)) w5 := conv_str hn2 hl2 (hR2.below hB5)
  have ks2 := str_same t
  clear hRc hRd hb4 hb5 hR2 hlc hml hbk hcon
  go_wp2
  go_ret
  exact ⟨rfl, hB5⟩
theorem walk (k : Nat) (hk : k < 256) (A1 : Option Addr) (n1 c1 : Nat) (b : List Nat) (hn1 : b.length = n1) (hc1 : n1 ≤ c1) (hl1 : ∀ x ∈ b, x < 256) (A2 : Option Addr) (n2 c2 : Nat) (t : List Nat) (hn2 : t.length = n2) (hc2 : n2 ≤ c2) (hl2 : ∀ x ∈ t, x < 256) (w : World) (hR1 : Reads w w.heap.size 1 A1 n1 (bytes b)) (hR2 : Reads w w.heap.size 1 A2 n2 (bytes t)) :
    Calls Try.prog 6 #[.int .u8 (k : Int), .slice A1 n1 c1, .slice A2 n2 c2] w fun en w' => en = .returned (.bool true) ∧ Below w.heap.size w w' := by
  rcases Nat.lt_or_ge 5000 n1 with h | h
  · exact out1 k hk A1 n1 c1 b hn1 hc1 hl1 A2 n2 c2 t hn2 hc2 hl2 w hR1 hR2 h
  rcases Nat.lt_or_ge 5000 n2 with h2 | h2
  · exact out2 k hk A1 n1 c1 b hn1 hc1 hl1 A2 n2 c2 t hn2 hc2 hl2 w hR1 hR2 h h2
  rcases Nat.lt_or_ge 4096 n1 with h4 | h4 <;> by_cases hOk : OkT t
  · exact walk11 k hk A1 n1 c1 b hn1 hc1 hl1 A2 n2 c2 t hn2 hc2 hl2 w hR1 hR2 h h2 h4 hOk
  · exact walk10 k hk A1 n1 c1 b hn1 hc1 hl1 A2 n2 c2 t hn2 hc2 hl2 w hR1 hR2 h h2 h4 hOk
  · exact walk01 k hk A1 n1 c1 b hn1 hc1 hl1 A2 n2 c2 t hn2 hc2 hl2 w hR1 hR2 h h2 h4 hOk
  · exact walk00 k hk A1 n1 c1 b hn1 hc1 hl1 A2 n2 c2 t hn2 hc2 hl2 w hR1 hR2 h h2 h4 hOk
end Go.Proofs.Ytceggbbichfjnaa.FrameBack
