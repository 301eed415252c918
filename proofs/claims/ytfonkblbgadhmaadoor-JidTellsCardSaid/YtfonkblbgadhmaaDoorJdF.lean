/- jid.words, jid.ends, jid.dots. PRINTED BY PROGRAM (gen_jdf.py). -/
import Derived.Test.YtfonkblbgadhmaaDoorJdE
namespace Go.Proofs.YtfonkblbgadhmaaDoor
open Go.RowKit Go.Lib

abbrev plainB : ByteArray := ⟨#[97, 98, 99, 100, 101, 102, 103, 104, 105, 106, 107, 108, 109, 110, 111, 112, 113, 114, 115, 116, 117, 118, 119, 120, 121, 122, 48, 49, 50, 51, 52, 53, 54, 55, 56, 57]⟩
abbrev locB : ByteArray := ⟨#[97, 98, 99, 100, 101, 102, 103, 104, 105, 106, 107, 108, 109, 110, 111, 112, 113, 114, 115, 116, 117, 118, 119, 120, 121, 122, 48, 49, 50, 51, 52, 53, 54, 55, 56, 57, 46, 45, 95]⟩
abbrev domB : ByteArray := ⟨#[97, 98, 99, 100, 101, 102, 103, 104, 105, 106, 107, 108, 109, 110, 111, 112, 113, 114, 115, 116, 117, 118, 119, 120, 121, 122, 48, 49, 50, 51, 52, 53, 54, 55, 56, 57, 46, 45]⟩
theorem plain_A (c : UInt8) : plainB.data.toList.contains c = jdA c := by
  have := all256 (q := fun c => plainB.data.toList.contains c == jdA c) (by decide +kernel) c
  simpa using this
theorem loc_L (c : UInt8) : locB.data.toList.contains c = jdL c := by
  have := all256 (q := fun c => locB.data.toList.contains c == jdL c) (by decide +kernel) c
  simpa using this
theorem dom_D (c : UInt8) : domB.data.toList.contains c = jdD c := by
  have := all256 (q := fun c => domB.data.toList.contains c == jdD c) (by decide +kernel) c
  simpa using this

/-! ### no byte below 32 -/
theorem low32N (n b0 b1 b2 b3 r k : Nat) (h : decodeN n b0 b1 b2 b3 = (r, k)) : (r < 32 ↔ b0 < 32) ∧ (32 ≤ b0 → k ≤ 4 ∧ (2 ≤ k → 32 ≤ b1) ∧ (3 ≤ k → 32 ≤ b2) ∧ (4 ≤ k → 32 ≤ b3)) := by
  unfold decodeN at h
  repeat' split at h
  all_goals
    obtain ⟨e1, e2⟩ := Prod.mk.inj h
    omega
theorem take_any (l : List UInt8) (k : Nat) (h0 : 32 ≤ (l.getD 0 0).toNat) (hk : k ≤ 4) (h1 : 2 ≤ k → 32 ≤ (l.getD 1 0).toNat) (h2 : 3 ≤ k → 32 ≤ (l.getD 2 0).toNat) (h3 : 4 ≤ k → 32 ≤ (l.getD 3 0).toNat) : (l.take k).any (fun c => decide (c.toNat < 32)) = false := by
  rw [List.any_eq_false]
  intro c hc
  obtain ⟨i, hi, rfl⟩ := List.mem_iff_getElem.1 hc
  rw [List.length_take] at hi
  rw [List.getElem_take, decide_eq_true_eq]
  have e : ∀ j (hj : j < l.length), l.getD j 0 = l[j] := fun j hj => by simp [List.getD, hj]
  have hi2 : i < l.length := by omega
  rcases Nat.lt_or_ge i 1 with h | h
  · obtain rfl : i = 0 := by omega
    rw [e 0 hi2] at h0
    omega
  · rcases Nat.lt_or_ge i 2 with h' | h'
    · obtain rfl : i = 1 := by omega
      have := h1 (by omega)
      rw [e 1 hi2] at this
      omega
    · rcases Nat.lt_or_ge i 3 with h'' | h''
      · obtain rfl : i = 2 := by omega
        have := h2 (by omega)
        rw [e 2 hi2] at this
        omega
      · obtain rfl : i = 3 := by omega
        have := h3 (by omega)
        rw [e 3 hi2] at this
        omega
theorem idx32G (s : ByteArray) : ∀ (f pos : Nat), s.size ≤ pos + f → decide (0 ≤ idxFuncFrom (fun x => decide (x < 32)) true s f pos) = (s.data.toList.drop pos).any (fun c => decide (c.toNat < 32))
  | 0, pos, h => by
    rw [List.drop_eq_nil_of_le (by rw [size_toList]; omega)]
    rfl
  | f + 1, pos, h => by
    unfold idxFuncFrom
    by_cases hp : pos < s.size
    · rw [if_pos hp]
      have hN := low32N (s.data.toList.drop pos).length _ _ _ _ (Utf8.decode s pos).1 (Utf8.decode s pos).2 (by rw [← decodeL_N, decodeL_drop])
      have hw := Lib.width_pos s pos
      have hD := drop_cons s pos hp
      have h0 : ((s.data.toList.drop pos).getD 0 0) = s[pos] := by rw [hD]; rfl
      by_cases hr : (Utf8.decode s pos).1 < 32
      · have hb := hN.1.1 hr
        rw [h0] at hb
        rw [if_pos (decide_eq_true hr), hD, List.any_cons, decide_eq_true hb, Bool.true_or]
        exact decide_eq_true (by omega)
      · rw [if_neg (by simpa using hr)]
        have hb : 32 ≤ ((s.data.toList.drop pos).getD 0 0).toNat := by
          have := fun h => hr (hN.1.2 h)
          omega
        obtain ⟨k1, k2, k3, k4⟩ := hN.2 hb
        rw [idx32G s f _ (by omega), ← List.drop_drop]
        conv => rhs; rw [← List.take_append_drop (Utf8.decode s pos).2 (s.data.toList.drop pos), List.any_append, take_any _ _ hb k1 k2 k3 k4, Bool.false_or]
    · rw [if_neg hp, List.drop_eq_nil_of_le (by rw [size_toList]; omega)]
      rfl
theorem idx32 (s : ByteArray) : decide (0 ≤ idxFunc (fun x => decide (x < 32)) true s) = !s.data.toList.all (fun c => decide (32 ≤ c.toNat)) := by
  have := idx32G s s.size 0 (by omega)
  rw [List.drop_zero] at this
  unfold idxFunc
  rw [this, List.not_all_eq_any_not]
  congr 1
  funext c
  rw [← decide_not]
  exact decide_eq_decide.2 (by omega)
theorem jd_words1 (x : Nat) (hx : x ≤ 1114111) (w : World) : Calls Tryd.prog 46 #[.int .i32 x] w fun e w' => e = .returned (.bool (decide (x < 32))) ∧ w' = w := by
  obtain ⟨t, ht⟩ : ∃ t, decide (x < 32) = t := ⟨_, rfl⟩
  rw [ht]
  have h1 : decide ((x : Int) < 32) = t := by rw [← ht]; exact decide_eq_decide.2 (by omega)
  clear ht
  go_enter Tryd.func46, Tryd.ntmps46
  go_wp2_with fail
  go_ret
  exact ⟨rfl, rfl⟩
theorem e_words1 : ∀ args w, (callFunc 46 args).run Tryd.prog w = .ok (.enter 46 args) w := enters_of Tryd.func46 (by kernel_rfl) rfl
set_option maxHeartbeats 4000000 in
theorem jd_words (s : ByteArray) (w : World) (hs : s.size ≤ 10000) : Calls Tryd.prog 29 #[.string s] w (Ret w (.bool (txP s.data.toList && s.data.toList.all fun c => decide (32 ≤ c.toNat)))) := by
  have T := fun w => tx_Check s w hs
  have F := fun w => Tryd.strings_ContainsFunc_grows 46 #[] e_words1 (fun x => decide (x < 32)) s w (fun W x hx _ => (jd_words1 x hx W).mono fun e w' ⟨h1, h2⟩ => ⟨h1, by rw [h2]; exact Below.refl _ _⟩)
  rw [idx32] at F
  obtain ⟨a, ha⟩ : ∃ a, txP s.data.toList = a := ⟨_, rfl⟩
  obtain ⟨b, hb⟩ : ∃ a, (s.data.toList.all fun c => decide (32 ≤ c.toNat)) = a := ⟨_, rfl⟩
  rw [ha] at T
  rw [hb] at F
  rw [ha, hb]
  have FH := Lib.hid F
  clear F ha hb
  cases a with
  | false =>
    have TH := Lib.hid T
    clear T
    go_enter Tryd.func29, Tryd.ntmps29
    go_wp2_with fail
    refine (TH.out _).mono ?_
    rintro e w1 ⟨rfl, hb1⟩
    go_wp2_with fail
    go_ret
    exact ⟨rfl, hb1⟩
  | true =>
    have TH := Lib.hid T
    clear T
    cases b with
    | true =>
      go_enter Tryd.func29, Tryd.ntmps29
      go_wp2_with fail
      refine (TH.out _).mono ?_
      rintro e w1 ⟨rfl, hb1⟩
      go_wp2_with fail
      refine (FH.out _).mono ?_
      rintro e w2 ⟨rfl, hb2⟩
      go_wp2_with fail
      go_ret
      exact ⟨rfl, hb1.trans (hb2.mono hb1.size)⟩
    | false =>
      go_enter Tryd.func29, Tryd.ntmps29
      go_wp2_with fail
      refine (TH.out _).mono ?_
      rintro e w1 ⟨rfl, hb1⟩
      go_wp2_with fail
      refine (FH.out _).mono ?_
      rintro e w2 ⟨rfl, hb2⟩
      go_wp2_with fail
      go_ret
      exact ⟨rfl, hb1.trans (hb2.mono hb1.size)⟩

/-! ### both ends, and no two points -/
theorem last_data (s : ByteArray) (h : 0 < s.size) : s.data.toList.getLastD 0 = s[s.size - 1]'(by omega) := by
  rw [List.getLastD_eq_getLast?, List.getLast?_eq_getElem?, size_toList, getElem_data s (s.size - 1) (by omega)]
  rfl
theorem head_data (s : ByteArray) (h : 0 < s.size) : s.data.toList.headD 0 = s[0]'h := by
  have := drop_cons s 0 h
  rw [List.drop_zero] at this
  rw [this]
  rfl
set_option maxHeartbeats 4000000 in
theorem jd_ends (s : ByteArray) (w : World) (hs : s.size ≤ 10000) (h0 : 0 < s.size) : Calls Tryd.prog 30 #[.string s] w fun e w' => e = .returned (.bool (jdA (s.data.toList.headD 0) && jdA (s.data.toList.getLastD 0))) ∧ w' = w := by
  have I := fun (c : UInt8) w => Tryd.strings_IndexByte plainB (c.toNat : Int) w
  have e : ∀ c : UInt8, ((c.toNat : Int)).toNat.toUInt8 = c := fun c => UInt8.ofNat_toNat
  simp only [e] at I
  have J : ∀ c : UInt8, decide (0 ≤ Lib.indexByte plainB.data.toList c) = jdA c := fun c => by rw [← contains_iff_indexByte, plain_A]
  rw [head_data s h0, last_data s h0]
  have hl : s.size - 1 < s.size := by omega
  have hk : ((s.size : Int) - 1) = ((s.size - 1 : Nat) : Int) := by omega
  obtain ⟨V, hV⟩ : ∃ V, Lib.indexByte plainB.data.toList s[0] = V := ⟨_, rfl⟩
  obtain ⟨U, hU⟩ : ∃ V, Lib.indexByte plainB.data.toList (s[s.size - 1]'hl) = V := ⟨_, rfl⟩
  have I1 := I s[0]
  have I2 := I (s[s.size - 1]'hl)
  have j1 := J s[0]
  have j2 := J (s[s.size - 1]'hl)
  rw [hV] at I1 j1
  rw [hU] at I2 j2
  obtain ⟨a, ha⟩ : ∃ a, jdA s[0] = a := ⟨_, rfl⟩
  obtain ⟨b, hb⟩ : ∃ a, jdA (s[s.size - 1]'hl) = a := ⟨_, rfl⟩
  rw [ha] at j1
  rw [hb] at j2
  rw [ha, hb]
  have H1 := Lib.hid I1
  have H2 := Lib.hid I2
  clear I J e I1 I2 hV hU ha hb
  cases a with
  | false =>
    have g1 : ¬ 0 ≤ V := of_decide_eq_false j1
    go_enter Tryd.func30, Tryd.ntmps30
    go_wp2_with fail
    refine (H1.out _).mono ?_
    rintro e w1 ⟨rfl, rfl⟩
    go_wp2_with fail
    go_ret
    exact ⟨rfl, rfl⟩
  | true =>
    have g1 : 0 ≤ V := of_decide_eq_true j1
    go_enter Tryd.func30, Tryd.ntmps30
    go_wp2_with fail
    refine (H1.out _).mono ?_
    rintro e w1 ⟨rfl, rfl⟩
    go_wp2_with fail
    refine (H2.out _).mono ?_
    rintro e w1 ⟨rfl, rfl⟩
    go_wp2_with fail
    go_ret
    exact ⟨rfl, rfl⟩
theorem dots_eq : ∀ l : List UInt8, Lib.contains l [46, 46] = dotsP l
  | [] => rfl
  | [a] => by simp [Lib.contains, Lib.index, List.isPrefixOf, dotsP]
  | a :: b :: l => by
    have ih := dots_eq (b :: l)
    unfold Lib.contains at ih ⊢
    unfold Lib.index dotsP
    have hp : ([46, 46] : List UInt8).isPrefixOf (a :: b :: l) = (a == 46 && b == 46) := by
      show ((46 : UInt8) == a && ((46 : UInt8) == b && true)) = _
      rw [Bool.and_true, beq_comm_u8 46 a, beq_comm_u8 46 b]
    rw [hp]
    cases (a == 46 && b == 46) with
    | true => rfl
    | false =>
      rw [Bool.false_or, ← ih]
      simp only [Bool.false_eq_true, if_false]
      split
      · rename_i h
        rw [beq_iff_eq] at h
        rw [h]
      · rename_i h
        have := index_ge (b :: l) [46, 46]
        have h' : Lib.index (b :: l) [46, 46] ≠ -1 := fun e => h (by rw [e]; rfl)
        rw [decide_eq_true (by omega), decide_eq_true (by omega)]
theorem jd_dots (s : ByteArray) (w : World) (hs : s.size ≤ 10000) (hm : ML w) : Calls Tryd.prog 31 #[.string s] w fun e w' => e = .returned (.bool (!dotsP s.data.toList)) ∧ w' = w := by
  obtain ⟨-, m, hm⟩ := hm
  have C := Tryd.strings_Contains s ⟨#[46, 46]⟩ m w (by omega) hm
  rw [show (ByteArray.mk #[46, 46]).data.toList = [46, 46] from rfl, dots_eq] at C
  have H := Lib.hid C
  clear C
  go_enter Tryd.func31, Tryd.ntmps31
  go_wp2_with fail
  refine H.out.mono ?_
  rintro e w1 ⟨rfl, rfl⟩
  go_wp2_with fail
  go_ret
  exact ⟨rfl, rfl⟩
end Go.Proofs.YtfonkblbgadhmaaDoor
