/- The document's texts (tidewaiterref05): One. PRINTED BY PROGRAM (gen_jdt.py). -/
import Derived.Test.YtfonkblbgadhmaaDoorJdS
import Derived.Test.YtfonkblbgadhmaaDoorGh
namespace Go.Proofs.YtfonkblbgadhmaaDoor
open Go.RowKit Go.Lib

theorem hd_facts (b : Nat) : (hdN b).1 ≤ 4 ∧ ((hdN b).1 ≠ 0 → (hdN b).2 < 128) := by
  unfold hdN
  repeat' split
  all_goals constructor <;> intros <;> simp at * <;> omega
theorem nm_step (k h b1 b2 b3 : Nat) (h1 : 1 ≤ k) (h2 : k < 4) : nmN (k + 1) h b1 b2 b3 = 64 * nmN k h b1 b2 b3 + (if k = 1 then b1 else if k = 2 then b2 else b3) % 64 := by
  rcases Nat.lt_or_ge k 2 with c | c
  · obtain rfl : k = 1 := by omega
    rfl
  · rcases Nat.lt_or_ge k 3 with c' | c'
    · obtain rfl : k = 2 := by omega
      rfl
    · obtain rfl : k = 3 := by omega
      rfl
theorem nm_le (k h b1 b2 b3 : Nat) (hh : h < 128) : nmN k h b1 b2 b3 ≤ 33554432 := by
  unfold nmN
  repeat' split
  all_goals omega
theorem byN_lt (n : Nat) (h : n ≤ 1114111) : ∀ x ∈ byN n, x < 256 := by
  unfold byN
  repeat' split
  all_goals simp
  all_goals omega
/-- the bytes as a text. -/
def byB (n : Nat) : List UInt8 := (byN n).map UInt8.ofNat
theorem byB_at (n : Nat) (h : n ≤ 1114111) (j : Nat) (hj : j < (byB n).length) : ((byB n)[j].toNat : Nat) = (byN n)[j]'(by simpa [byB] using hj) := by
  simp only [byB, List.getElem_map, UInt8.toNat_ofNat']
  exact Nat.mod_eq_of_lt (byN_lt n h _ (List.getElem_mem _))
theorem take4 (l : List UInt8) (k : Nat) (hk : k ≤ 4) (hl : k ≤ l.length) : (l.take k).map UInt8.toNat = [(l.getD 0 0).toNat, (l.getD 1 0).toNat, (l.getD 2 0).toNat, (l.getD 3 0).toNat].take k := by
  apply List.ext_getElem
  · simp; omega
  · intro i h1 h2
    simp only [List.length_map, List.length_take] at h1
    have hi : i < l.length := by omega
    have e : l.getD i 0 = l[i] := by simp [List.getD, hi]
    rw [List.getElem_map, List.getElem_take, List.getElem_take]
    have h4 : i < 4 := by omega
    match i, h4 with
    | 0, _ => simp [List.getD, hi]
    | 1, _ => simp [List.getD, hi]
    | 2, _ => simp [List.getD, hi]
    | 3, _ => simp [List.getD, hi]
theorem byB_eq (n k : Nat) (l : List UInt8) (h : n ≤ 1114111) (hk : k ≤ 4) (hl : k ≤ l.length) : (byB n = l.take k) ↔ byN n = [(l.getD 0 0).toNat, (l.getD 1 0).toNat, (l.getD 2 0).toNat, (l.getD 3 0).toNat].take k := by
  rw [← take4 l k hk hl]
  have e : (byB n).map UInt8.toNat = byN n := by
    unfold byB
    rw [List.map_map]
    conv => rhs; rw [← List.map_id (byN n)]
    exact List.map_congr_left fun x hx => by
      show (UInt8.ofNat x).toNat = x
      rw [UInt8.toNat_ofNat']
      exact Nat.mod_eq_of_lt (byN_lt n h x hx)
  constructor
  · intro q
    rw [← e, q]
  · intro q
    rw [← e] at q
    have back : ∀ a : List UInt8, (a.map UInt8.toNat).map UInt8.ofNat = a := fun a => by
      rw [List.map_map]
      conv => rhs; rw [← List.map_id a]
      exact List.map_congr_left fun x _ => UInt8.ofNat_toNat
    rw [← back (byB n), q, back]
/-- a number, and how many bytes. -/
def OneIs (w : World) (k : Nat) (e : Ending) (w' : World) : Prop := ∃ n : Int, e = .returned (.tuple #[.int .i64 n, .int .i64 k]) ∧ Below w.heap.size w w'
theorem ok_K (l : List UInt8) (sz hd : Nat) (hh : hdN (l.getD 0 0).toNat = (sz, hd)) : (if okL l then szL l else 0) =
    if sz ≠ 0 ∧ sz ≤ l.length ∧ mayP (nmN sz hd (l.getD 1 0).toNat (l.getD 2 0).toNat (l.getD 3 0).toNat) = true ∧ byN (nmN sz hd (l.getD 1 0).toNat (l.getD 2 0).toNat (l.getD 3 0).toNat) = [(l.getD 0 0).toNat, (l.getD 1 0).toNat, (l.getD 2 0).toNat, (l.getD 3 0).toNat].take sz then sz else 0 := by
  unfold okL okN szL
  rw [hh]
  simp only [Bool.and_eq_true, decide_eq_true_eq, and_assoc]
set_option maxHeartbeats 800000 in
set_option maxRecDepth 100000 in
theorem r5_One (s : ByteArray) (w : World) (hs : s.size ≤ 10000) (h0 : 0 < s.size) : Calls Tryd.prog 86 #[.string s] w (OneIs w (if okL s.data.toList then szL s.data.toList else 0)) := by
  obtain ⟨b, hb⟩ : ∃ b : Nat → Nat, b = fun i => (s.data.toList.getD i 0).toNat := ⟨_, rfl⟩
  have hbv : ∀ i (h : i < s.size), s[i].toNat = b i := fun i h => by
    rw [hb]
    simp [List.getD, getElem_data s i h]
  obtain ⟨⟨sz, hd⟩, hh⟩ : ∃ p : Nat × Nat, hdN (s.data.toList.getD 0 0).toNat = p := ⟨_, rfl⟩
  have hK := ok_K s.data.toList sz hd hh
  rw [hK]
  clear hK
  have hf := hd_facts (s.data.toList.getD 0 0).toNat
  rw [hh] at hf
  obtain ⟨hz4, hd128⟩ := hf
  have hb0 : (s.data.toList.getD 0 0).toNat = s[0].toNat := by rw [hbv 0 h0, hb]
  have C0 := fun w => r5_head s[0].toNat (UInt8.toNat_lt _) w
  rw [← hb0, hh, hb0] at C0
  dsimp only at C0 hz4 hd128
  obtain ⟨nm, hnm⟩ : ∃ nm : Nat → Nat, nm = fun k => nmN k hd (s.data.toList.getD 1 0).toNat (s.data.toList.getD 2 0).toNat (s.data.toList.getD 3 0).toNat := ⟨_, rfl⟩
  have hn1 : nm 1 = hd := by rw [hnm]; rfl
  have hns : ∀ k, 1 ≤ k → k < 4 → nm (k + 1) = 64 * nm k + b k % 64 := fun k h1 h2 => by
    rw [hnm, hb]
    show nmN (k + 1) _ _ _ _ = 64 * nmN k _ _ _ _ + _
    rw [nm_step _ _ _ _ _ h1 h2]
    rcases Nat.lt_or_ge k 2 with c | c
    · obtain rfl : k = 1 := by omega
      rfl
    · rcases Nat.lt_or_ge k 3 with c' | c'
      · obtain rfl : k = 2 := by omega
        rfl
      · obtain rfl : k = 3 := by omega
        rfl
  have hnl : ∀ k, hd < 128 → nm k ≤ 33554432 := fun k h => by rw [hnm]; exact nm_le _ _ _ _ _ h
  have hsz : nmN sz hd (s.data.toList.getD 1 0).toNat (s.data.toList.getD 2 0).toNat (s.data.toList.getD 3 0).toNat = nm sz := by rw [hnm]
  rw [hsz]
  obtain ⟨KK, hKK⟩ : ∃ KK : Nat, (if sz ≠ 0 ∧ sz ≤ s.data.toList.length ∧ mayP (nm sz) = true ∧ byN (nm sz) = [(s.data.toList.getD 0 0).toNat, (s.data.toList.getD 1 0).toNat, (s.data.toList.getD 2 0).toNat, (s.data.toList.getD 3 0).toNat].take sz then sz else 0) = KK := ⟨_, rfl⟩
  rw [hKK]
  rw [size_toList] at hKK
  have C := Lib.hid C0
  have HBV := Lib.hid hbv
  have HNS := Lib.hid hns
  have HNL := Lib.hid hnl
  have HN1 := Lib.hid hn1
  have g9 := s[0].toNat_lt
  have hne := ne_nil_of_pos h0
  have he : (s.toList == []) = false := by simpa using hne
  clear C0 hbv hns hnl hn1 hb hnm hsz hb0 hh
  by_cases z0 : sz = 0
  · subst z0
    rw [if_neg (by simp)] at hKK
    subst hKK
    clear hd128
    go_enter Tryd.func86, Tryd.ntmps86
    go_wp2_with fail
    refine (C.out _).mono ?_
    rintro e w1 ⟨rfl, rfl⟩
    go_wp2_with fail
    go_ret2
    exact ⟨0, rfl, Below.refl _ _⟩
  · have e0 : ((sz : Int) == 0) = false := beq_eq_false_iff_ne.2 (by omega)
    by_cases z1 : s.size < sz
    · rw [if_neg (by omega)] at hKK
      subst hKK
      clear hd128
      go_enter Tryd.func86, Tryd.ntmps86
      go_wp2_with fail
      refine (C.out _).mono ?_
      rintro e w1 ⟨rfl, rfl⟩
      go_wp2_with fail
      go_ret2
      exact ⟨0, rfl, Below.refl _ _⟩
    · have g2 : decide (s.size < sz) = false := decide_eq_false z1
      have hd1 := hd128 z0
      have HKK := Lib.hid hKK
      clear hKK hd128
      go_enter Tryd.func86, Tryd.ntmps86
      go_wp2_with fail
      refine (C.out _).mono ?_
      rintro e w1 ⟨rfl, rfl⟩
      go_wp2_with fail
      go_loop [5, 6] (fun n i => ∃ k : Nat, 1 ≤ k ∧ k ≤ sz ∧ i = .int .i64 k ∧ n = .int .i64 (nm k : Nat)) (fun _ i => sz - (intOf i).toNat)
      case atStart => exact ⟨1, Nat.le_refl _, by omega, rfl, by rw [HN1.out]⟩
      case round =>
        obtain ⟨k, hk1, hk, rfl, rfl⟩ := hrel
        have hkl := HNL.out k hd1
        by_cases hlt : k < sz
        · have hst := HNS.out k hk1 (by omega)
          have hsk : k < s.size := by omega
          have hbk := HBV.out k hsk
          obtain ⟨M, hM⟩ : ∃ M, nm k = M := ⟨_, rfl⟩
          rw [hM] at hst hkl ⊢
          rw [← hbk] at hst
          have HST := Lib.hid hst
          clear hst hM hbk
          have g3 : (0 : Int) ≤ M := by omega
          have g4 : (M : Int) ≤ 33554432 := by omega
          have g5 := s[k].toNat_lt
          go_wp2_with fail
          go_round
          case rel => exact ⟨k + 1, by omega, by omega, by go_num, by rw [HST.out]; go_num⟩
          case measure => simp [intOf]; omega
        · obtain rfl : k = sz := by omega
          obtain ⟨M, hM⟩ : ∃ M, nm k = M := ⟨_, rfl⟩
          have hKK := HKK.out
          rw [hM] at hkl hKK ⊢
          clear hM HKK HNS HNL HN1
          go_wp2_with fail
          cases hmay : mayP M with
          | false =>
            rw [if_neg (fun h => by rw [hmay] at h; exact absurd h.2.2.1 (by decide))] at hKK
            subst hKK
            refine wp_region_held_drew (S := fun _ => True) (by kernel_rfl) trivial (fun hHeld => ?_)
            refine tk_on (i := 0) (some 37) (v := ?_) (by kernel_rfl) (by kernel_rfl) (by kernel_rfl) (by kernel_rfl) (fun _ _ _ h => h) (by assumption) (fun o ho w' hSw => ?_) ?_
            rotate_left
            · (simp only [List.getElem?_toArray, List.getElem?_cons_zero, Option.some.injEq] at ho; subst ho; (try dsimp only at hSw); go_simp; try with_reducible rfl)
            simp only [Act.put, List.setIfInBounds_toArray, List.set_cons_zero, List.set_cons_succ]
            refine tk_call (i := 1) (by kernel_rfl) (by kernel_rfl) (fun o ho K hK => ?_)
            simp only [List.getElem?_toArray, List.getElem?_cons_succ, List.getElem?_cons_zero, Option.some.injEq] at ho
            subst ho
            go_simp
            refine (r5_May M _).mono ?_
            rintro e w1 ⟨rfl, rfl⟩
            rw [hmay]
            go_simp
            refine hK.out _ _ trivial (fun hHeld => ?_)
            clear hK K
            refine tk_on (i := 2) (some 39) (v := ?_) (by kernel_rfl) (by kernel_rfl) (by kernel_rfl) (by kernel_rfl) (fun _ _ _ h => h) (by assumption) (fun o ho w' hSw => ?_) ?_
            rotate_left
            · (simp only [List.getElem?_toArray, List.getElem?_cons_succ, List.getElem?_cons_zero, Option.some.injEq] at ho; subst ho; (try dsimp only at hSw); go_simp; try with_reducible rfl)
            simp only [Act.put, List.setIfInBounds_toArray, List.set_cons_zero, List.set_cons_succ]
            refine tk_on (i := 3) (some 40) (v := ?_) (by kernel_rfl) (by kernel_rfl) (by kernel_rfl) (by kernel_rfl) (fun _ _ _ h => h) (by assumption) (fun o ho w' hSw => ?_) ?_
            rotate_left
            · (simp only [List.getElem?_toArray, List.getElem?_cons_succ, List.getElem?_cons_zero, Option.some.injEq] at ho; subst ho; (try dsimp only at hSw); go_simp; try with_reducible rfl)
            simp only [Act.put, List.setIfInBounds_toArray, List.set_cons_zero, List.set_cons_succ]
            refine tk_off (i := 4) (some 41) (by kernel_rfl) (by kernel_rfl) (by kernel_rfl) (by kernel_rfl) (fun _ _ _ h => h) (by assumption) ?_
            simp only [Act.put, List.setIfInBounds_toArray, List.set_cons_zero, List.set_cons_succ]
            refine tk_off (i := 5) (some 42) (by kernel_rfl) (by kernel_rfl) (by kernel_rfl) (by kernel_rfl) (fun _ _ _ h => h) (by assumption) ?_
            simp only [Act.put, List.setIfInBounds_toArray, List.set_cons_zero, List.set_cons_succ]
            refine tk_off (i := 6) (some 43) (by kernel_rfl) (by kernel_rfl) (by kernel_rfl) (by kernel_rfl) (fun _ _ _ h => h) (by assumption) ?_
            simp only [Act.put, List.setIfInBounds_toArray, List.set_cons_zero, List.set_cons_succ]
            refine tk_off (i := 7) (some 44) (by kernel_rfl) (by kernel_rfl) (by kernel_rfl) (by kernel_rfl) (fun _ _ _ h => h) (by assumption) ?_
            simp only [Act.put, List.setIfInBounds_toArray, List.set_cons_zero, List.set_cons_succ]
            refine tk_off (i := 8) (some 45) (by kernel_rfl) (by kernel_rfl) (by kernel_rfl) (by kernel_rfl) (fun _ _ _ h => h) (by assumption) ?_
            simp only [Act.put, List.setIfInBounds_toArray, List.set_cons_zero, List.set_cons_succ]
            refine tk_off (i := 9) (some 46) (by kernel_rfl) (by kernel_rfl) (by kernel_rfl) (by kernel_rfl) (fun _ _ _ h => h) (by assumption) ?_
            simp only [Act.put, List.setIfInBounds_toArray, List.set_cons_zero, List.set_cons_succ]
            refine tk_off (i := 10) (some 47) (by kernel_rfl) (by kernel_rfl) (by kernel_rfl) (by kernel_rfl) (fun _ _ _ h => h) (by assumption) ?_
            simp only [Act.put, List.setIfInBounds_toArray, List.set_cons_zero, List.set_cons_succ]
            refine tk_on (i := 11) (some 48) (v := ?_) (by kernel_rfl) (by kernel_rfl) (by kernel_rfl) (by kernel_rfl) (fun _ _ _ h => h) (by assumption) (fun o ho w' hSw => ?_) ?_
            rotate_left
            · (simp only [List.getElem?_toArray, List.getElem?_cons_succ, List.getElem?_cons_zero, Option.some.injEq] at ho; subst ho; (try dsimp only at hSw); go_simp; try with_reducible rfl)
            simp only [Act.put, List.setIfInBounds_toArray, List.set_cons_zero, List.set_cons_succ]
            refine wpAnyH_done (by kernel_rfl) ?_ _
            go_wp2_with fail
            go_ret2
            exact ⟨0, rfl, (Below.refl _ _).drew⟩
          | true =>
            have g6 : k ≤ s.size := by omega
            have hM4 := (may_facts M hmay).1
            have hBE := byB_eq M k s.data.toList hM4 hz4 (by rw [size_toList]; omega)
            have hKK2 : (if byB M = s.data.toList.take k then k else 0) = KK := by
              rw [← hKK]
              by_cases hq : byB M = s.data.toList.take k
              · rw [if_pos hq, if_pos ⟨z0, by omega, hmay, hBE.1 hq⟩]
              · rw [if_neg hq, if_neg (fun h => hq (hBE.2 h.2.2.2))]
            obtain ⟨XB, hXB⟩ : ∃ XB : ByteArray, (⟨(byB M).toArray⟩ : ByteArray) = XB := ⟨_, rfl⟩
            have hx : (s.extract 0 k).toList = s.data.toList.take k := by rw [Lib.toList_data]; simp
            have hy : XB.toList = byB M := by rw [Lib.toList_data, ← hXB]
            rw [← hx, ← hy] at hKK2
            have HXB := Lib.hid hXB
            clear hKK hBE hXB hx hy
            cases hq : (XB.toList == (s.extract 0 k).toList) with
            | true =>
              rw [if_pos (by simpa using hq)] at hKK2
              subst hKK2
              refine wp_region_held_drew (S := fun _ => True) (by kernel_rfl) trivial (fun hHeld => ?_)
              refine tk_on (i := 0) (some 37) (v := ?_) (by kernel_rfl) (by kernel_rfl) (by kernel_rfl) (by kernel_rfl) (fun _ _ _ h => h) (by assumption) (fun o ho w' hSw => ?_) ?_
              rotate_left
              · (simp only [List.getElem?_toArray, List.getElem?_cons_zero, Option.some.injEq] at ho; subst ho; (try dsimp only at hSw); go_simp; try with_reducible rfl)
              simp only [Act.put, List.setIfInBounds_toArray, List.set_cons_zero, List.set_cons_succ]
              refine tk_call (i := 1) (by kernel_rfl) (by kernel_rfl) (fun o ho K hK => ?_)
              simp only [List.getElem?_toArray, List.getElem?_cons_succ, List.getElem?_cons_zero, Option.some.injEq] at ho
              subst ho
              go_simp
              refine (r5_May M _).mono ?_
              rintro e w1 ⟨rfl, rfl⟩
              rw [hmay]
              go_simp
              refine hK.out _ _ trivial (fun hHeld => ?_)
              clear hK K
              refine tk_on (i := 2) (some 39) (v := ?_) (by kernel_rfl) (by kernel_rfl) (by kernel_rfl) (by kernel_rfl) (fun _ _ _ h => h) (by assumption) (fun o ho w' hSw => ?_) ?_
              rotate_left
              · (simp only [List.getElem?_toArray, List.getElem?_cons_succ, List.getElem?_cons_zero, Option.some.injEq] at ho; subst ho; (try dsimp only at hSw); go_simp; try with_reducible rfl)
              simp only [Act.put, List.setIfInBounds_toArray, List.set_cons_zero, List.set_cons_succ]
              refine tk_on (i := 3) (some 40) (v := ?_) (by kernel_rfl) (by kernel_rfl) (by kernel_rfl) (by kernel_rfl) (fun _ _ _ h => h) (by assumption) (fun o ho w' hSw => ?_) ?_
              rotate_left
              · (simp only [List.getElem?_toArray, List.getElem?_cons_succ, List.getElem?_cons_zero, Option.some.injEq] at ho; subst ho; (try dsimp only at hSw); go_simp; try with_reducible rfl)
              simp only [Act.put, List.setIfInBounds_toArray, List.set_cons_zero, List.set_cons_succ]
              refine tk_on (i := 4) (some 41) (v := ?_) (by kernel_rfl) (by kernel_rfl) (by kernel_rfl) (by kernel_rfl) (fun _ _ _ h => h) (by assumption) (fun o ho w' hSw => ?_) ?_
              rotate_left
              · (simp only [List.getElem?_toArray, List.getElem?_cons_succ, List.getElem?_cons_zero, Option.some.injEq] at ho; subst ho; (try dsimp only at hSw); go_simp; try with_reducible rfl)
              simp only [Act.put, List.setIfInBounds_toArray, List.set_cons_zero, List.set_cons_succ]
              refine tk_on (i := 7) (some 44) (v := ?_) (by kernel_rfl) (by kernel_rfl) (by kernel_rfl) (by kernel_rfl) (fun _ _ _ h => h) (by assumption) (fun o ho w' hSw => ?_) ?_
              rotate_left
              · (simp only [List.getElem?_toArray, List.getElem?_cons_succ, List.getElem?_cons_zero, Option.some.injEq] at ho; subst ho; (try dsimp only at hSw); go_simp; try with_reducible rfl)
              simp only [Act.put, List.setIfInBounds_toArray, List.set_cons_zero, List.set_cons_succ]
              refine tk_on (i := 8) (some 45) (v := ?_) (by kernel_rfl) (by kernel_rfl) (by kernel_rfl) (by kernel_rfl) (fun _ _ _ h => h) (by assumption) (fun o ho w' hSw => ?_) ?_
              rotate_left
              · (simp only [List.getElem?_toArray, List.getElem?_cons_succ, List.getElem?_cons_zero, Option.some.injEq] at ho; subst ho; (try dsimp only at hSw); go_simp; try with_reducible rfl)
              simp only [Act.put, List.setIfInBounds_toArray, List.set_cons_zero, List.set_cons_succ]
              refine tk_on (i := 9) (some 46) (v := ?_) (by kernel_rfl) (by kernel_rfl) (by kernel_rfl) (by kernel_rfl) (fun _ _ _ h => h) (by assumption) (fun o ho w' hSw => ?_) ?_
              rotate_left
              · (simp only [List.getElem?_toArray, List.getElem?_cons_succ, List.getElem?_cons_zero, Option.some.injEq] at ho; subst ho; (try dsimp only at hSw); go_simp; try with_reducible rfl)
              simp only [Act.put, List.setIfInBounds_toArray, List.set_cons_zero, List.set_cons_succ]
              refine tk_call (i := 5) (by kernel_rfl) (by kernel_rfl) (fun o ho K hK => ?_)
              simp only [List.getElem?_toArray, List.getElem?_cons_succ, List.getElem?_cons_zero, Option.some.injEq] at ho
              subst ho
              go_simp
              refine (r5_Bytes M hM4 _).mono ?_
              rintro e w2 ⟨g, rfl, q2, hc2⟩
              go_simp
              refine hK.out _ _ trivial (fun hHeld => ?_)
              clear hK K
              refine tk_call (i := 6) (by kernel_rfl) (by kernel_rfl) (fun o ho K hK => ?_)
              simp only [List.getElem?_toArray, List.getElem?_cons_succ, List.getElem?_cons_zero, Option.some.injEq] at ho
              subst ho
              have hcv := run_convert_bytes_back (P := Tryd.prog) w2 47 9 5 ⟨g, 0, none⟩ (byN M).length (byB M) Tryd.underlying47 Tryd.underlying5 Tryd.underlying9 (fun j hj => by rw [byB_at M hM4 j hj]; have := hc2 j (by simpa [byB] using hj); cases j <;> simpa [Addr.add] using this)
              rw [show (byB M).length = (byN M).length by simp [byB]] at hcv
              rw [HXB.out] at hcv
              go_simp
              refine hK.out _ _ trivial (fun hHeld => ?_)
              clear hK K hcv
              refine tk_on (i := 10) (some 47) (v := ?_) (by kernel_rfl) (by kernel_rfl) (by kernel_rfl) (by kernel_rfl) (fun _ _ _ h => h) (by assumption) (fun o ho w' hSw => ?_) ?_
              rotate_left
              · (simp only [List.getElem?_toArray, List.getElem?_cons_succ, List.getElem?_cons_zero, Option.some.injEq] at ho; subst ho; (try dsimp only at hSw); go_simp; try with_reducible rfl)
              simp only [Act.put, List.setIfInBounds_toArray, List.set_cons_zero, List.set_cons_succ]
              refine tk_on (i := 11) (some 48) (v := ?_) (by kernel_rfl) (by kernel_rfl) (by kernel_rfl) (by kernel_rfl) (fun _ _ _ h => h) (by assumption) (fun o ho w' hSw => ?_) ?_
              rotate_left
              · (simp only [List.getElem?_toArray, List.getElem?_cons_succ, List.getElem?_cons_zero, Option.some.injEq] at ho; subst ho; (try dsimp only at hSw); go_simp; try with_reducible rfl)
              simp only [Act.put, List.setIfInBounds_toArray, List.set_cons_zero, List.set_cons_succ]
              refine wpAnyH_done (by kernel_rfl) ?_ _
              have q3 := ((Below.refl w1.heap.size w1).drew).trans q2
              clear q2 hc2
              go_wp2_with fail
              go_ret2
              exact ⟨_, rfl, q3⟩
            | false =>
              rw [if_neg (by simpa using hq)] at hKK2
              subst hKK2
              refine wp_region_held_drew (S := fun _ => True) (by kernel_rfl) trivial (fun hHeld => ?_)
              refine tk_on (i := 0) (some 37) (v := ?_) (by kernel_rfl) (by kernel_rfl) (by kernel_rfl) (by kernel_rfl) (fun _ _ _ h => h) (by assumption) (fun o ho w' hSw => ?_) ?_
              rotate_left
              · (simp only [List.getElem?_toArray, List.getElem?_cons_zero, Option.some.injEq] at ho; subst ho; (try dsimp only at hSw); go_simp; try with_reducible rfl)
              simp only [Act.put, List.setIfInBounds_toArray, List.set_cons_zero, List.set_cons_succ]
              refine tk_call (i := 1) (by kernel_rfl) (by kernel_rfl) (fun o ho K hK => ?_)
              simp only [List.getElem?_toArray, List.getElem?_cons_succ, List.getElem?_cons_zero, Option.some.injEq] at ho
              subst ho
              go_simp
              refine (r5_May M _).mono ?_
              rintro e w1 ⟨rfl, rfl⟩
              rw [hmay]
              go_simp
              refine hK.out _ _ trivial (fun hHeld => ?_)
              clear hK K
              refine tk_on (i := 2) (some 39) (v := ?_) (by kernel_rfl) (by kernel_rfl) (by kernel_rfl) (by kernel_rfl) (fun _ _ _ h => h) (by assumption) (fun o ho w' hSw => ?_) ?_
              rotate_left
              · (simp only [List.getElem?_toArray, List.getElem?_cons_succ, List.getElem?_cons_zero, Option.some.injEq] at ho; subst ho; (try dsimp only at hSw); go_simp; try with_reducible rfl)
              simp only [Act.put, List.setIfInBounds_toArray, List.set_cons_zero, List.set_cons_succ]
              refine tk_on (i := 3) (some 40) (v := ?_) (by kernel_rfl) (by kernel_rfl) (by kernel_rfl) (by kernel_rfl) (fun _ _ _ h => h) (by assumption) (fun o ho w' hSw => ?_) ?_
              rotate_left
              · (simp only [List.getElem?_toArray, List.getElem?_cons_succ, List.getElem?_cons_zero, Option.some.injEq] at ho; subst ho; (try dsimp only at hSw); go_simp; try with_reducible rfl)
              simp only [Act.put, List.setIfInBounds_toArray, List.set_cons_zero, List.set_cons_succ]
              refine tk_on (i := 4) (some 41) (v := ?_) (by kernel_rfl) (by kernel_rfl) (by kernel_rfl) (by kernel_rfl) (fun _ _ _ h => h) (by assumption) (fun o ho w' hSw => ?_) ?_
              rotate_left
              · (simp only [List.getElem?_toArray, List.getElem?_cons_succ, List.getElem?_cons_zero, Option.some.injEq] at ho; subst ho; (try dsimp only at hSw); go_simp; try with_reducible rfl)
              simp only [Act.put, List.setIfInBounds_toArray, List.set_cons_zero, List.set_cons_succ]
              refine tk_on (i := 7) (some 44) (v := ?_) (by kernel_rfl) (by kernel_rfl) (by kernel_rfl) (by kernel_rfl) (fun _ _ _ h => h) (by assumption) (fun o ho w' hSw => ?_) ?_
              rotate_left
              · (simp only [List.getElem?_toArray, List.getElem?_cons_succ, List.getElem?_cons_zero, Option.some.injEq] at ho; subst ho; (try dsimp only at hSw); go_simp; try with_reducible rfl)
              simp only [Act.put, List.setIfInBounds_toArray, List.set_cons_zero, List.set_cons_succ]
              refine tk_on (i := 8) (some 45) (v := ?_) (by kernel_rfl) (by kernel_rfl) (by kernel_rfl) (by kernel_rfl) (fun _ _ _ h => h) (by assumption) (fun o ho w' hSw => ?_) ?_
              rotate_left
              · (simp only [List.getElem?_toArray, List.getElem?_cons_succ, List.getElem?_cons_zero, Option.some.injEq] at ho; subst ho; (try dsimp only at hSw); go_simp; try with_reducible rfl)
              simp only [Act.put, List.setIfInBounds_toArray, List.set_cons_zero, List.set_cons_succ]
              refine tk_on (i := 9) (some 46) (v := ?_) (by kernel_rfl) (by kernel_rfl) (by kernel_rfl) (by kernel_rfl) (fun _ _ _ h => h) (by assumption) (fun o ho w' hSw => ?_) ?_
              rotate_left
              · (simp only [List.getElem?_toArray, List.getElem?_cons_succ, List.getElem?_cons_zero, Option.some.injEq] at ho; subst ho; (try dsimp only at hSw); go_simp; try with_reducible rfl)
              simp only [Act.put, List.setIfInBounds_toArray, List.set_cons_zero, List.set_cons_succ]
              refine tk_call (i := 5) (by kernel_rfl) (by kernel_rfl) (fun o ho K hK => ?_)
              simp only [List.getElem?_toArray, List.getElem?_cons_succ, List.getElem?_cons_zero, Option.some.injEq] at ho
              subst ho
              go_simp
              refine (r5_Bytes M hM4 _).mono ?_
              rintro e w2 ⟨g, rfl, q2, hc2⟩
              go_simp
              refine hK.out _ _ trivial (fun hHeld => ?_)
              clear hK K
              refine tk_call (i := 6) (by kernel_rfl) (by kernel_rfl) (fun o ho K hK => ?_)
              simp only [List.getElem?_toArray, List.getElem?_cons_succ, List.getElem?_cons_zero, Option.some.injEq] at ho
              subst ho
              have hcv := run_convert_bytes_back (P := Tryd.prog) w2 47 9 5 ⟨g, 0, none⟩ (byN M).length (byB M) Tryd.underlying47 Tryd.underlying5 Tryd.underlying9 (fun j hj => by rw [byB_at M hM4 j hj]; have := hc2 j (by simpa [byB] using hj); cases j <;> simpa [Addr.add] using this)
              rw [show (byB M).length = (byN M).length by simp [byB]] at hcv
              rw [HXB.out] at hcv
              go_simp
              refine hK.out _ _ trivial (fun hHeld => ?_)
              clear hK K hcv
              refine tk_on (i := 10) (some 47) (v := ?_) (by kernel_rfl) (by kernel_rfl) (by kernel_rfl) (by kernel_rfl) (fun _ _ _ h => h) (by assumption) (fun o ho w' hSw => ?_) ?_
              rotate_left
              · (simp only [List.getElem?_toArray, List.getElem?_cons_succ, List.getElem?_cons_zero, Option.some.injEq] at ho; subst ho; (try dsimp only at hSw); go_simp; try with_reducible rfl)
              simp only [Act.put, List.setIfInBounds_toArray, List.set_cons_zero, List.set_cons_succ]
              refine tk_on (i := 11) (some 48) (v := ?_) (by kernel_rfl) (by kernel_rfl) (by kernel_rfl) (by kernel_rfl) (fun _ _ _ h => h) (by assumption) (fun o ho w' hSw => ?_) ?_
              rotate_left
              · (simp only [List.getElem?_toArray, List.getElem?_cons_succ, List.getElem?_cons_zero, Option.some.injEq] at ho; subst ho; (try dsimp only at hSw); go_simp; try with_reducible rfl)
              simp only [Act.put, List.setIfInBounds_toArray, List.set_cons_zero, List.set_cons_succ]
              refine wpAnyH_done (by kernel_rfl) ?_ _
              have q3 := ((Below.refl w1.heap.size w1).drew).trans q2
              clear q2 hc2
              go_wp2_with fail
              go_ret2
              exact ⟨0, rfl, q3⟩
end Go.Proofs.YtfonkblbgadhmaaDoor
