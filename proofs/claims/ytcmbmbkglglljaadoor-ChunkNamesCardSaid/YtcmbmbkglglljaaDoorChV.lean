/- The statement ChunkTells: the walk. -/
import Derived.Test.YtcmbmbkglglljaaDoorChL
import Derived.Test.YtcmbmbkglglljaaDoorChS
import Derived.Laws.AppendOwnNone
namespace Go.Proofs.YtcmbmbkglglljaaDoor
open Go.RowKit

set_option maxHeartbeats 4000000 in
set_option maxRecDepth 100000 in
theorem tells16_big (s : ByteArray) (a : Option Addr) (n cap : Nat) (hs : s.size ≤ 9223372036854775807) (hn : n ≤ 9223372036854775807) (w : World) (h : (3000 < s.size ∧ s.size < 8190) ∨ 9000 < s.size ∨ 9000 < n) :
    Calls Tryd.prog 4 #[.string s, .slice a n cap] w (Ret w (.bool true)) := by
  by_cases h1 : 3000 < s.size ∧ s.size < 8190
  · have g1 : (3000 : Int) < s.size := by omega
    have g2 : (s.size : Int) < 8190 := by omega
    clear h h1
    go_enter Tryd.func4, Tryd.ntmps4
    go_wp2_with fail
    go_ret
    exact ⟨rfl, Below.refl _ _⟩
  by_cases h2 : 9000 < s.size
  · have g1 : (3000 : Int) < s.size := by omega
    have g2 : ¬ (s.size : Int) < 8190 := by omega
    have g3 : (9000 : Int) < s.size := by omega
    clear h h1
    go_enter Tryd.func4, Tryd.ntmps4
    go_wp2_with fail
    go_ret
    exact ⟨rfl, Below.refl _ _⟩
  have g3 : ¬ (9000 : Int) < s.size := by omega
  have g4 : (9000 : Int) < n := by omega
  by_cases h3 : 3000 < s.size
  · have g1 : (3000 : Int) < s.size := by omega
    have g2 : ¬ (s.size : Int) < 8190 := by omega
    clear h h1
    go_enter Tryd.func4, Tryd.ntmps4
    go_wp2_with fail
    go_ret
    exact ⟨rfl, Below.refl _ _⟩
  · have g1 : ¬ (3000 : Int) < s.size := by omega
    clear h h1
    go_enter Tryd.func4, Tryd.ntmps4
    go_wp2_with fail
    go_ret
    exact ⟨rfl, Below.refl _ _⟩
/-- An empty row of the call's own. -/
theorem own_empty (w : World) (B : Nat) (h : B ≤ w.heap.size) : (w.alloc (.cells #[] 3)).ownsRow B 3 1 (.slice (some ⟨w.heap.size, 0, none⟩) 0 0) 0 [] :=
  ⟨rfl, .inr ⟨w.heap.size, 0, #[], rfl, h, heap_alloc_new w _, Nat.le_refl _, Nat.zero_le _, rfl, rfl⟩⟩
/-- The test of the two decodings, and of the two encodings. -/
theorem tells16_first (s : ByteArray) : ¬ (3000 < s.size ∧ s.size < 8190) → (¬ (3000 : Int) < s.size) ∨ ((3000 : Int) < s.size ∧ ¬ (s.size : Int) < 8190) := by
  intro h
  omega
theorem ints_cells {b off : Nat} {xs : List Int} {w : World} (h : IntsAt b off xs w) : ∀ j u, (xs.map (Value.int .i64))[j]? = some u → w.cell? ((⟨b, off, none⟩ : Addr).add j) = some u := by
  intro j u hj
  rw [List.getElem?_map] at hj
  obtain ⟨z, hz, rfl⟩ := Option.map_eq_some_iff.1 hj
  obtain ⟨hlt, rfl⟩ := List.getElem?_eq_some_iff.1 hz
  rw [← h.2 j hlt]
  congr 1
  simp only [Addr.add]
  split
  · rename_i e
    rw [e]
    rfl
  · rfl
set_option maxHeartbeats 8000000 in
set_option maxRecDepth 100000 in
theorem tells16_some (s : ByteArray) (b off cap : Nat) (xs : List Int) (hx : ∀ x ∈ xs, -9223372036854775808 ≤ x ∧ x ≤ 9223372036854775807) (w : World) (ht : TabZ w) (hi : IntsAt b off xs w)
    (h1 : ¬ (3000 < s.size ∧ s.size < 8190)) (h2 : s.size ≤ 9000) (h3 : xs.length ≤ 9000) :
    Calls Tryd.prog 4 #[.string s, .slice (some ⟨b, off, none⟩) xs.length cap] w (Ret w (.bool true)) := by
  have HT := Lib.hid ht
  have HI := Lib.hid hi
  have HV : Hid (IsInts (.slice (some ⟨b, off, none⟩) xs.length cap) xs w) := Lib.hid ⟨_, _, rfl, .inr ⟨b, off, rfl, hi⟩⟩
  have hbw := hi.1
  obtain ⟨x, n, d, e, he⟩ : ∃ (x : ByteArray) (n : Nat) (d : Bool) (e : Int), dcOf s.data.toList = (x.data.toList, n, d, e) := ⟨⟨(dcOf s.data.toList).1.toArray⟩, _, _, _, rfl⟩
  have C := Lib.hid fun w => decode_of s x n d e w (by omega) he
  have C2 := fun w => r16_Decode s w (by omega)
  unfold dcV at C2
  rw [he, str_mk] at C2
  have C2H := Lib.hid C2
  obtain ⟨t, ht'⟩ : ∃ t : ByteArray, ⟨(ecS s.data.toList xs).toArray⟩ = t := ⟨_, rfl⟩
  obtain ⟨f, hf⟩ : ∃ f, ecE s.data.toList xs = f := ⟨_, rfl⟩
  have E1 := fun w v ht hi => ch_Encode s v xs hx (by omega) w ht hi
  have E2 := fun w v hi => r16_Encode s v xs hx w hi (by omega)
  rw [ht', hf] at E1 E2
  have E1H := Lib.hid E1
  have E2H := Lib.hid E2
  have hg := tells16_first s h1
  have g3 : ¬ (9000 : Int) < s.size := by omega
  have g4 : ¬ (9000 : Int) < xs.length := by omega
  have hxl : xs.length ≤ 9000 := h3
  clear ht hi he C2 ht' hf E1 E2 hx h1 h2
  rcases hg with g1 | ⟨g1, g2⟩
  all_goals
    go_enter Tryd.func4, Tryd.ntmps4
    go_wp2_with fail
    refine (C.out _).mono ?_
    rintro e1 w1 ⟨rfl, hb1⟩
    go_wp2_with fail
    refine (C2H.out _).mono ?_
    rintro e2 w2 ⟨rfl, rfl⟩
    obtain ⟨i0, hi, hz0, hz1, hz2⟩ := info_parts u8i
    have hI1 := HI.out.ret hb1
    have hb1s := hb1.size
    have HI1 := Lib.hid hI1
    clear hI1
    go_wp2_with (at_builtin; refine wpList_append_own _ rfl _ _ 28 rfl w.heap.size 3 i0 (.int .i64 0) 1 8 Tryd.underlying28 hi hz0 hz1 hz2 rfl (by decide) _ 0 [] rfl (own_empty _ _ hb1s) ⟨b, off, none⟩ xs.length cap (xs.map (Value.int .i64)) rfl (by simp) ?c1 ?c2 ?c3 ?c4 ?c5 ?_)
    case c1 => exact ints_cells (HI1.out.ret (by go_grown))
    case c2 =>
      intro u hu
      simp at hu
      obtain ⟨z, _, rfl⟩ := hu
      rfl
    case c3 => unfold maxLen; omega
    case c4 => omega
    case c5 => simp; omega
    intro v' w4 hown' hgrow _
    have q4 : Below w.heap.size w w4 := (hb1.alloc hb1s _).grown hgrow (by simp; omega) (fun k hk => by injection hk with hk; simp only at hk; omega)
    have hI : IsInts v' xs w4 := own_ints (n := 0 + xs.length) (by simpa using hown')
    have HIO := Lib.hid hI
    clear hown' hgrow hI hi hz0 hz1 hz2
    go_wp2_with fail
    refine (E1H.out _ _ (HT.out.ret q4) HIO.out).mono ?_
    rintro e5 w5 ⟨rfl, hb5⟩
    go_wp2_with fail
    refine (E2H.out _ _ (HV.out.ret (ret_trans q4 hb5))).mono ?_
    rintro e6 w6 ⟨rfl, hb6⟩
    have q6 := ret_trans (ret_trans q4 hb5) hb6
    have HA := Lib.hid (HIO.out.ret (hb5.trans (hb6.mono hb5.size)))
    have HB := Lib.hid (HI.out.ret q6)
    clear hb5 hb6 HIO HI1 q4 hb1 hb1s
    obtain ⟨a', cap', rfl, _⟩ := HA.out
    go_wp2_with fail
    go_loopw [18] (fun i wr => ∃ k : Nat, k ≤ xs.length ∧ i = .int .i64 k ∧ Below w6.heap.size w6 wr) (fun i _ => xs.length - (intOf i).toNat)
    case atStart => exact ⟨0, Nat.zero_le _, rfl, by go_grown⟩
    case round =>
      obtain ⟨k, hk, rfl, hBw⟩ := hrel
      have HBW := Lib.hid hBw
      clear hBw
      by_cases hlt : k < xs.length
      · obtain ⟨a2, cap2, hv2, hh⟩ := HA.out.ret HBW.out
        injection hv2 with h21 h22 h23
        subst h21
        rcases hh with hh | ⟨b', off', rfl, hA⟩
        · subst hh
          simp at hlt
        have c1 := hA.2 k hlt
        have c2 := (HB.out.ret HBW.out).2 k hlt
        obtain ⟨z, hz⟩ : ∃ z, xs[k] = z := ⟨_, rfl⟩
        rw [hz] at c1 c2
        clear hz hA h22 h23
        go_wp2_with fail
        go_quiet (fail)
        go_wp2_with fail
        go_roundw
        case rel => exact ⟨k + 1, by omega, by go_num, HBW.out.trans (Below.drewN_ _ _ _)⟩
        case measure => simp [intOf]; omega
      · have hBw2 : Below w.heap.size w wr := q6.trans (HBW.out.mono q6.size)
        go_wp2_with fail
        go_ret
        exact ⟨rfl, hBw2⟩

set_option maxHeartbeats 8000000 in
set_option maxRecDepth 100000 in
theorem tells16_empty (s : ByteArray) (ad : Addr) (cap : Nat) (w : World) (ht : TabZ w) (h1 : ¬ (3000 < s.size ∧ s.size < 8190)) (h2 : s.size ≤ 9000) :
    Calls Tryd.prog 4 #[.string s, .slice (some ad) 0 cap] w (Ret w (.bool true)) := by
  have HT := Lib.hid ht
  obtain ⟨x, n, d, e, he⟩ : ∃ (x : ByteArray) (n : Nat) (d : Bool) (e : Int), dcOf s.data.toList = (x.data.toList, n, d, e) := ⟨⟨(dcOf s.data.toList).1.toArray⟩, _, _, _, rfl⟩
  have C := Lib.hid fun w => decode_of s x n d e w (by omega) he
  have C2 := fun w => r16_Decode s w (by omega)
  unfold dcV at C2
  rw [he, str_mk] at C2
  have C2H := Lib.hid C2
  obtain ⟨t, ht'⟩ : ∃ t : ByteArray, ⟨(ecS s.data.toList []).toArray⟩ = t := ⟨_, rfl⟩
  obtain ⟨f, hf⟩ : ∃ f, ecE s.data.toList [] = f := ⟨_, rfl⟩
  have E1 := fun w v ht hi => ch_Encode s v [] (by simp) (by simp) w ht hi
  have E2 := fun w v hi => r16_Encode s v [] (by simp) w hi (by omega)
  rw [ht', hf] at E1 E2
  have E1H := Lib.hid E1
  have E2H := Lib.hid E2
  have hg := tells16_first s h1
  have g3 : ¬ (9000 : Int) < s.size := by omega
  clear ht he C2 ht' hf E1 E2 h1 h2
  rcases hg with g1 | ⟨g1, g2⟩
  all_goals
    go_enter Tryd.func4, Tryd.ntmps4
    go_wp2_with fail
    refine (C.out _).mono ?_
    rintro e1 w1 ⟨rfl, hb1⟩
    go_wp2_with fail
    refine (C2H.out _).mono ?_
    rintro e2 w2 ⟨rfl, rfl⟩
    obtain ⟨i0, hi, hz0, hz1, hz2⟩ := info_parts u8i
    have hb1s := hb1.size
    go_wp2_with (at_builtin; refine wpList_append_own _ rfl _ _ 28 rfl w.heap.size 3 i0 (.int .i64 0) 1 8 Tryd.underlying28 hi hz0 hz1 hz2 rfl (by decide) _ 0 [] rfl (own_empty _ _ hb1s) ad 0 cap [] rfl rfl ?c1 ?c2 ?c3 ?c4 ?c5 ?_)
    case c1 => intro j u hj; simp at hj
    case c2 => intro u hu; simp at hu
    case c3 => unfold maxLen; omega
    case c4 => omega
    case c5 => simp; omega
    intro v' w4 hown' hgrow _
    have q4 : Below w.heap.size w w4 := (hb1.alloc hb1s _).grown hgrow (by simp; omega) (fun k hk => by injection hk with hk; simp only at hk; omega)
    have hI : IsInts v' [] w4 := own_ints (n := 0) (by simpa using hown')
    have HIO := Lib.hid hI
    clear hown' hgrow hI hi hz0 hz1 hz2
    obtain ⟨a', cap', rfl, _⟩ := HIO.out
    go_wp2_with fail
    refine (E1H.out _ _ (HT.out.ret q4) HIO.out).mono ?_
    rintro e5 w5 ⟨rfl, hb5⟩
    go_wp2_with fail
    refine (E2H.out _ _ ⟨_, _, rfl, .inl rfl⟩).mono ?_
    rintro e6 w6 ⟨rfl, hb6⟩
    have q6 := ret_trans (ret_trans q4 hb5) hb6
    clear hb5 hb6 q4 hb1 hb1s
    go_wp2_with fail
    go_loopw [18] (fun i wr => i = .int .i64 0 ∧ Below w6.heap.size w6 wr) (fun _ _ => 0)
    case atStart => exact ⟨rfl, by go_grown⟩
    case round =>
      obtain ⟨rfl, hBw⟩ := hrel
      have hBw2 : Below w.heap.size w wr := q6.trans (hBw.mono q6.size)
      clear hBw
      go_wp2_with fail
      go_ret
      exact ⟨rfl, hBw2⟩
set_option maxHeartbeats 8000000 in
set_option maxRecDepth 100000 in
theorem tells16_nil (s : ByteArray) (w : World) (ht : TabZ w) (h1 : ¬ (3000 < s.size ∧ s.size < 8190)) (h2 : s.size ≤ 9000) :
    Calls Tryd.prog 4 #[.string s, .slice none 0 0] w (Ret w (.bool true)) := by
  have HT := Lib.hid ht
  obtain ⟨x, n, d, e, he⟩ : ∃ (x : ByteArray) (n : Nat) (d : Bool) (e : Int), dcOf s.data.toList = (x.data.toList, n, d, e) := ⟨⟨(dcOf s.data.toList).1.toArray⟩, _, _, _, rfl⟩
  have C := Lib.hid fun w => decode_of s x n d e w (by omega) he
  have C2 := fun w => r16_Decode s w (by omega)
  unfold dcV at C2
  rw [he, str_mk] at C2
  have C2H := Lib.hid C2
  obtain ⟨t, ht'⟩ : ∃ t : ByteArray, ⟨(ecS s.data.toList []).toArray⟩ = t := ⟨_, rfl⟩
  obtain ⟨f, hf⟩ : ∃ f, ecE s.data.toList [] = f := ⟨_, rfl⟩
  have E1 := fun w v ht hi => ch_Encode s v [] (by simp) (by simp) w ht hi
  have E2 := fun w v hi => r16_Encode s v [] (by simp) w hi (by omega)
  rw [ht', hf] at E1 E2
  have E1H := Lib.hid E1
  have E2H := Lib.hid E2
  have hg := tells16_first s h1
  have g3 : ¬ (9000 : Int) < s.size := by omega
  clear ht he C2 ht' hf E1 E2 h1 h2
  rcases hg with g1 | ⟨g1, g2⟩
  all_goals
    go_enter Tryd.func4, Tryd.ntmps4
    go_wp2_with fail
    refine (C.out _).mono ?_
    rintro e1 w1 ⟨rfl, hb1⟩
    go_wp2_with fail
    refine (C2H.out _).mono ?_
    rintro e2 w2 ⟨rfl, rfl⟩
    obtain ⟨i0, hi, hz0, hz1, hz2⟩ := info_parts u8i
    have hb1s := hb1.size
    go_wp2_with (at_builtin; refine wpList_append_own_none rfl _ _ 28 rfl w.heap.size 3 i0 1 Tryd.underlying28 hi _ 0 [] rfl (own_empty _ _ hb1s) rfl ?_)
    have q4 : Below w.heap.size w (w2.alloc (.cells #[] 3)) := hb1.alloc hb1s _
    have HIO : Hid (IsInts (.slice (some ⟨w2.heap.size, 0, none⟩) 0 0) [] (w2.alloc (.cells #[] 3))) := Lib.hid ⟨_, _, rfl, .inl rfl⟩
    clear hi hz0 hz1 hz2
    go_wp2_with fail
    refine (E1H.out _ _ (HT.out.ret q4) HIO.out).mono ?_
    rintro e5 w5 ⟨rfl, hb5⟩
    go_wp2_with fail
    refine (E2H.out _ _ ⟨_, _, rfl, .inl rfl⟩).mono ?_
    rintro e6 w6 ⟨rfl, hb6⟩
    have q6 := ret_trans (ret_trans q4 hb5) hb6
    clear hb5 hb6 q4 hb1 hb1s
    go_wp2_with fail
    go_loopw [18] (fun i wr => i = .int .i64 0 ∧ Below w6.heap.size w6 wr) (fun _ _ => 0)
    case atStart => exact ⟨rfl, by go_grown⟩
    case round =>
      obtain ⟨rfl, hBw⟩ := hrel
      have hBw2 : Below w.heap.size w wr := q6.trans (hBw.mono q6.size)
      clear hBw
      go_wp2_with fail
      go_ret
      exact ⟨rfl, hBw2⟩
theorem tells16 (s : ByteArray) (v : Value) (xs : List Int) (hx : ∀ x ∈ xs, -9223372036854775808 ≤ x ∧ x ≤ 9223372036854775807) (hs : s.size ≤ 9223372036854775807) (hn : xs.length ≤ 9223372036854775807) (w : World) (ht : TabZ w) (hi : IsInts v xs w)
    (h0 : ∀ n c, v = .slice none n c → n = 0 ∧ c = 0) : Calls Tryd.prog 4 #[.string s, v] w (Ret w (.bool true)) := by
  obtain ⟨a, cap, rfl, h⟩ := hi
  by_cases hbig : (3000 < s.size ∧ s.size < 8190) ∨ 9000 < s.size ∨ 9000 < xs.length
  · exact tells16_big s a _ cap hs hn w hbig
  rcases h with h | ⟨b, off, rfl, h⟩
  · subst h
    cases a with
    | none =>
      obtain ⟨_, rfl⟩ := h0 _ _ rfl
      exact tells16_nil s w ht (by omega) (by omega)
    | some ad => exact tells16_empty s ad cap w ht (by omega) (by omega)
  · exact tells16_some s b off cap xs hx w ht h (by omega) (by omega) (by omega)
end Go.Proofs.YtcmbmbkglglljaaDoor
