/- The statements of chapter 16: the helpers is, begun, odd, alive; ChunkNames, ChunkBack, ChunkLasts. -/
import Derived.Test.YtcmbmbkglglljaaDoorREnc
import Derived.Test.YtcmbmbkglglljaaDoorChE
namespace Go.Proofs.YtcmbmbkglglljaaDoor
open Go.RowKit

theorem ret_trans {w w1 w2 : World} (h1 : Below w.heap.size w w1) (h2 : Below w1.heap.size w1 w2) : Below w.heap.size w w2 := h1.trans (h2.mono h1.size)
theorem decode_of (s x : ByteArray) (n : Nat) (d : Bool) (e : Int) (w : World) (hs : s.size ≤ 9223372036854775807) (h : dcOf s.data.toList = (x.data.toList, n, d, e)) :
    Calls Tryd.prog 17 #[.string s] w (Ret w (.tuple #[.string x, .int .i64 n, .bool d, .int .i64 e])) := by
  have c := ch_Decode s w hs
  rw [h, str_mk] at c
  exact c
theorem is16 (s x : ByteArray) (m : Int) (n : Nat) (w : World) (hs : s.size ≤ 9223372036854775807) (h : dcOf s.data.toList = (x.data.toList, n, true, 0)) (hm : m = n) :
    Calls Tryd.prog 14 #[.string s, .string x, .int .i64 m] w (Ret w (.bool true)) := by
  subst hm
  have C := Lib.hid fun w => decode_of s x n true 0 w hs h
  clear h
  go_enter Tryd.func14, Tryd.ntmps14
  go_wp2_with fail
  refine (C.out _).mono ?_
  rintro e w1 ⟨rfl, hb⟩
  go_wp2_with fail
  go_ret
  exact ⟨rfl, hb⟩
theorem begun16 (s : ByteArray) (w : World) (hs : s.size ≤ 9223372036854775807) (h : dcOf s.data.toList = ([], 0, false, 0)) : Calls Tryd.prog 13 #[.string s] w (Ret w (.bool true)) := by
  have C := Lib.hid fun w => decode_of s ⟨#[]⟩ 0 false 0 w hs h
  clear h
  go_enter Tryd.func13, Tryd.ntmps13
  go_wp2_with fail
  refine (C.out _).mono ?_
  rintro e w1 ⟨rfl, hb⟩
  go_wp2_with fail
  go_ret
  exact ⟨rfl, hb⟩
theorem odd16 (s : ByteArray) (e : Int) (w : World) (hs : s.size ≤ 9223372036854775807) (h : dcOf s.data.toList = ([], 0, false, e)) : Calls Tryd.prog 12 #[.string s, .int .i64 e] w (Ret w (.bool true)) := by
  have C := Lib.hid fun w => decode_of s ⟨#[]⟩ 0 false e w hs h
  clear h
  go_enter Tryd.func12, Tryd.ntmps12
  go_wp2_with fail
  refine (C.out _).mono ?_
  rintro e w1 ⟨rfl, hb⟩
  go_wp2_with fail
  go_ret
  exact ⟨rfl, hb⟩
theorem alive16 (w : World) : Calls Tryd.prog 16 #[] w (Ret w (.bool true)) := by
  go_enter Tryd.func16, Tryd.ntmps16
  go_wp2_with fail
  refine (is16 _ _ _ 28 _ (by decide) (by decide +kernel) rfl).mono ?_
  rintro e w1 ⟨rfl, hb⟩
  go_wp2_with fail
  refine (begun16 _ _ (by decide) (by decide +kernel)).mono ?_
  rintro e w2 ⟨rfl, hb2⟩
  go_wp2_with fail
  go_ret
  exact ⟨rfl, ret_trans hb hb2⟩

theorem encR_size (l : List Int) : ∀ (body t : List UInt8), encR body l = some t → t.length ≤ 8 * l.length + body.length + 5 := by
  induction l with
  | nil =>
    intro body t h
    simp only [encR] at h
    split at h
    · injection h with h
      subst h
      simp
    · cases h
  | cons n l ih =>
    intro body t h
    simp only [encR] at h
    split at h
    · cases h
    · rename_i hn
      obtain ⟨r, hr, rfl⟩ := Option.map_eq_some_iff.1 h
      have := ih _ _ hr
      have h4 := hexOf_len 4 n.toNat
      simp only [List.length_drop, List.length_cons, List.length_append, List.length_take, List.length_nil] at this ⊢
      omega
theorem encode_some (s : ByteArray) (v : Value) (xs : List Int) (T : ByteArray) (h : encOf s.data.toList xs = some T.data.toList) (hx : ∀ x ∈ xs, -9223372036854775808 ≤ x ∧ x ≤ 9223372036854775807) (hn : xs.length ≤ 1000000) (w : World) (ht : TabZ w) (hi : IsInts v xs w) :
    Calls Tryd.prog 15 #[.string s, v] w (Ret w (.tuple #[.string T, .int .i64 0])) := by
  have c := ch_Encode s v xs hx hn w ht hi
  rw [(ec_some h).1, (ec_some h).2, str_mk] at c
  exact c
theorem encode_none (s : ByteArray) (v : Value) (xs : List Int) (h : encOf s.data.toList xs = none) (hx : ∀ x ∈ xs, -9223372036854775808 ≤ x ∧ x ≤ 9223372036854775807) (hn : xs.length ≤ 1000000) (w : World) (ht : TabZ w) (hi : IsInts v xs w) :
    Calls Tryd.prog 15 #[.string s, v] w (Ret w (.tuple #[.string ⟨#[]⟩, .int .i64 2])) := by
  have c := ch_Encode s v xs hx hn w ht hi
  rw [(ec_none h).1, (ec_none h).2] at c
  exact c
theorem ints_new (w : World) (xs : List Int) (T : TypeId) (cells : Array Value) (hc : cells.toList = xs.map (Value.int .i64)) : IntsAt w.heap.size 0 xs (w.alloc (.cells cells T)) := by
  refine ⟨by simp, fun j hj => ?_⟩
  rw [Nat.zero_add, World.cell?_alloc_new, ← Array.getElem?_toList, hc, List.getElem?_map, List.getElem?_eq_getElem hj]
  rfl

set_option maxHeartbeats 4000000 in
set_option maxRecDepth 100000 in
theorem back16_big (b m : ByteArray) (a : Option Addr) (n cap : Nat) (k : Int) (hb : b.size ≤ 9223372036854775807) (hm : m.size ≤ 9223372036854775807) (hn : n ≤ 9223372036854775807) (w : World) (h : 1000 < b.size ∨ 1000 < n ∨ 1000 < m.size) :
    Calls Tryd.prog 5 #[.string b, .slice a n cap, .string m, .int .i64 k] w (Ret w (.bool true)) := by
  by_cases h1 : 1000 < b.size
  · have g : (1000 : Int) < b.size := by omega
    clear h
    go_enter Tryd.func5, Tryd.ntmps5
    go_wp2_with fail
    refine (alive16 _).mono ?_
    rintro e w1 ⟨rfl, hb⟩
    go_wp2_with fail
    go_ret
    exact ⟨rfl, hb⟩
  have g1 : ¬ (1000 : Int) < b.size := by omega
  by_cases h2 : 1000 < n
  · have g : (1000 : Int) < n := by omega
    clear h
    go_enter Tryd.func5, Tryd.ntmps5
    go_wp2_with fail
    refine (alive16 _).mono ?_
    rintro e w1 ⟨rfl, hb⟩
    go_wp2_with fail
    go_ret
    exact ⟨rfl, hb⟩
  have g2 : ¬ (1000 : Int) < n := by omega
  have g3 : (1000 : Int) < m.size := by omega
  clear h
  go_enter Tryd.func5, Tryd.ntmps5
  go_wp2_with fail
  refine (alive16 _).mono ?_
  rintro e w1 ⟨rfl, hb⟩
  go_wp2_with fail
  go_ret
  exact ⟨rfl, hb⟩
set_option maxHeartbeats 4000000 in
set_option maxRecDepth 100000 in
theorem back16 (b m : ByteArray) (v : Value) (xs : List Int) (k : Int) (hx : ∀ x ∈ xs, -9223372036854775808 ≤ x ∧ x ≤ 9223372036854775807) (hb : b.size ≤ 9223372036854775807) (hm : m.size ≤ 9223372036854775807) (hn : xs.length ≤ 9223372036854775807) (w : World) (ht : TabZ w) (hi : IsInts v xs w) :
    Calls Tryd.prog 5 #[.string b, v, .string m, .int .i64 k] w (Ret w (.bool true)) := by
  by_cases hbig : 1000 < b.size ∨ 1000 < xs.length ∨ 1000 < m.size
  · obtain ⟨a, cap, rfl, _⟩ := hi
    exact back16_big b m a _ cap k hb hm hn w hbig
  have z1 : b.size ≤ 1000 := by omega
  have z2 : xs.length ≤ 1000 := by omega
  have z3 : m.size ≤ 1000 := by omega
  have g1 : ¬ (1000 : Int) < b.size := by omega
  have g2 : ¬ (1000 : Int) < xs.length := by omega
  have g3 : ¬ (1000 : Int) < m.size := by omega
  clear hbig hb hm hn
  have HT := Lib.hid ht
  have HI := Lib.hid hi
  obtain ⟨a, cap, rfl, _⟩ := hi
  clear ht
  cases he : encOf b.data.toList xs with
  | none =>
    have C := Lib.hid fun w ht hi => encode_none b (.slice a xs.length cap) xs he hx (by omega) w ht hi
    clear he hx
    go_enter Tryd.func5, Tryd.ntmps5
    go_wp2_with fail
    refine (alive16 _).mono ?_
    rintro e w1 ⟨rfl, hb1⟩
    go_wp2_with fail
    refine (C.out _ (HT.out.ret hb1) (HI.out.ret hb1)).mono ?_
    rintro e w2 ⟨rfl, hb2⟩
    go_wp2_with fail
    go_ret
    exact ⟨rfl, ret_trans hb1 hb2⟩
  | some t =>
    obtain ⟨T, rfl⟩ : ∃ T : ByteArray, T.data.toList = t := ⟨⟨t.toArray⟩, rfl⟩
    have hT : T.size ≤ 20000 := by
      have he' := he
      unfold encOf at he'
      split at he'
      · cases he'
      · have := encR_size _ _ _ he'
        rw [size_toList, size_toList] at this
        omega
    have C := Lib.hid fun w ht hi => encode_some b (.slice a xs.length cap) xs T he hx (by omega) w ht hi
    have hsz : (T ++ m).size = T.size + m.size := ByteArray.size_append
    have I := Lib.hid fun w => is16 (T ++ m) b (T.size : Int) T.size w (by omega) (by rw [app_data, enc_dec he, size_toList]) rfl
    have n1 : ¬ 9223372036854775807 < T.size + m.size := by omega
    clear hsz
    by_cases hk : k < 0 ∨ (T.size : Int) ≤ k
    · clear he hx
      by_cases hk0 : k < 0
      · clear hk
        go_enter Tryd.func5, Tryd.ntmps5
        go_wp2_with fail
        refine (alive16 _).mono ?_
        rintro e w1 ⟨rfl, hb1⟩
        go_wp2_with fail
        refine (C.out _ (HT.out.ret hb1) (HI.out.ret hb1)).mono ?_
        rintro e w2 ⟨rfl, hb2⟩
        go_wp2_with fail
        refine (I.out _).mono ?_
        rintro e w3 ⟨rfl, hb3⟩
        go_wp2_with fail
        go_ret
        exact ⟨rfl, ret_trans (ret_trans hb1 hb2) hb3⟩
      · have hk1 : (T.size : Int) ≤ k := by omega
        clear hk
        go_enter Tryd.func5, Tryd.ntmps5
        go_wp2_with fail
        refine (alive16 _).mono ?_
        rintro e w1 ⟨rfl, hb1⟩
        go_wp2_with fail
        refine (C.out _ (HT.out.ret hb1) (HI.out.ret hb1)).mono ?_
        rintro e w2 ⟨rfl, hb2⟩
        go_wp2_with fail
        refine (I.out _).mono ?_
        rintro e w3 ⟨rfl, hb3⟩
        go_wp2_with fail
        go_ret
        exact ⟨rfl, ret_trans (ret_trans hb1 hb2) hb3⟩
    · obtain ⟨j, rfl⟩ := Int.eq_ofNat_of_zero_le (by omega : 0 ≤ k)
      have hj : j < T.size := by omega
      have G := Lib.hid fun w => begun16 (T.extract 0 j) w (by rw [← size_toList, ext_data, List.length_take]; omega) (by rw [ext_data, List.drop_zero, Nat.sub_zero]; exact enc_begun he (by rw [size_toList]; exact hj))
      have hj2 : ¬ (T.size : Int) ≤ j := by omega
      clear he hx hk
      go_enter Tryd.func5, Tryd.ntmps5
      go_wp2_with fail
      refine (alive16 _).mono ?_
      rintro e w1 ⟨rfl, hb1⟩
      go_wp2_with fail
      refine (C.out _ (HT.out.ret hb1) (HI.out.ret hb1)).mono ?_
      rintro e w2 ⟨rfl, hb2⟩
      go_wp2_with fail
      refine (I.out _).mono ?_
      rintro e w3 ⟨rfl, hb3⟩
      go_wp2_with fail
      refine (G.out _).mono ?_
      rintro e w4 ⟨rfl, hb4⟩
      go_wp2_with fail
      go_ret
      exact ⟨rfl, ret_trans (ret_trans (ret_trans hb1 hb2) hb3) hb4⟩
end Go.Proofs.YtcmbmbkglglljaaDoor
