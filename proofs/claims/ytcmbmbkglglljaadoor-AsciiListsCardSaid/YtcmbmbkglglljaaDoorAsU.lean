/- Chapter 7's helpers: lists, alive; and AsciiNames: the walks. -/
import Derived.Test.YtcmbmbkglglljaaDoorAsT
namespace Go.Proofs.YtcmbmbkglglljaaDoor
open Go.RowKit

theorem bytes_of {l : List UInt8} {t : ByteArray} (h : l = t.data.toList) : (⟨l.toArray⟩ : ByteArray) = t := str_ext h
theorem lower_at (s t : ByteArray) (w : World) (hs : s.size ≤ 1000000) (h : lowL s.data.toList = t.data.toList) : Calls Tryd.prog 23 #[.string s] w (Ret w (.string t)) := by
  have := as_Lower s w hs
  rwa [bytes_of h] at this
theorem trim_at (s t : ByteArray) (w : World) (hs : s.size ≤ 1000000) (h : trm s.data.toList = t.data.toList) : Calls Tryd.prog 31 #[.string s] w (Ret w (.string t)) := by
  have := as_Trim s w hs
  rwa [bytes_of h] at this
theorem token_at (s : ByteArray) (b : Bool) (w : World) (hs : s.size ≤ 1000000) (h : tok s.data.toList = b) : Calls Tryd.prog 22 #[.string s] w (Ret w (.bool b)) := h ▸ as_Token s w hs
theorem plain_at (s : ByteArray) (b : Bool) (w : World) (hs : s.size ≤ 1000000) (h : pln s.data.toList = b) : Calls Tryd.prog 26 #[.string s] w (Ret w (.bool b)) := h ▸ as_Plain s w hs
theorem same_at (s t : ByteArray) (b : Bool) (w : World) (hs : s.size ≤ 1000000) (ht : t.size ≤ 1000000) (h : decide (lowL s.data.toList = lowL t.data.toList) = b) : Calls Tryd.prog 27 #[.string s, .string t] w (Ret w (.bool b)) := h ▸ as_Same s t w hs ht
/-- List, its answer named. -/
theorem list_at (s : ByteArray) (E : Int) (V : List (List UInt8)) (w : World) (hs : s.size ≤ 1000000) (hE : lstE s.data.toList = E) (hV : lstV s.data.toList = V) :
    Calls Tryd.prog 21 #[.string s] w fun e w' => ∃ v, e = .returned (.tuple #[v, .int .i64 E]) ∧ IsVals v (strV V) w' ∧ Below w.heap.size w w' := by
  have := as_List s w hs
  unfold LstIs at this
  rwa [hE, hV] at this
theorem lists07 (s : ByteArray) (v : Value) (ws : List (List UInt8)) (b : Bool) (w : World) (hs : s.size ≤ 900000) (hv : IsVals v (strV ws) w) (h : (decide (lstE s.data.toList = 0) && decide (lstV s.data.toList = ws)) = b) :
    Calls Tryd.prog 24 #[.string s, v] w (Ret w (.bool b)) := by
  have hl := lstV_bound s.data.toList
  rw [size_toList] at hl
  obtain ⟨E, hE⟩ : ∃ x, lstE s.data.toList = x := ⟨_, rfl⟩
  obtain ⟨V, hV⟩ : ∃ x, lstV s.data.toList = x := ⟨_, rfl⟩
  have C1 := Lib.hid fun w => list_at s E V w (by omega) hE hV
  rw [hV] at hl
  rw [hE, hV] at h
  have HL := Lib.hid hl
  have HV := Lib.hid hv
  clear hE hV hl hv
  by_cases h0 : E = 0
  · subst h0
    rw [decide_eq_true rfl, Bool.true_and] at h
    have HB := Lib.hid h
    clear h
    go_enter Tryd.func24, Tryd.ntmps24
    go_wp2_with fail
    refine (C1.out _).mono ?_
    rintro e w1 ⟨va, rfl, iv, hb1⟩
    have IV := Lib.hid iv
    clear iv
    go_wp2_with fail
    have hl := HL.out
    refine (r4_Same va v V ws w1 IV.out (HV.out.ret hb1) (by omega)).mono ?_
    rintro e w2 ⟨rfl, hb2⟩
    rw [HB.out]
    clear hl
    go_wp2_with fail
    go_ret
    exact ⟨rfl, ret_thru hb1 hb2⟩
  · rw [decide_eq_false h0, Bool.false_and] at h
    subst h
    go_enter Tryd.func24, Tryd.ntmps24
    go_wp2_with fail
    refine (C1.out _).mono ?_
    rintro e w1 ⟨va, rfl, _, hb1⟩
    go_wp2_with fail
    go_ret
    exact ⟨ret_b (by first | rfl | simp), hb1⟩
theorem two_vals (w : World) (x y : List UInt8) : IsVals (.slice (some ⟨w.heap.size, 0, none⟩) 2 2) (strV [x, y]) (w.alloc (.cells #[.string ⟨x.toArray⟩, .string ⟨y.toArray⟩] 9)) := by
  refine ⟨some ⟨w.heap.size, 0, none⟩, 2, rfl, (fun h => by cases h), .inr ⟨w.heap.size, 0, rfl, by simp, fun j hj => ?_⟩⟩
  simp [strV] at hj
  rw [Nat.zero_add, World.cell?_alloc_new]
  match j, hj with
  | 0, _ => rfl
  | 1, _ => rfl
set_option maxHeartbeats 4000000 in
set_option maxRecDepth 100000 in
theorem alive07 (w : World) : Calls Tryd.prog 20 #[] w (Ret w (.bool true)) := by
  have C1 := Lib.hid fun w => lower_at ⟨#[75, 101, 101, 112, 45, 65, 76, 73, 86, 69]⟩ ⟨#[107, 101, 101, 112, 45, 97, 108, 105, 118, 101]⟩ w (by decide) (by decide +kernel)
  have C2 := Lib.hid fun w => trim_at ⟨#[32, 9, 120, 32]⟩ ⟨#[120]⟩ w (by decide) (by decide +kernel)
  have C3 := Lib.hid fun v w hv => lists07 ⟨#[99, 108, 111, 115, 101, 44, 32, 44, 32, 85, 112, 103, 114, 97, 100, 101]⟩ v [[99, 108, 111, 115, 101], [117, 112, 103, 114, 97, 100, 101]] true w (by decide) hv (by decide +kernel)
  have C4 := Lib.hid fun w => token_at ⟨#[97]⟩ true w (by decide) (by decide +kernel)
  have C5 := Lib.hid fun w => plain_at ⟨#[97, 32, 98]⟩ true w (by decide) (by decide +kernel)
  go_enter Tryd.func20, Tryd.ntmps20
  go_wp2_with fail
  refine (C1.out _).mono ?_
  rintro e w1 ⟨rfl, hb1⟩
  go_wp2_with fail
  refine (C2.out _).mono ?_
  rintro e w2 ⟨rfl, hb2⟩
  have q2 := ret_thru hb1 hb2
  go_wp2_with fail
  refine (C3.out _ _ (two_vals w2 _ _)).mono ?_
  rintro e w3 ⟨rfl, hb3⟩
  have q3 : Below w.heap.size w w3 := (q2.alloc q2.size _).trans (hb3.mono (by have := q2.size; simp; omega))
  go_wp2_with fail
  refine (C4.out _).mono ?_
  rintro e w4 ⟨rfl, hb4⟩
  have q4 := ret_thru q3 hb4
  go_wp2_with fail
  refine (C5.out _).mono ?_
  rintro e w5 ⟨rfl, hb5⟩
  go_wp2_with fail
  go_ret
  exact ⟨rfl, ret_thru q4 hb5⟩
/-- AsciiNames' list: 'a', and k times ',a'. -/
def mny (k : Nat) : List UInt8 := 97 :: (List.replicate k [44, 97]).flatten
theorem mny_succ (k : Nat) : mny (k + 1) = mny k ++ [44, 97] := by
  unfold mny
  rw [List.replicate_succ', List.flatten_append]
  simp
theorem mny_len (k : Nat) : (mny k).length = 1 + 2 * k := by
  induction k with
  | zero => rfl
  | succ k ih => rw [mny_succ, List.length_append, ih]; simp; omega
end Go.Proofs.YtcmbmbkglglljaaDoor
