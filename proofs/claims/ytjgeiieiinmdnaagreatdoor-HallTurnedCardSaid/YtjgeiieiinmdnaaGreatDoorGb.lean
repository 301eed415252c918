/- AsA, AsB, AsC, AsD, AsE, AsG, AsH, AsI: put together by mergetpl.py. -/
import Derived.Test.YtjgeiieiinmdnaaGreatDoorGa
import Derived.Deep.QuietTactic
import Derived.BigQuiet
import Derived.IntWalk
import Derived.Laws.BitsLemmas
import Derived.Deep.WholeRow
import Derived.Laws.ResultCell
import Derived.Laws.RangeString
namespace Go.Proofs.YtjgeiieiinmdnaaGreatDoor
open Go.RowKit

end Go.Proofs.YtjgeiieiinmdnaaGreatDoor
namespace Go.Proofs.YtjgeiieiinmdnaaGreatDoor
open Go.RowKit

end Go.Proofs.YtjgeiieiinmdnaaGreatDoor
namespace Go.Proofs.YtjgeiieiinmdnaaGreatDoor
open Go.RowKit

end Go.Proofs.YtjgeiieiinmdnaaGreatDoor
namespace Go.Proofs.YtjgeiieiinmdnaaGreatDoor
open Go.RowKit

end Go.Proofs.YtjgeiieiinmdnaaGreatDoor
namespace Go.Proofs.YtjgeiieiinmdnaaGreatDoor
open Go.RowKit

theorem below_drewN (w : World) (n : Nat) : Below w.heap.size w (w.drewN n) := ⟨rfl, rfl, rfl, Nat.le_refl _, fun _ _ => rfl⟩
theorem beq_str (X Y : ByteArray) (x y : List UInt8) (hx : X.data.toList = x) (hy : Y.data.toList = y) : (X.toList == Y.toList) = decide (x = y) := by
 rw [Lib.toList_data, Lib.toList_data, hx, hy, eqb_list]
set_option maxHeartbeats 4000000 in
theorem r4_Same (va vb : Value) (xs ys : List (List UInt8)) (w : World) (ha : IsVals va (strV xs) w) (hb : IsVals vb (strV ys) w) (hl : xs.length ≤ 1000000) :
  Calls Tryz.prog 21 #[va, vb] w (Ret w (.bool (decide (xs = ys)))) := by
 obtain ⟨a, ca, rfl, _, ha⟩ := ha
 obtain ⟨b, cb, rfl, _, hb⟩ := hb
 rw [strV_len, strV_len]
 by_cases hlen : xs.length = ys.length
 rotate_left
 ·have h1 : ((xs.length : Int) != (ys.length : Int)) = true := by rw [bne_iff_ne]; omega
  have h2 : (xs.length != ys.length) = true := by rw [bne_iff_ne]; exact hlen
  have hne : decide (xs = ys) = false := by rw [decide_eq_false_iff_not]; intro e; exact hlen (by rw [e])
  rw [hne]
  generalize xs.length = n at *
  generalize ys.length = m at *
  clear ha hb hne hlen
  go_enter Tryz.func21, Tryz.ntmps21
  go_wp2_with fail
  go_ret
  exact ⟨rfl, Below.refl _ _⟩
 ·have HA := Lib.hid ha
  have HB := Lib.hid hb
  have HL := Lib.hid hlen
  rw [← hlen]
  obtain ⟨n, hn⟩ : ∃ n, xs.length = n := ⟨_, rfl⟩
  have HN := Lib.hid hn
  rw [hn] at hl ⊢
  clear ha hb hlen hn
  go_enter Tryz.func21, Tryz.ntmps21
  go_wp2_with fail
  go_loopw [5] (fun i wr => ∃ k : Nat, k ≤ n ∧ i = .int .i64 k ∧ (∀ j, j < k → xs[j]? = ys[j]?) ∧ Below w.heap.size w wr) (fun i _ => n - (intOf i).toNat)
  case atStart => exact ⟨0, Nat.zero_le _, rfl, (fun j h => by omega), Below.refl _ _⟩
  case round =>
   obtain ⟨k, hk, rfl, heq, hBw⟩ := hrel
   have HE := Lib.hid heq
   clear heq
   by_cases hlt : k < n
   ·have hx : k < xs.length := by have := HN.out; omega
    have hy : k < ys.length := by have := HL.out; omega
    rcases HA.out with h | ⟨b1, o1, rfl, h1⟩
    ·have := congrArg List.length h
     rw [strV_len] at this
     simp only [List.length_nil] at this
     omega
    rcases HB.out with h | ⟨b2, o2, rfl, h2⟩
    ·have := congrArg List.length h
     rw [strV_len] at this
     simp only [List.length_nil] at this
     omega
    have c1 := (h1.ret hBw).2 k (by rw [strV_len]; exact hx)
    have c2 := (h2.ret hBw).2 k (by rw [strV_len]; exact hy)
    obtain ⟨X, hX⟩ : ∃ X : ByteArray, ⟨(xs[k]).toArray⟩ = X := ⟨_, rfl⟩
    obtain ⟨Y, hY⟩ : ∃ Y : ByteArray, ⟨(ys[k]).toArray⟩ = Y := ⟨_, rfl⟩
    rw [show (strV xs)[k]'(by rw [strV_len]; exact hx) = .string X by rw [← hX]; simp [strV]] at c1
    rw [show (strV ys)[k]'(by rw [strV_len]; exact hy) = .string Y by rw [← hY]; simp [strV]] at c2
    have hq := beq_str X Y xs[k] ys[k] (by rw [← hX]) (by rw [← hY])
    by_cases hxy : xs[k] = ys[k]
    ·rw [decide_eq_true hxy] at hq
     have hq2 : (X.toList != Y.toList) = false := by unfold bne; rw [hq]; rfl
     have hnew : ∀ j, j < k + 1 → xs[j]? = ys[j]? := by
      intro j hj
      by_cases hjk : j < k
      ·exact HE.out j hjk
      ·obtain rfl : j = k := by omega
       rw [List.getElem?_eq_getElem hx, List.getElem?_eq_getElem hy, hxy]
     have HNW := Lib.hid hnew
     clear hxy hnew hX hY h1 h2
     go_wp2_with fail
     go_quiet (fail)
     go_wp2_with fail
     go_roundw
     case rel => exact ⟨k + 1, by omega, by go_num, HNW.out, hBw.trans (⟨rfl, rfl, rfl, Nat.le_refl _, fun _ _ => rfl⟩)⟩
     case measure => simp [intOf]; omega
    ·rw [decide_eq_false hxy] at hq
     have hq2 : (X.toList != Y.toList) = true := by unfold bne; rw [hq]; rfl
     have hne : decide (xs = ys) = false := by
      rw [decide_eq_false_iff_not]
      intro e
      apply hxy
      simp only [e]
     have HNE := Lib.hid hne
     clear hxy hX hY h1 h2 hne
     go_wp2_with fail
     go_quiet (fail)
     go_wp2_with fail
     go_ret
     rw [HNE.out]
     exact ⟨rfl, hBw.trans (⟨rfl, rfl, rfl, Nat.le_refl _, fun _ _ => rfl⟩)⟩
   ·obtain rfl : k = n := by omega
    have he : decide (xs = ys) = true := by
     rw [decide_eq_true_eq]
     apply List.ext_getElem?
     intro j
     by_cases hj : j < k
     ·exact HE.out j hj
     ·rw [List.getElem?_eq_none (by have := HN.out; omega), List.getElem?_eq_none (by have := HN.out; have := HL.out; omega)]
    have HE2 := Lib.hid he
    clear he
    go_wp2_with fail
    go_ret
    rw [HE2.out]
    exact ⟨rfl, hBw⟩
end Go.Proofs.YtjgeiieiinmdnaaGreatDoor
namespace Go.Proofs.YtjgeiieiinmdnaaGreatDoor
open Go.RowKit

theorem or32' : ∀ n : Fin 256, 65 ≤ n.val → n.val ≤ 90 → bits .or .u8 (n.val : Int) 32 = ((loB (UInt8.ofNat n.val)).toNat : Int) := by decide +kernel
theorem or32 (c : UInt8) (h : 65 ≤ c.toNat) (h' : c.toNat ≤ 90) : bits .or .u8 (c.toNat : Int) 32 = ((loB c).toNat : Int) := by
 have := or32' ⟨c.toNat, c.toNat_lt⟩ h h'
 simpa using this
theorem mark_frozen (w : World) (D : Array Value) (t : TypeId) (n : Nat) (j : Nat) (h : j < n) : (w.alloc (.cells D t (n, n + 1))).frozen? ⟨w.heap.size, j, none⟩ = false := by
 unfold World.frozen? World.alloc
 simp
 omega
theorem mark_set (w : World) (D : Array Value) (t : TypeId) (fr : Nat × Nat) (j : Nat) (v : Value) : (w.alloc (.cells D t fr)).setCell ⟨w.heap.size, j, none⟩ v = w.alloc (.cells (D.setIfInBounds j v) t fr) := by
 simp only [World.setCell, World.alloc]
 congr 1
 apply Array.ext_getElem?
 intro i
 rw [Array.getElem?_modify]
 by_cases h : w.heap.size = i
 ·subst h
  simp
 ·have h' : ¬ i = w.heap.size := fun e => h e.symm
  simp [h, h', Array.getElem?_push]
set_option maxHeartbeats 4000000 in
theorem as_Lower (s : ByteArray) (w : World) (hs : s.size ≤ 1000000) : Calls Tryz.prog 171 #[.string s] w (Ret w (.string ⟨(lowL s.data.toList).toArray⟩)) := by
 obtain ⟨cap, C, hC, hCs, hcv⟩ := str_bytes (P := Tryz.prog) w 9 194 5 s Tryz.underlying9 Tryz.underlying194 Tryz.underlying5
 have HC := Lib.hid hC
 obtain ⟨N, hN⟩ : ∃ N, C.size = N := ⟨_, rfl⟩
 have HNN := Lib.hid hN
 rw [hN] at hcv hCs
 clear hC hN
 go_enter Tryz.func171, Tryz.ntmps171
 go_wp2_with fail
 go_loopw [10] (fun i wr => ∃ (k : Nat) (D : Array Value), k ≤ s.size ∧ i = .int .i64 k ∧ D.size = N ∧ (∀ j (h : j < s.size), D[j]? = some (.int .u8 ((if j < k then loB s[j] else s[j]).toNat : Int))) ∧ wr = (w.alloc (.cells D 5 (N, N + 1))).drew) (fun i _ => s.size - (intOf i).toNat)
 case atStart => exact ⟨0, C, Nat.zero_le _, rfl, HNN.out, fun j h => by rw [HC.out j h]; rfl, rfl⟩
 case round =>
  obtain ⟨k, D, hk, rfl, hDs, hD, rfl⟩ := hrel
  by_cases hlt : k < s.size
  ·have hDk := hD k hlt
   rw [if_neg (Nat.lt_irrefl k)] at hDk
   have hcell : ((w.alloc (.cells D 5 (N, N + 1))).drew).cell? ⟨w.heap.size, k, none⟩ = some (.int .u8 (s[k].toNat : Int)) := (World.cell?_alloc_mark w D _ _ k).trans hDk
   have hfr : ((w.alloc (.cells D 5 (N, N + 1))).drew).frozen? ⟨w.heap.size, k, none⟩ = false := mark_frozen w D _ N k (by omega)
   have hb : (s[k].toNat : Int) ≤ 255 := by have := s[k].toNat_lt; omega
   have HD := Lib.hid hD
   have HDS := Lib.hid hDs
   clear hD hDk hDs
   by_cases hc : 65 ≤ s[k].toNat ∧ s[k].toNat ≤ 90
   ·have hor := or32 s[k] hc.1 hc.2
    have g1 : (65 : Int) ≤ s[k].toNat := by omega
    have g2 : (s[k].toNat : Int) ≤ 90 := by omega
    clear hc
    go_wp2_with fail
    go_roundw
    case rel =>
     refine ⟨k + 1, D.setIfInBounds k (.int .u8 ((loB s[k]).toNat : Int)), by omega, by go_num, by rw [Array.size_setIfInBounds, HDS.out], fun j h => ?_, ?_⟩
     ·rw [Array.getElem?_setIfInBounds]
      by_cases hj : k = j
      ·subst hj
       rw [if_pos rfl, if_pos (by rw [HDS.out]; omega), if_pos (by omega)]
      ·rw [if_neg hj, HD.out j h]
       by_cases hjk : j < k
       ·rw [if_pos hjk, if_pos (by omega)]
       ·rw [if_neg hjk, if_neg (by omega)]
     ·rw [mark_set]
    case measure => simp [intOf]; omega
   ·have hlo := loB_lo hc
    have HLO := Lib.hid hlo
    have g1 : (s[k].toNat : Int) < 65 ∨ 90 < (s[k].toNat : Int) := by omega
    clear hc hlo
    rcases g1 with g1 | g1
    ·have g2 : ¬ (65 : Int) ≤ s[k].toNat := by omega
     go_wp2_with fail
     go_roundw
     case rel =>
      refine ⟨k + 1, D, by omega, by go_num, HDS.out, fun j h => ?_, rfl⟩
      rw [HD.out j h]
      by_cases hjk : j < k
      ·rw [if_pos hjk, if_pos (by omega)]
      ·by_cases hj : j = k
       ·subst hj
        rw [if_neg hjk, if_pos (by omega), HLO.out]
       ·rw [if_neg hjk, if_neg (by omega)]
     case measure => simp [intOf]; omega
    ·have g2 : (65 : Int) ≤ s[k].toNat := by omega
     have g3 : ¬ (s[k].toNat : Int) ≤ 90 := by omega
     go_wp2_with fail
     go_roundw
     case rel =>
      refine ⟨k + 1, D, by omega, by go_num, HDS.out, fun j h => ?_, rfl⟩
      rw [HD.out j h]
      by_cases hjk : j < k
      ·rw [if_pos hjk, if_pos (by omega)]
      ·by_cases hj : j = k
       ·subst hj
        rw [if_neg hjk, if_pos (by omega), HLO.out]
       ·rw [if_neg hjk, if_neg (by omega)]
     case measure => simp [intOf]; omega
  ·obtain rfl : k = s.size := by omega
   have hconv : (convert 194 9 (.slice (some ⟨w.heap.size, 0, none⟩) s.size cap)).run Tryz.prog ((w.alloc (.cells D 5 (N, N + 1))).drew) = .ok (.string ⟨(lowL s.data.toList).toArray⟩) ((w.alloc (.cells D 5 (N, N + 1))).drew) := by
    have h := run_convert_bytes_back (P := Tryz.prog) ((w.alloc (.cells D 5 (N, N + 1))).drew) 194 9 5 ⟨w.heap.size, 0, none⟩ cap (lowL s.data.toList) Tryz.underlying194 Tryz.underlying5 Tryz.underlying9 (fun j hj => by
     rw [lowL_len, size_toList] at hj
     rw [add_zero_plain]
     refine ((World.cell?_alloc_mark w D _ _ j).trans (hD j hj)).trans ?_
     rw [if_pos hj]
     simp [lowL]
     rfl)
    rw [lowL_len, size_toList] at h
    exact h
   obtain ⟨l, hl⟩ : ∃ l, lowL s.data.toList = l := ⟨_, rfl⟩
   rw [hl] at hconv
   have HL := Lib.hid hl
   clear hD hDs hl
   go_wp2_with fail
   go_ret
   rw [HL.out]
   exact ⟨rfl, by go_grown⟩
end Go.Proofs.YtjgeiieiinmdnaaGreatDoor
namespace Go.Proofs.YtjgeiieiinmdnaaGreatDoor
open Go.RowKit

end Go.Proofs.YtjgeiieiinmdnaaGreatDoor
namespace Go.Proofs.YtjgeiieiinmdnaaGreatDoor
open Go.RowKit

end Go.Proofs.YtjgeiieiinmdnaaGreatDoor
