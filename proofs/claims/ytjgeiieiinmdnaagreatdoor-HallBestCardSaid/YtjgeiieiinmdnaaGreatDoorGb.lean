/- AsA, AsB, AsC, AsD, AsE, AsG, AsH, AsI: put together by mergetpl.py. -/
import Derived.Test.YtjgeiieiinmdnaaGreatDoorGa
import Derived.Deep.QuietTactic
import Derived.BigQuiet
import Derived.IntWalk
import Derived.Laws.BitsLemmas
import Derived.Deep.WholeRow
import Derived.Laws.ResultCell
import Derived.Laws.RangeString
namespace Go.Proofs.YtjgeiieiinmdnaaGreatDoor
open Go.RowKit

end Go.Proofs.YtjgeiieiinmdnaaGreatDoor
namespace Go.Proofs.YtjgeiieiinmdnaaGreatDoor
open Go.RowKit

end Go.Proofs.YtjgeiieiinmdnaaGreatDoor
namespace Go.Proofs.YtjgeiieiinmdnaaGreatDoor
open Go.RowKit

end Go.Proofs.YtjgeiieiinmdnaaGreatDoor
namespace Go.Proofs.YtjgeiieiinmdnaaGreatDoor
open Go.RowKit

/-- A list of texts of the call's own. -/
abbrev OwnS (B : Nat) (v : Value) (xs : List (List UInt8)) (w : World) : Prop := w.ownsRow B 9 1 v xs.length (strV xs)
end Go.Proofs.YtjgeiieiinmdnaaGreatDoor
namespace Go.Proofs.YtjgeiieiinmdnaaGreatDoor
open Go.RowKit

theorem below_drewN (w : World) (n : Nat) : Below w.heap.size w (w.drewN n) := ⟨rfl, rfl, rfl, Nat.le_refl _, fun _ _ => rfl⟩
/-- What becomes of a list's parts. -/
def lstG (ps : List (List UInt8)) : List (List UInt8) := ((ps.map trm).filter fun x => !x.isEmpty).map lowL
/-- What List answers. -/
def LstIs (l : List UInt8) (w : World) (e : Ending) (w' : World) : Prop := ∃ v, e = .returned (.tuple #[v, .int .i64 (lstE l)]) ∧ IsVals v (strV (lstV l)) w' ∧ Below w.heap.size w w'
end Go.Proofs.YtjgeiieiinmdnaaGreatDoor
namespace Go.Proofs.YtjgeiieiinmdnaaGreatDoor
open Go.RowKit

theorem or32' : ∀ n : Fin 256, 65 ≤ n.val → n.val ≤ 90 → bits .or .u8 (n.val : Int) 32 = ((loB (UInt8.ofNat n.val)).toNat : Int) := by decide +kernel
theorem or32 (c : UInt8) (h : 65 ≤ c.toNat) (h' : c.toNat ≤ 90) : bits .or .u8 (c.toNat : Int) 32 = ((loB c).toNat : Int) := by
 have := or32' ⟨c.toNat, c.toNat_lt⟩ h h'
 simpa using this
theorem mark_frozen (w : World) (D : Array Value) (t : TypeId) (n : Nat) (j : Nat) (h : j < n) : (w.alloc (.cells D t (n, n + 1))).frozen? ⟨w.heap.size, j, none⟩ = false := by
 unfold World.frozen? World.alloc
 simp
 omega
theorem mark_set (w : World) (D : Array Value) (t : TypeId) (fr : Nat × Nat) (j : Nat) (v : Value) : (w.alloc (.cells D t fr)).setCell ⟨w.heap.size, j, none⟩ v = w.alloc (.cells (D.setIfInBounds j v) t fr) := by
 simp only [World.setCell, World.alloc]
 congr 1
 apply Array.ext_getElem?
 intro i
 rw [Array.getElem?_modify]
 by_cases h : w.heap.size = i
 ·subst h
  simp
 ·have h' : ¬ i = w.heap.size := fun e => h e.symm
  simp [h, h', Array.getElem?_push]
set_option maxHeartbeats 4000000 in
theorem as_Lower (s : ByteArray) (w : World) (hs : s.size ≤ 1000000) : Calls Tryz.prog 171 #[.string s] w (Ret w (.string ⟨(lowL s.data.toList).toArray⟩)) := by
 obtain ⟨cap, C, hC, hCs, hcv⟩ := str_bytes (P := Tryz.prog) w 9 194 5 s Tryz.underlying9 Tryz.underlying194 Tryz.underlying5
 have HC := Lib.hid hC
 obtain ⟨N, hN⟩ : ∃ N, C.size = N := ⟨_, rfl⟩
 have HNN := Lib.hid hN
 rw [hN] at hcv hCs
 clear hC hN
 go_enter Tryz.func171, Tryz.ntmps171
 go_wp2_with fail
 go_loopw [10] (fun i wr => ∃ (k : Nat) (D : Array Value), k ≤ s.size ∧ i = .int .i64 k ∧ D.size = N ∧ (∀ j (h : j < s.size), D[j]? = some (.int .u8 ((if j < k then loB s[j] else s[j]).toNat : Int))) ∧ wr = (w.alloc (.cells D 5 (N, N + 1))).drew) (fun i _ => s.size - (intOf i).toNat)
 case atStart => exact ⟨0, C, Nat.zero_le _, rfl, HNN.out, fun j h => by rw [HC.out j h]; rfl, rfl⟩
 case round =>
  obtain ⟨k, D, hk, rfl, hDs, hD, rfl⟩ := hrel
  by_cases hlt : k < s.size
  ·have hDk := hD k hlt
   rw [if_neg (Nat.lt_irrefl k)] at hDk
   have hcell : ((w.alloc (.cells D 5 (N, N + 1))).drew).cell? ⟨w.heap.size, k, none⟩ = some (.int .u8 (s[k].toNat : Int)) := (World.cell?_alloc_mark w D _ _ k).trans hDk
   have hfr : ((w.alloc (.cells D 5 (N, N + 1))).drew).frozen? ⟨w.heap.size, k, none⟩ = false := mark_frozen w D _ N k (by omega)
   have hb : (s[k].toNat : Int) ≤ 255 := by have := s[k].toNat_lt; omega
   have HD := Lib.hid hD
   have HDS := Lib.hid hDs
   clear hD hDk hDs
   by_cases hc : 65 ≤ s[k].toNat ∧ s[k].toNat ≤ 90
   ·have hor := or32 s[k] hc.1 hc.2
    have g1 : (65 : Int) ≤ s[k].toNat := by omega
    have g2 : (s[k].toNat : Int) ≤ 90 := by omega
    clear hc
    go_wp2_with fail
    go_roundw
    case rel =>
     refine ⟨k + 1, D.setIfInBounds k (.int .u8 ((loB s[k]).toNat : Int)), by omega, by go_num, by rw [Array.size_setIfInBounds, HDS.out], fun j h => ?_, ?_⟩
     ·rw [Array.getElem?_setIfInBounds]
      by_cases hj : k = j
      ·subst hj
       rw [if_pos rfl, if_pos (by rw [HDS.out]; omega), if_pos (by omega)]
      ·rw [if_neg hj, HD.out j h]
       by_cases hjk : j < k
       ·rw [if_pos hjk, if_pos (by omega)]
       ·rw [if_neg hjk, if_neg (by omega)]
     ·rw [mark_set]
    case measure => simp [intOf]; omega
   ·have hlo := loB_lo hc
    have HLO := Lib.hid hlo
    have g1 : (s[k].toNat : Int) < 65 ∨ 90 < (s[k].toNat : Int) := by omega
    clear hc hlo
    rcases g1 with g1 | g1
    ·have g2 : ¬ (65 : Int) ≤ s[k].toNat := by omega
     go_wp2_with fail
     go_roundw
     case rel =>
      refine ⟨k + 1, D, by omega, by go_num, HDS.out, fun j h => ?_, rfl⟩
      rw [HD.out j h]
      by_cases hjk : j < k
      ·rw [if_pos hjk, if_pos (by omega)]
      ·by_cases hj : j = k
       ·subst hj
        rw [if_neg hjk, if_pos (by omega), HLO.out]
       ·rw [if_neg hjk, if_neg (by omega)]
     case measure => simp [intOf]; omega
    ·have g2 : (65 : Int) ≤ s[k].toNat := by omega
     have g3 : ¬ (s[k].toNat : Int) ≤ 90 := by omega
     go_wp2_with fail
     go_roundw
     case rel =>
      refine ⟨k + 1, D, by omega, by go_num, HDS.out, fun j h => ?_, rfl⟩
      rw [HD.out j h]
      by_cases hjk : j < k
      ·rw [if_pos hjk, if_pos (by omega)]
      ·by_cases hj : j = k
       ·subst hj
        rw [if_neg hjk, if_pos (by omega), HLO.out]
       ·rw [if_neg hjk, if_neg (by omega)]
     case measure => simp [intOf]; omega
  ·obtain rfl : k = s.size := by omega
   have hconv : (convert 194 9 (.slice (some ⟨w.heap.size, 0, none⟩) s.size cap)).run Tryz.prog ((w.alloc (.cells D 5 (N, N + 1))).drew) = .ok (.string ⟨(lowL s.data.toList).toArray⟩) ((w.alloc (.cells D 5 (N, N + 1))).drew) := by
    have h := run_convert_bytes_back (P := Tryz.prog) ((w.alloc (.cells D 5 (N, N + 1))).drew) 194 9 5 ⟨w.heap.size, 0, none⟩ cap (lowL s.data.toList) Tryz.underlying194 Tryz.underlying5 Tryz.underlying9 (fun j hj => by
     rw [lowL_len, size_toList] at hj
     rw [add_zero_plain]
     refine ((World.cell?_alloc_mark w D _ _ j).trans (hD j hj)).trans ?_
     rw [if_pos hj]
     simp [lowL]
     rfl)
    rw [lowL_len, size_toList] at h
    exact h
   obtain ⟨l, hl⟩ : ∃ l, lowL s.data.toList = l := ⟨_, rfl⟩
   rw [hl] at hconv
   have HL := Lib.hid hl
   clear hD hDs hl
   go_wp2_with fail
   go_ret
   rw [HL.out]
   exact ⟨rfl, by go_grown⟩
end Go.Proofs.YtjgeiieiinmdnaaGreatDoor
namespace Go.Proofs.YtjgeiieiinmdnaaGreatDoor
open Go.RowKit

def kindS : ByteArray := ⟨#[33, 35, 36, 37, 38, 39, 42, 43, 45, 46, 94, 95, 96, 124, 126, 48, 49, 50, 51, 52, 53, 54, 55, 56, 57, 97, 98, 99, 100, 101, 102, 103, 104, 105, 106, 107, 108, 109, 110, 111, 112, 113, 114, 115, 116, 117, 118, 119, 120, 121, 122, 65, 66, 67, 68, 69, 70, 71, 72, 73, 74, 75, 76, 77, 78, 79, 80, 81, 82, 83, 84, 85, 86, 87, 88, 89, 90]⟩
/-- The array behind these bytes. -/
def kndA (l : List UInt8) : Array Value := l.foldl (fun a c => a.setIfInBounds c.toNat (.bool true)) (Array.replicate 128 (.bool false))
end Go.Proofs.YtjgeiieiinmdnaaGreatDoor
namespace Go.Proofs.YtjgeiieiinmdnaaGreatDoor
open Go.RowKit

end Go.Proofs.YtjgeiieiinmdnaaGreatDoor
