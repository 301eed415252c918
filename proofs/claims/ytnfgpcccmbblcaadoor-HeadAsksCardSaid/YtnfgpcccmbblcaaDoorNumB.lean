/- The document's own numbers (tidewaiterref06): Digits, value, Read, Signed. -/
import Derived.Test.YtnfgpcccmbblcaaDoorRows
import Derived.Test.YtnfgpcccmbblcaaDoorStr
import Derived.Test.YtnfgpcccmbblcaaDoorNumG
import Derived.Lib.ItoaLen
namespace Go.Proofs.YtnfgpcccmbblcaaDoor
open Go.RowKit

/-- 'string([]byte{c})'. -/
theorem conv_one {P : Program} (w : World) (src dst e : TypeId) (c : UInt8) (v : Int) (hv : v = (c.toNat : Int)) (hs : P.underlying src = some (.slice e)) (he : P.underlying e = some (.int .u8)) (hd : P.underlying dst = some .string) :
    (convert src dst (.slice (some ⟨w.heap.size, 0, none⟩) 1 1)).run P (w.alloc (.cells #[.int .u8 v] e)) = .ok (.string ⟨#[c]⟩) (w.alloc (.cells #[.int .u8 v] e)) :=
  run_convert_bytes_back (P := P) (w.alloc (.cells #[.int .u8 v] e)) src dst e ⟨w.heap.size, 0, none⟩ 1 [c] hs he hd (fun j hj => by
    obtain rfl : j = 0 := by simp at hj; omega
    subst hv
    simp [Addr.add])
theorem dig_cast {i : Nat} (h : i < 10) : (48 + (i : Int)) = ((UInt8.ofNat (48 + i)).toNat : Int) := by
  rw [dig_toNat h]
  omega

set_option maxRecDepth 100000 in
set_option maxHeartbeats 2000000 in
/-- Digits: the decimal digits. -/
theorem ref06_Digits (n : Nat) (hn : n ≤ 9223372036854775807) (w : World) : Calls Tryd.prog 100 #[.int .i64 n] w (Ret w (.string ⟨(Lib.decDigits n).toArray⟩)) := by
  go_enter Tryd.func100, Tryd.ntmps100
  go_wp2_with fail
  go_loopw [0, 3] (fun i s wr => ∃ (m : Nat) (t : ByteArray), m ≤ n ∧ i = .int .i64 m ∧ s = .string t ∧ Lib.decDigits n = Lib.decDigits m ++ t.data.toList ∧ Below w.heap.size w wr) (fun i _ _ => (intOf i).toNat)
  case atStart => exact ⟨n, ⟨#[]⟩, Nat.le_refl _, rfl, rfl, by simp, by go_grown⟩
  case round =>
    obtain ⟨m, t, hm, rfl, rfl, hd, hBw⟩ := hrel
    have hlen : t.size ≤ 20 := by
      have h1 := congrArg List.length hd
      rw [List.length_append, size_toList, Lib.decDigits_length] at h1
      have := Lib.nDigits_le20 n (by omega)
      omega
    have HD := Lib.hid hd
    clear hd
    have hsz := hBw.size
    by_cases h9 : 9 < m
    · obtain ⟨c, ec⟩ : ∃ c, UInt8.ofNat (48 + m % 10) = c := ⟨_, rfl⟩
      have hc : 48 + (m : Int) % 10 = (c.toNat : Int) := by rw [← ec]; have := dig_cast (i := m % 10) (by omega); omega
      have hcv := conv_one (P := Tryd.prog) wr 50 9 5 c (48 + (m : Int) % 10) hc Tryd.underlying50 Tryd.underlying5 Tryd.underlying9
      have EC := Lib.hid ec
      clear ec hc
      go_wp2
      go_roundw
      case rel => exact ⟨m / 10, ⟨#[c]⟩ ++ t, by omega, by go_num, rfl, by rw [HD.out, decDigits_big (by omega), EC.out]; simp, by go_grown⟩
      case measure => simp [intOf]; omega
    · obtain ⟨c, ec⟩ : ∃ c, UInt8.ofNat (48 + m) = c := ⟨_, rfl⟩
      have hc : 48 + (m : Int) = (c.toNat : Int) := by rw [← ec]; exact dig_cast (by omega)
      have hcv := conv_one (P := Tryd.prog) wr 50 9 5 c (48 + (m : Int)) hc Tryd.underlying50 Tryd.underlying5 Tryd.underlying9
      have EC := Lib.hid ec
      clear ec hc
      go_wp2
      go_ret
      refine ⟨?_, by go_grown⟩
      have h1 := HD.out
      have h2 : Lib.decDigits m = [UInt8.ofNat (48 + m)] := Lib.decDigits_one (by omega)
      rw [h2, EC.out] at h1
      rw [h1]
      rfl
theorem str_append (l1 l2 : List UInt8) : (⟨l1.toArray⟩ : ByteArray) ++ ⟨l2.toArray⟩ = ⟨(l1 ++ l2).toArray⟩ := by
  apply ByteArray.ext
  simp
end Go.Proofs.YtnfgpcccmbblcaaDoor
