/- strconv.FormatInt at base 16, of a number of at most four digits. -/
import Derived.Test.YthgmgmbjjjnhnaaGreatDoorGl
import Derived.Test.YthgmgmbjjjnhnaaGreatDoorGa
import Derived.Test.YthgmgmbjjjnhnaaGreatDoorGa
import Derived.Test.YthgmgmbjjjnhnaaGreatDoorRows
import Derived.IntWalk
import Derived.Laws.BitsLemmas
import Derived.Laws.Bits64
import Derived.Laws.IdiomStrings
namespace Go.Proofs.YthgmgmbjjjnhnaaGreatDoor
open Go.RowKit

/-- The cell of bits' table that base 16 reads. -/
def TabZ (w : World) : Prop := w.cell? ⟨3, 15, none⟩ = some (.int .u8 4)
theorem TabZ.lt {w : World} (h : TabZ w) : 3 < w.heap.size := by
  rcases Nat.lt_or_ge 3 w.heap.size with h2 | h2
  · exact h2
  · unfold TabZ World.cell? at h
    simp [Array.getElem?_eq_none h2] at h
theorem TabZ.ret {w w' : World} (h : TabZ w) (hb : Below w.heap.size w w') : TabZ w' := ((bcell hb).1 _ _ h.lt).trans h

set_option maxHeartbeats 1000000 in
theorem tz64 (w : World) (h : w.cell? ⟨3, 15, none⟩ = some (.int .u8 4)) : Calls Tryz.prog 180 #[.int .u64 16] w fun e w' => e = .returned (.int .i64 4) ∧ w' = w := by
  have e1 : bits BinOp.and IntKind.u64 16 (IntKind.u64.wrap (-16)) = 16 := by decide +kernel
  have e2 : IntKind.u64.wrap (16 * 285870213051353865) = 4573923408821661840 := by decide +kernel
  go_enter Tryz.func180, Tryz.ntmps180
  go_wp2_with fail
  go_ret
  exact ⟨rfl, rfl⟩
theorem tz (w : World) (h : TabZ w) : Calls Tryz.prog 157 #[.int .u64 16] w fun e w' => e = .returned (.int .i64 4) ∧ w' = w := by
  go_enter Tryz.func157, Tryz.ntmps157
  go_wp2_with fail
  refine (tz64 _ h).mono ?_
  rintro e w1 ⟨rfl, rfl⟩
  go_wp2_with fail
  go_ret
  exact ⟨rfl, rfl⟩
theorem pow16 (w : World) : Calls Tryz.prog 156 #[.int .i64 16] w fun e w' => e = .returned (.bool true) ∧ w' = w := by
  go_enter Tryz.func156, Tryz.ntmps156
  go_wp2_with fail
  go_ret
  exact ⟨rfl, rfl⟩
/-- The array of digits: these at its end. -/
def fbArr (ds : List UInt8) : Array Value := (List.replicate (65 - ds.length) (Value.int .u8 0) ++ ds.map fun c => Value.int .u8 c.toNat).toArray
theorem wrap63 (n : Int) (h₀ : 0 ≤ n) (h₁ : n < 2 ^ 63) : IntKind.u64.wrap n = n := by rw [IntKind.wrap_u64]; omega
theorem mask15 (m : Nat) (h : m < 65536) : bits .and .u64 (m : Int) 15 = ((m % 16 : Nat) : Int) := by
  have h := bits_mask .u64 63 (by decide) wrap63 4 (by decide) (m : Int) (by omega) (by omega)
  have e : ((2 : Int) ^ 4 - 1) = 15 := by decide
  have e2 : ((2 : Int) ^ 4) = 16 := by decide
  rw [e, e2] at h
  rw [h]
  omega
theorem dgs' : ∀ d : Fin 16, (ByteArray.mk #[48, 49, 50, 51, 52, 53, 54, 55, 56, 57, 97, 98, 99, 100, 101, 102, 103, 104, 105, 106, 107, 108, 109, 110, 111, 112, 113, 114, 115, 116, 117, 118, 119, 120, 121, 122])[d.val]'(Nat.lt_trans d.isLt (by decide)) = hexD d.val := by decide +kernel
theorem dgs {d : Nat} (h : d < 16) (hz : d < (ByteArray.mk #[48, 49, 50, 51, 52, 53, 54, 55, 56, 57, 97, 98, 99, 100, 101, 102, 103, 104, 105, 106, 107, 108, 109, 110, 111, 112, 113, 114, 115, 116, 117, 118, 119, 120, 121, 122]).size) :
    (ByteArray.mk #[48, 49, 50, 51, 52, 53, 54, 55, 56, 57, 97, 98, 99, 100, 101, 102, 103, 104, 105, 106, 107, 108, 109, 110, 111, 112, 113, 114, 115, 116, 117, 118, 119, 120, 121, 122])[d]'hz = hexD d := dgs' ⟨d, h⟩
theorem fbArr_set {ds : List UInt8} {i : Nat} (h : i + 1 + ds.length = 65) (c : UInt8) : (fbArr ds).setIfInBounds i (.int .u8 c.toNat) = fbArr (c :: ds) := by
  unfold fbArr
  apply Array.toList_inj.1
  rw [Array.toList_setIfInBounds]
  rw [List.set_append_left _ _ (by simp; omega)]
  obtain ⟨r, hr⟩ : ∃ r, 65 - ds.length = r + 1 := ⟨64 - ds.length, by omega⟩
  have hi : i = r := by omega
  subst hi
  rw [hr, List.replicate_succ', List.set_append_right _ _ (by simp)]
  simp only [List.length_replicate, Nat.sub_self, List.set_cons_zero, List.length_cons, List.map_cons]
  rw [show 65 - (ds.length + 1) = i by omega]
  simp
theorem hexOf_step {f m : Nat} (h : m ≠ 0) : hexOf (f + 1) m = hexOf f (m / 16) ++ [hexD (m % 16)] := by
  simp only [hexOf]
  rw [if_neg h]
theorem zc : Tryz.zeroCells220 = fbArr [] := by kernel_rfl
set_option maxHeartbeats 4000000 in
set_option maxRecDepth 100000 in
theorem fbits (n : Nat) (h : n < 65536) (h0 : n ≠ 0) (w : World) (ht : TabZ w) :
    Calls Tryz.prog 121 #[.slice none 0 0, .int .u64 n, .int .i64 16, .bool false, .bool false] w (Ret w (.tuple #[.slice none 0 0, .string ⟨(hexOf 4 n).toArray⟩])) := by
  have HT := Lib.hid ht
  clear ht
  go_enter Tryz.func121, Tryz.ntmps121
  go_wp2_with fail
  refine (pow16 _).mono ?_
  rintro e w1 ⟨rfl, rfl⟩
  go_wp2_with fail
  refine (tz _ (HT.out.ret (by go_grown))).mono ?_
  rintro e w1 ⟨rfl, rfl⟩
  go_wp2_with fail
  go_loopw [1, 13] (fun u i wr => ∃ (ds : List UInt8) (m j : Nat), j + ds.length = 65 ∧ ds.length ≤ 3 ∧ m ≠ 0 ∧ m < 16 ^ (4 - ds.length) ∧ hexOf 4 n = hexOf (4 - ds.length) m ++ ds ∧ u = .int .u64 m ∧ i = .int .i64 j ∧ wr = w.alloc (.cells (fbArr ds) 220)) (fun u _ _ => (intOf u).toNat)
  case atStart => exact ⟨[], n, 65, rfl, by simp, h0, by simpa using h, by simp, rfl, rfl, by rw [zc]⟩
  case round =>
    obtain ⟨ds, m, j, hj, hds, hm0, hm, hhex, rfl, rfl, rfl⟩ := hrel
    obtain ⟨i, rfl⟩ : ∃ i, j = i + 1 := ⟨j - 1, by omega⟩
    have HH := Lib.hid hhex
    have HM := Lib.hid hm
    have hm4 : m < 65536 := by
      have : 16 ^ (4 - ds.length) ≤ 16 ^ 4 := Nat.pow_le_pow_right (by omega) (by omega)
      omega
    clear hhex hm
    by_cases h16 : 16 ≤ m
    · have hA : (fbArr ds)[i]? = some (.int .u8 0) := by
        unfold fbArr
        rw [List.getElem?_toArray, List.getElem?_append_left (by simp; omega), List.getElem?_replicate]
        rw [if_pos (by omega)]
      obtain ⟨d, hd⟩ : ∃ d, m % 16 = d := ⟨_, rfl⟩
      have hd16 : d < 16 := by omega
      have hmask := mask15 m hm4
      rw [hd] at hmask
      have HD := Lib.hid hd
      clear hd
      go_wp2_with fail
      go_roundw
      case rel =>
        obtain ⟨g, hg⟩ : ∃ g, 4 - ds.length = g + 1 := ⟨3 - ds.length, by omega⟩
        have hh := HH.out
        have hm := HM.out
        rw [hg] at hm
        rw [hg, hexOf_step hm0, HD.out] at hh
        rw [Nat.pow_succ] at hm
        refine ⟨hexD d :: ds, m / 16, i, by simp; omega, ?_, by omega, ?_, ?_, by go_num, rfl, ?_⟩
        · have : g ≠ 0 := by
            intro e
            subst e
            simp at hm
            omega
          simp
          omega
        · rw [show 4 - (hexD d :: ds).length = g by simp; omega]
          omega
        · rw [show 4 - (hexD d :: ds).length = g by simp; omega, hh]
          simp
        · rw [dgs hd16, fbArr_set hj]
      case measure => simp [intOf]; omega
    · have hA : (fbArr ds)[i]? = some (.int .u8 0) := by
        unfold fbArr
        rw [List.getElem?_toArray, List.getElem?_append_left (by simp; omega), List.getElem?_replicate]
        rw [if_pos (by omega)]
      have hm16 : m < 16 := by omega
      have hdg := fun h' => dgs (d := m) hm16 h'
      have hset := fbArr_set hj (hexD m)
      have hfin : hexOf 4 n = hexD m :: ds := by
        rw [HH.out, show 4 - ds.length = (3 - ds.length) + 1 by omega, hexOf_step hm0, show m / 16 = 0 by omega, hexOf_zero, show m % 16 = m by omega]
        rfl
      obtain ⟨x, hx⟩ : ∃ x, hexD m = x := ⟨_, rfl⟩
      rw [hx] at hset hfin
      simp only [hx] at hdg
      obtain ⟨l, hl⟩ : ∃ l, x :: ds = l := ⟨_, rfl⟩
      have hlen : l.length = 65 - i := by rw [← hl]; simp; omega
      rw [hl] at hset hfin
      have hi : i < 65 := by omega
      have hal : Tryz.prog.arrayLen 220 = 65 := by simp [Program.arrayLen, Tryz.underlying220]
      have hsl : ∀ W, (Instr.sliceAt 220 (.pointer (some ⟨w.heap.size, 0, none⟩)) (some (.int .i64 (i : Int))) none none).run Tryz.prog W = .ok (.slice (some ⟨w.heap.size, i, none⟩) (65 - i) (65 - i)) W := fun W => by
        rw [run_sliceAt_array_l W 220 ⟨w.heap.size, 0, none⟩ (by simp [Program.arrayLen, Program.elem, Tryz.underlying220]) .i64 (i : Int) (by omega) (by rw [hal]; omega)]
        go_simp
        omega
      have hcv : (convert 38 9 (.slice (some ⟨w.heap.size, i, none⟩) (65 - i) (65 - i))).run Tryz.prog (w.alloc (.cells (fbArr l) 220)) = .ok (.string ⟨l.toArray⟩) (w.alloc (.cells (fbArr l) 220)) := by
        have := run_convert_bytes_back (P := Tryz.prog) (w.alloc (.cells (fbArr l) 220)) 38 9 5 ⟨w.heap.size, i, none⟩ (65 - i) l Tryz.underlying38 Tryz.underlying5 Tryz.underlying9 (fun j hj => by
          have ea : (⟨w.heap.size, i, none⟩ : Addr).add j = ⟨w.heap.size, i + j, none⟩ := by
            simp only [Addr.add]
            split
            · rename_i e
              rw [e]
              rfl
            · rfl
          rw [ea, World.cell?_alloc_new]
          unfold fbArr
          rw [List.getElem?_toArray, List.getElem?_append_right (by simp; omega)]
          simp only [List.length_replicate, List.getElem?_map]
          rw [show i + j - (65 - l.length) = j by omega, List.getElem?_eq_getElem hj]
          rfl)
        rwa [hlen] at this
      have HF := Lib.hid hfin
      clear hfin hx hl hlen hal hj
      go_wp2_with fail
      go_ret2
      rw [HF.out]
      exact ⟨rfl, by go_grown⟩
/-- strconv.FormatInt at base 16. -/
theorem fmt16' (n : Nat) (h : n < 65536) (h0 : n ≠ 0) (w : World) (ht : TabZ w) : Calls Tryz.prog 84 #[.int .i64 n, .int .i64 16] w (Ret w (.string ⟨(hexOf 4 n).toArray⟩)) := by
  have C := Lib.hid (fbits n h h0 w ht)
  have hc : IntKind.u64.wrap (n : Int) = n := wrap63 _ (by omega) (by omega)
  clear ht
  obtain ⟨l, hl⟩ : ∃ l, hexOf 4 n = l := ⟨_, rfl⟩
  rw [hl] at C ⊢
  clear hl
  go_enter Tryz.func84, Tryz.ntmps84
  go_wp2_with fail
  refine (C.out).mono ?_
  rintro e w1 ⟨rfl, hb⟩
  go_wp2_with fail
  go_ret
  exact ⟨rfl, hb⟩
theorem fmt16 (n : Nat) (h : n < 65536) (h0 : n ≠ 0) (w : World) (ht : TabZ w) : Calls Tryz.prog 44 #[.int .i64 n, .int .i64 16] w (Ret w (.string ⟨(hexOf 4 n).toArray⟩)) := by
  have C := Lib.hid (fmt16' n h h0 w ht)
  clear ht
  obtain ⟨l, hl⟩ : ∃ l, hexOf 4 n = l := ⟨_, rfl⟩
  rw [hl] at C ⊢
  clear hl
  go_enter Tryz.func44, Tryz.ntmps44
  go_wp2_with fail
  refine (C.out).mono ?_
  rintro e w1 ⟨rfl, hb⟩
  go_wp2_with fail
  go_ret
  exact ⟨rfl, hb⟩
end Go.Proofs.YthgmgmbjjjnhnaaGreatDoor
