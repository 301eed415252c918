/- 'string(make([]byte, n))'. -/
import Derived.Test.YthgmgmbjjjnhnaaGreatDoorGa
import Derived.Test.YthgmgmbjjjnhnaaGreatDoorRows
import Derived.Laws.MakeOwn
import Derived.Laws.IdiomStrings
namespace Go.Proofs.YthgmgmbjjjnhnaaGreatDoor
open Go.RowKit
def zrow (n : Nat) : Array Value := madeCells #[.int .u8 0] n
def zstr (n : Nat) : ByteArray := ⟨(List.replicate n (0 : UInt8)).toArray⟩
theorem zstr_list (n : Nat) : (zstr n).data.toList = List.replicate n 0 := by unfold zstr; simp
theorem zstr_size (n : Nat) : (zstr n).size = n := by rw [← size_toList, zstr_list, List.length_replicate]
theorem zrow_at {n j : Nat} (h : j < n) : (zrow n)[j]? = some (.int .u8 0) := by
  unfold zrow madeCells
  simp [h, Nat.mod_one]
theorem byte_info : (Tryz.prog.info? 5).map (fun i => (i.zero, i.size, i.bytes)) = some (some (.int .u8 0), 1, 1) := by kernel_rfl
theorem mk_bytes (n : Nat) (hn : n ≤ 100000) (w : World) : (Instr.makeSlice 38 (.int .i64 n) (.int .i64 n)).run Tryz.prog w = .ok (.slice (some ⟨w.heap.size, 0, none⟩) n n) (w.alloc (.cells (zrow n) 5)) := by
  obtain ⟨i0, hi, hz0, hz1, hz2⟩ := info_parts byte_info
  have h := run_makeSlice (P := Tryz.prog) w 38 5 i0 (.int .u8 0) Tryz.underlying38 hi hz0 .i64 .i64 n n (by omega) (Int.le_refl _) (by rw [hz1]; simp; omega) (by rw [hz2]; omega) (by omega)
  rw [hz1] at h
  simp only [Int.toNat_natCast, Nat.mul_one] at h
  exact h
theorem mk_conv (n : Nat) (w : World) : (convert 38 9 (.slice (some ⟨w.heap.size, 0, none⟩) n n)).run Tryz.prog (w.alloc (.cells (zrow n) 5)) = .ok (.string (zstr n)) (w.alloc (.cells (zrow n) 5)) := by
  have h := run_convert_bytes_back (P := Tryz.prog) (w.alloc (.cells (zrow n) 5)) 38 9 5 ⟨w.heap.size, 0, none⟩ n (List.replicate n 0) Tryz.underlying38 Tryz.underlying5 Tryz.underlying9 (fun j hj => by
    have ea : (⟨w.heap.size, 0, none⟩ : Addr).add j = ⟨w.heap.size, j, none⟩ := by
      simp only [Addr.add]
      split
      · rename_i e
        rw [e]
      · rw [Nat.zero_add]
    rw [ea, World.cell?_alloc_new, zrow_at (by simpa using hj), List.getElem_replicate]
    rfl)
  rw [List.length_replicate] at h
  exact h
end Go.Proofs.YthgmgmbjjjnhnaaGreatDoor
