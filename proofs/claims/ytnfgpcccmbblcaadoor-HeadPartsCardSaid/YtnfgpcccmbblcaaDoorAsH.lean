/- ascii.kinds: which bytes a token may have, as an array by value. -/
import Derived.Test.YtnfgpcccmbblcaaDoorAsG
import Derived.Deep.WholeRow
import Derived.Laws.ResultCell
import Derived.Laws.RangeString
namespace Go.Proofs.YtnfgpcccmbblcaaDoor
open Go.RowKit

def kindS : ByteArray := ⟨#[33, 35, 36, 37, 38, 39, 42, 43, 45, 46, 94, 95, 96, 124, 126, 48, 49, 50, 51, 52, 53, 54, 55, 56, 57, 97, 98, 99, 100, 101, 102, 103, 104, 105, 106, 107, 108, 109, 110, 111, 112, 113, 114, 115, 116, 117, 118, 119, 120, 121, 122, 65, 66, 67, 68, 69, 70, 71, 72, 73, 74, 75, 76, 77, 78, 79, 80, 81, 82, 83, 84, 85, 86, 87, 88, 89, 90]⟩
theorem kindS_size : kindS.size = 77 := rfl
theorem kindS_tok' : ∀ n : Fin 256, kindS.data.toList.contains (UInt8.ofNat n.val) = tokC (UInt8.ofNat n.val) := by decide +kernel
theorem kindS_tok (c : UInt8) : kindS.data.toList.contains c = tokC c := by
  have := kindS_tok' ⟨c.toNat, c.toNat_lt⟩
  simpa using this
theorem kindS_lt : ∀ c ∈ kindS.data.toList, c.toNat < 128 := by decide +kernel
/-- The array behind these bytes. -/
def kndA (l : List UInt8) : Array Value := l.foldl (fun a c => a.setIfInBounds c.toNat (.bool true)) (Array.replicate 128 (.bool false))
theorem kndA_snoc (l : List UInt8) (c : UInt8) : kndA (l ++ [c]) = (kndA l).setIfInBounds c.toNat (.bool true) := by simp [kndA, List.foldl_append]
theorem knd_fold (l : List UInt8) : ∀ a : Array Value, (l.foldl (fun a c => a.setIfInBounds c.toNat (Value.bool true)) a).size = a.size := by
  induction l with
  | nil => intro a; rfl
  | cons c l ih => intro a; rw [List.foldl_cons, ih]; simp
theorem kndA_size (l : List UInt8) : (kndA l).size = 128 := by
  unfold kndA
  rw [knd_fold]
  simp
theorem knd_at (l : List UInt8) : ∀ (a : Array Value) (c : UInt8), c.toNat < a.size → (l.foldl (fun a c => a.setIfInBounds c.toNat (Value.bool true)) a)[c.toNat]? = if l.contains c then some (.bool true) else a[c.toNat]? := by
  induction l with
  | nil => intro a c _; simp
  | cons d l ih =>
    intro a c h
    rw [List.foldl_cons, ih _ _ (by simpa using h), List.contains_cons]
    by_cases hc : l.contains c = true
    · rw [if_pos hc, if_pos (by rw [hc, Bool.or_true])]
    · rw [if_neg hc]
      by_cases hd : c = d
      · subst hd
        rw [if_pos (by simp), Array.getElem?_setIfInBounds, if_pos rfl, if_pos h]
      · rw [if_neg (by simp only [Bool.or_eq_true, beq_iff_eq]; rintro (h | h); exact hd h; exact hc h), Array.getElem?_setIfInBounds, if_neg (fun e => hd (UInt8.toNat_inj.1 e.symm))]
theorem kndA_at (l : List UInt8) (c : UInt8) (h : c.toNat < 128) : (kndA l)[c.toNat]? = some (.bool (l.contains c)) := by
  unfold kndA
  rw [knd_at l _ c (by simpa using h)]
  by_cases hc : l.contains c = true
  · rw [if_pos hc, hc]
  · rw [if_neg hc, Array.getElem?_replicate, if_pos h]
    simp only [Bool.not_eq_true] at hc
    rw [hc]
theorem knd_one (l : List UInt8) : ∀ a : Array Value, a.all (·.oneCell') = true → (l.foldl (fun a c => a.setIfInBounds c.toNat (Value.bool true)) a).all (·.oneCell') = true := by
  induction l with
  | nil => intro a h; exact h
  | cons c l ih =>
    intro a h
    rw [List.foldl_cons]
    apply ih
    rw [Array.all_eq_true_iff_forall_mem] at h ⊢
    intro x hx
    rcases Array.mem_or_eq_of_mem_setIfInBounds hx with hx | rfl
    · exact h x hx
    · rfl
theorem kndA_one (l : List UInt8) : (kndA l).all (·.oneCell') = true := by
  unfold kndA
  apply knd_one
  rw [Array.all_eq_true_iff_forall_mem]
  intro x hx
  rw [(Array.mem_replicate.1 hx).2]
  rfl
theorem knd_zero : Tryd.zeroCells102 = kndA [] := by kernel_rfl
theorem knd_info : (Tryd.prog.info? 102).map (·.size) = some 128 := by kernel_rfl
theorem iter_cell (w : World) (D : Array Value) (t : TypeId) (s : ByteArray) (pos j : Nat) : ((w.alloc (.cells D t)).iter s pos).cell? ⟨w.heap.size, j, none⟩ = D[j]? := by
  unfold World.iter
  rw [World.cell?_alloc_lt _ _ _ (by simp), World.cell?_alloc_new]
theorem iter_frozen (w : World) (D : Array Value) (t : TypeId) (s : ByteArray) (pos j : Nat) : ((w.alloc (.cells D t)).iter s pos).frozen? ⟨w.heap.size, j, none⟩ = false := by
  unfold World.iter World.frozen? World.alloc
  simp [Array.getElem?_push]
theorem iter_set (w : World) (D : Array Value) (t : TypeId) (s : ByteArray) (pos j : Nat) (v : Value) : ((w.alloc (.cells D t)).iter s pos).setCell ⟨w.heap.size, j, none⟩ v = (w.alloc (.cells (D.setIfInBounds j v) t)).iter s pos := by
  simp only [World.setCell, World.alloc, World.iter]
  congr 1
  apply Array.ext_getElem?
  intro i
  rw [Array.getElem?_modify]
  by_cases h : w.heap.size = i
  · subst h
    simp [Array.getElem?_push]
  · have h' : ¬ i = w.heap.size := fun e => h e.symm
    simp [h, h', Array.getElem?_push]
theorem knd_iter (w : World) (D : Array Value) (t : TypeId) (s : ByteArray) (pos : Nat) : ((w.alloc (.cells D t)).iter s pos).iterPos (w.heap.size + 1) = pos := by
  have := World.iterPos_iter (w.alloc (.cells D t)) s pos
  simpa using this
theorem row_same {w : World} {g : Nat} {D : Array Value} {t : TypeId} {fr : Nat × Nat} (hg : w.heap[g]? = some (.cells D t fr)) : w.setRow g D = w := by
  simp only [World.setRow]
  have : w.heap.modify g (fun o => match o with | .cells _ t fr => .cells D t fr | o => o) = w.heap := by
    apply Array.ext_getElem?
    intro i
    rw [Array.getElem?_modify]
    by_cases h : g = i
    · subst h
      rw [if_pos rfl, hg]
      rfl
    · rw [if_neg h]
  cases w
  simp only at this ⊢
  congr 1
set_option maxHeartbeats 4000000 in
set_option maxRecDepth 100000 in
theorem as_kinds (w : World) : Calls Tryd.prog 69 #[] w (Ret w (.agg (kndA kindS.data.toList))) := by
  go_enter Tryd.func69, Tryd.ntmps69
  go_wp2_with fail
  go_loopw [] (fun wr => ∃ pos : Nat, pos ≤ 77 ∧ wr = (w.alloc (.cells (kndA (kindS.data.toList.take pos)) 102)).iter kindS pos) (fun wr => 77 - wr.iterPos (w.heap.size + 1))
  case atStart => exact ⟨0, Nat.zero_le _, by rw [knd_zero]; rfl⟩
  case round =>
    obtain ⟨pos, hpos, rfl⟩ := hrel
    by_cases hlt : pos < 77
    · have hlt' : pos < kindS.size := hlt
      have hmem : kindS[pos]'hlt' ∈ kindS.data.toList := by rw [List.mem_iff_getElem?]; exact ⟨pos, getElem_data kindS pos hlt'⟩
      have h128 := kindS_lt _ hmem
      have hnx : ∀ ty, (Instr.next (.pointer (some ⟨w.heap.size + 1, 0, none⟩)) true ty).run Tryd.prog ((w.alloc (.cells (kndA (kindS.data.toList.take pos)) 102)).iter kindS pos) = .ok (.tuple #[.bool true, .int .i64 pos, .int .i32 (kindS[pos]'hlt').toNat]) ((w.alloc (.cells (kndA (kindS.data.toList.take pos)) 102)).iter kindS (pos + 1)) := fun ty => by
        have := run_next_ascii (P := Tryd.prog) (w.alloc (.cells (kndA (kindS.data.toList.take pos)) 102)) kindS pos ty hlt' h128
        simpa using this
      obtain ⟨c, hc⟩ : ∃ c, kindS[pos]'hlt' = c := ⟨_, rfl⟩
      have hsn : kindS.data.toList.take (pos + 1) = kindS.data.toList.take pos ++ [c] := by rw [take_snoc kindS pos hlt', hc]
      rw [hc] at hnx h128
      obtain ⟨D, hD⟩ : ∃ D, kndA (kindS.data.toList.take pos) = D := ⟨_, rfl⟩
      have hset : kndA (kindS.data.toList.take (pos + 1)) = D.setIfInBounds c.toNat (.bool true) := by rw [hsn, kndA_snoc, hD]
      have hDc : D[c.toNat]? = some (.bool ((kindS.data.toList.take pos).contains c)) := by rw [← hD]; exact kndA_at _ c h128
      rw [hD] at hnx ⊢
      have hcell := (iter_cell w D 102 kindS (pos + 1) c.toNat).trans hDc
      have hfr := iter_frozen w D 102 kindS (pos + 1) c.toNat
      have hst := iter_set w D 102 kindS (pos + 1) c.toNat (.bool true)
      have HSET := Lib.hid hset
      have g1 : (c.toNat : Int) < 128 := by omega
      clear hset hsn hD hDc hmem hc
      go_wp2_with fail
      refine ⟨⟨pos + 1, by omega, by rw [HSET.out]⟩, ?_⟩
      rw [knd_iter, knd_iter]
      omega
    · obtain rfl : pos = 77 := by omega
      have hnx : ∀ ty, (Instr.next (.pointer (some ⟨w.heap.size + 1, 0, none⟩)) true ty).run Tryd.prog ((w.alloc (.cells (kndA (kindS.data.toList.take 77)) 102)).iter kindS 77) = .ok (.tuple #[.bool false]) ((w.alloc (.cells (kndA (kindS.data.toList.take 77)) 102)).iter kindS 77) := fun ty => by
        have := run_next_end (P := Tryd.prog) (w.alloc (.cells (kndA (kindS.data.toList.take 77)) 102)) kindS 77 ty (by decide)
        simpa using this
      have hfull : kindS.data.toList.take 77 = kindS.data.toList := rfl
      rw [hfull] at hnx ⊢
      have hDs := kndA_size kindS.data.toList
      have hDo := kndA_one kindS.data.toList
      obtain ⟨D, hD⟩ : ∃ D, kndA kindS.data.toList = D := ⟨_, rfl⟩
      rw [hD] at hnx hDs hDo ⊢
      have hinfo : (Tryd.prog.info? 102).map (·.size) = some D.size := by rw [hDs]; exact knd_info
      have hg : ((w.alloc (.cells D 102)).iter kindS 77).heap[w.heap.size]? = some (.cells D 102 (0, 0)) := by
        unfold World.iter
        exact heap_alloc2_old w _ _
      have hrow : ((w.alloc (.cells D 102)).iter kindS 77).setRow w.heap.size D = (w.alloc (.cells D 102)).iter kindS 77 := row_same hg
      have HD := Lib.hid hD
      have HI := Lib.hid hinfo
      have HG := Lib.hid hg
      have HO := Lib.hid hDo
      clear hfull hD hinfo hDs hg hDo
      go_wp2_with (first | (with_reducible refine wpList_load_row rfl _ (.tmp 0) rfl w.heap.size rfl _ D (0, 0) _ HG.out Tryd.underlying102 rfl HI.out ?_) | (with_reducible refine wpList_store_row rfl _ (.tmp 0) (.tmp 9) rfl w.heap.size D rfl rfl _ D HG.out HI.out rfl HO.out ?_))
      rw [hrow]
      refine bodyPost_ret (v := .agg D) (results_cell_row rfl _ _ w.heap.size _ D (0, 0) _ rfl HG.out Tryd.underlying102 rfl HI.out) rfl ⟨by rw [HD.out], ?_⟩
      unfold World.iter
      go_grown
end Go.Proofs.YtnfgpcccmbblcaaDoor
