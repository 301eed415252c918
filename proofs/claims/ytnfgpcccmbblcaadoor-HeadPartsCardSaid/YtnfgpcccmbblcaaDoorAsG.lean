/- ascii: Lower, Same; the predicates of Token and Plain; slices.IndexFunc at them. -/
import Derived.Test.YtnfgpcccmbblcaaDoorAsE
import Derived.Laws.BitsLemmas
namespace Go.Proofs.YtnfgpcccmbblcaaDoor
open Go.RowKit

theorem or32' : ∀ n : Fin 256, 65 ≤ n.val → n.val ≤ 90 → bits .or .u8 (n.val : Int) 32 = ((loB (UInt8.ofNat n.val)).toNat : Int) := by decide +kernel
theorem or32 (c : UInt8) (h : 65 ≤ c.toNat) (h' : c.toNat ≤ 90) : bits .or .u8 (c.toNat : Int) 32 = ((loB c).toNat : Int) := by
  have := or32' ⟨c.toNat, c.toNat_lt⟩ h h'
  simpa using this
theorem mark_frozen (w : World) (D : Array Value) (t : TypeId) (n : Nat) (j : Nat) (h : j < n) : (w.alloc (.cells D t (n, n + 1))).frozen? ⟨w.heap.size, j, none⟩ = false := by
  unfold World.frozen? World.alloc
  simp
  omega
theorem mark_set (w : World) (D : Array Value) (t : TypeId) (fr : Nat × Nat) (j : Nat) (v : Value) : (w.alloc (.cells D t fr)).setCell ⟨w.heap.size, j, none⟩ v = w.alloc (.cells (D.setIfInBounds j v) t fr) := by
  simp only [World.setCell, World.alloc]
  congr 1
  apply Array.ext_getElem?
  intro i
  rw [Array.getElem?_modify]
  by_cases h : w.heap.size = i
  · subst h
    simp
  · have h' : ¬ i = w.heap.size := fun e => h e.symm
    simp [h, h', Array.getElem?_push]
set_option maxHeartbeats 4000000 in
theorem as_Lower (s : ByteArray) (w : World) (hs : s.size ≤ 1000000) : Calls Tryd.prog 52 #[.string s] w (Ret w (.string ⟨(lowL s.data.toList).toArray⟩)) := by
  obtain ⟨cap, C, hC, hCs, hcv⟩ := str_bytes (P := Tryd.prog) w 9 50 5 s Tryd.underlying9 Tryd.underlying50 Tryd.underlying5
  have HC := Lib.hid hC
  obtain ⟨N, hN⟩ : ∃ N, C.size = N := ⟨_, rfl⟩
  have HNN := Lib.hid hN
  rw [hN] at hcv hCs
  clear hC hN
  go_enter Tryd.func52, Tryd.ntmps52
  go_wp2_with fail
  go_loopw [10] (fun i wr => ∃ (k : Nat) (D : Array Value), k ≤ s.size ∧ i = .int .i64 k ∧ D.size = N ∧ (∀ j (h : j < s.size), D[j]? = some (.int .u8 ((if j < k then loB s[j] else s[j]).toNat : Int))) ∧ wr = (w.alloc (.cells D 5 (N, N + 1))).drew) (fun i _ => s.size - (intOf i).toNat)
  case atStart => exact ⟨0, C, Nat.zero_le _, rfl, HNN.out, fun j h => by rw [HC.out j h]; rfl, rfl⟩
  case round =>
    obtain ⟨k, D, hk, rfl, hDs, hD, rfl⟩ := hrel
    by_cases hlt : k < s.size
    · have hDk := hD k hlt
      rw [if_neg (Nat.lt_irrefl k)] at hDk
      have hcell : ((w.alloc (.cells D 5 (N, N + 1))).drew).cell? ⟨w.heap.size, k, none⟩ = some (.int .u8 (s[k].toNat : Int)) := (World.cell?_alloc_mark w D _ _ k).trans hDk
      have hfr : ((w.alloc (.cells D 5 (N, N + 1))).drew).frozen? ⟨w.heap.size, k, none⟩ = false := mark_frozen w D _ N k (by omega)
      have hb : (s[k].toNat : Int) ≤ 255 := by have := s[k].toNat_lt; omega
      have HD := Lib.hid hD
      have HDS := Lib.hid hDs
      clear hD hDk hDs
      by_cases hc : 65 ≤ s[k].toNat ∧ s[k].toNat ≤ 90
      · have hor := or32 s[k] hc.1 hc.2
        have g1 : (65 : Int) ≤ s[k].toNat := by omega
        have g2 : (s[k].toNat : Int) ≤ 90 := by omega
        clear hc
        go_wp2_with fail
        go_roundw
        case rel =>
          refine ⟨k + 1, D.setIfInBounds k (.int .u8 ((loB s[k]).toNat : Int)), by omega, by go_num, by rw [Array.size_setIfInBounds, HDS.out], fun j h => ?_, ?_⟩
          · rw [Array.getElem?_setIfInBounds]
            by_cases hj : k = j
            · subst hj
              rw [if_pos rfl, if_pos (by rw [HDS.out]; omega), if_pos (by omega)]
            · rw [if_neg hj, HD.out j h]
              by_cases hjk : j < k
              · rw [if_pos hjk, if_pos (by omega)]
              · rw [if_neg hjk, if_neg (by omega)]
          · rw [mark_set]
        case measure => simp [intOf]; omega
      · have hlo := loB_lo hc
        have HLO := Lib.hid hlo
        have g1 : (s[k].toNat : Int) < 65 ∨ 90 < (s[k].toNat : Int) := by omega
        clear hc hlo
        rcases g1 with g1 | g1
        · have g2 : ¬ (65 : Int) ≤ s[k].toNat := by omega
          go_wp2_with fail
          go_roundw
          case rel =>
            refine ⟨k + 1, D, by omega, by go_num, HDS.out, fun j h => ?_, rfl⟩
            rw [HD.out j h]
            by_cases hjk : j < k
            · rw [if_pos hjk, if_pos (by omega)]
            · by_cases hj : j = k
              · subst hj
                rw [if_neg hjk, if_pos (by omega), HLO.out]
              · rw [if_neg hjk, if_neg (by omega)]
          case measure => simp [intOf]; omega
        · have g2 : (65 : Int) ≤ s[k].toNat := by omega
          have g3 : ¬ (s[k].toNat : Int) ≤ 90 := by omega
          go_wp2_with fail
          go_roundw
          case rel =>
            refine ⟨k + 1, D, by omega, by go_num, HDS.out, fun j h => ?_, rfl⟩
            rw [HD.out j h]
            by_cases hjk : j < k
            · rw [if_pos hjk, if_pos (by omega)]
            · by_cases hj : j = k
              · subst hj
                rw [if_neg hjk, if_pos (by omega), HLO.out]
              · rw [if_neg hjk, if_neg (by omega)]
          case measure => simp [intOf]; omega
    · obtain rfl : k = s.size := by omega
      have hconv : (convert 50 9 (.slice (some ⟨w.heap.size, 0, none⟩) s.size cap)).run Tryd.prog ((w.alloc (.cells D 5 (N, N + 1))).drew) = .ok (.string ⟨(lowL s.data.toList).toArray⟩) ((w.alloc (.cells D 5 (N, N + 1))).drew) := by
        have h := run_convert_bytes_back (P := Tryd.prog) ((w.alloc (.cells D 5 (N, N + 1))).drew) 50 9 5 ⟨w.heap.size, 0, none⟩ cap (lowL s.data.toList) Tryd.underlying50 Tryd.underlying5 Tryd.underlying9 (fun j hj => by
          rw [lowL_len, size_toList] at hj
          rw [add_zero_plain]
          refine ((World.cell?_alloc_mark w D _ _ j).trans (hD j hj)).trans ?_
          rw [if_pos hj]
          simp [lowL]
          rfl)
        rw [lowL_len, size_toList] at h
        exact h
      obtain ⟨l, hl⟩ : ∃ l, lowL s.data.toList = l := ⟨_, rfl⟩
      rw [hl] at hconv
      have HL := Lib.hid hl
      clear hD hDs hl
      go_wp2_with fail
      go_ret
      rw [HL.out]
      exact ⟨rfl, by go_grown⟩
set_option maxHeartbeats 1000000 in
theorem as_Same (a b : ByteArray) (w : World) (ha : a.size ≤ 1000000) (hb : b.size ≤ 1000000) : Calls Tryd.prog 30 #[.string a, .string b] w (Ret w (.bool (decide (lowL a.data.toList = lowL b.data.toList)))) := by
  by_cases hl : a.size = b.size
  rotate_left
  · have hne : decide (lowL a.data.toList = lowL b.data.toList) = false := by
      rw [decide_eq_false_iff_not]
      intro e
      have := congrArg List.length e
      rw [lowL_len, lowL_len, size_toList, size_toList] at this
      exact hl this
    have g1 : ((a.size : Int) == (b.size : Int)) = false := by apply beq_false_of_ne; omega
    rw [hne]
    clear hne
    go_enter Tryd.func30, Tryd.ntmps30
    go_wp2_with fail
    go_ret
    exact ⟨rfl, Below.refl _ _⟩
  have g1 : ((a.size : Int) == (b.size : Int)) = true := by rw [beq_iff_eq]; omega
  have C1 := Lib.hid fun w => as_Lower a w ha
  have C2 := Lib.hid fun w => as_Lower b w hb
  obtain ⟨x, hx⟩ : ∃ x, lowL a.data.toList = x := ⟨_, rfl⟩
  obtain ⟨y, hy⟩ : ∃ x, lowL b.data.toList = x := ⟨_, rfl⟩
  rw [hx] at C1 ⊢
  rw [hy] at C2 ⊢
  clear hx hy hl
  go_enter Tryd.func30, Tryd.ntmps30
  go_wp2_with fail
  refine (C1.out _).mono ?_
  rintro e w1 ⟨rfl, hb1⟩
  go_wp2_with fail
  refine (C2.out _).mono ?_
  rintro e w2 ⟨rfl, hb2⟩
  go_wp2_with fail
  go_ret
  exact ⟨ret_b (eqb_list x y), hb1.trans (hb2.mono hb1.size)⟩
set_option maxHeartbeats 1000000 in
/-- Plain's predicate: a byte that may not be seen. -/
theorem as_plainP (c : UInt8) (w : World) : Calls Tryd.prog 91 #[.int .u8 c.toNat] w fun e w' => e = .returned (.bool (!plnC c)) ∧ w' = w := by
  have h9 := u8_beq c 9
  have h127 := u8_beq c 127
  have e1 : (UInt8.toNat 9 : Int) = 9 := rfl
  have e2 : (UInt8.toNat 127 : Int) = 127 := rfl
  rw [e1] at h9
  rw [e2] at h127
  have h9n : ((c.toNat : Int) != 9) = !(c == 9) := by unfold bne; rw [h9]
  have hp : (!plnC c) = ((!(c == 9) && decide (c.toNat < 32)) || c == 127) := by unfold plnC; rw [Bool.not_not]
  rw [hp]
  obtain ⟨p, hpp⟩ : ∃ p, (c == 9) = p := ⟨_, rfl⟩
  obtain ⟨q, hqq⟩ : ∃ p, (c == 127) = p := ⟨_, rfl⟩
  obtain ⟨r, hrr⟩ : ∃ p, decide (c.toNat < 32) = p := ⟨_, rfl⟩
  have h32 : decide ((c.toNat : Int) < 32) = r := by rw [← hrr, decide_eq_decide]; omega
  rw [hpp, hqq, hrr]
  rw [hpp] at h9n
  rw [hqq] at h127
  clear e1 e2 h9 hp hpp hqq hrr
  cases p <;> cases q <;> cases r
  all_goals first | (have g : (c.toNat : Int) < 32 := of_decide_eq_true h32) | (have g : ¬ (c.toNat : Int) < 32 := of_decide_eq_false h32)
  all_goals
    go_enter Tryd.func91, Tryd.ntmps91
    go_wp2_with fail
    go_ret
    exact ⟨rfl, rfl⟩
set_option maxRecDepth 100000 in
/-- Token's predicate: a byte that a token may not have; kinds' array lies in block B. -/
theorem as_tokenP (c : UInt8) (B : Nat) (w : World) (h : c.toNat < 128 → w.cell? ⟨B, c.toNat, none⟩ = some (.bool (tokC c))) : Calls Tryd.prog 71 #[.int .u8 c.toNat, .pointer (some ⟨B, 0, none⟩)] w fun e w' => e = .returned (.bool (!tokC c)) ∧ w' = w := by
  have hb : (c.toNat : Int) ≤ 255 := by have := c.toNat_lt; omega
  by_cases h128 : 128 ≤ c.toNat
  · have hn : tokC c = false := by
      unfold tokC ltr
      rw [Bool.or_eq_false_iff]
      refine ⟨by simp; omega, ?_⟩
      rw [List.contains_eq_mem, decide_eq_false_iff_not]
      intro hm
      simp only [tokP, List.mem_cons, List.not_mem_nil, or_false] at hm
      rcases hm with rfl | rfl | rfl | rfl | rfl | rfl | rfl | rfl | rfl | rfl | rfl | rfl | rfl | rfl | rfl <;> simp at h128
    rw [hn]
    have g : (128 : Int) ≤ c.toNat := by omega
    clear h hn
    go_enter Tryd.func71, Tryd.ntmps71
    go_wp2_with fail
    go_ret
    exact ⟨rfl, rfl⟩
  · have hc := h (by omega)
    obtain ⟨p, hp⟩ : ∃ p, tokC c = p := ⟨_, rfl⟩
    rw [hp] at hc ⊢
    have g : ¬ (128 : Int) ≤ c.toNat := by omega
    have g2 : (c.toNat : Int) < 128 := by omega
    clear h hp
    go_enter Tryd.func71, Tryd.ntmps71
    go_wp2_with fail
    go_ret
    exact ⟨rfl, rfl⟩
end Go.Proofs.YtnfgpcccmbblcaaDoor
