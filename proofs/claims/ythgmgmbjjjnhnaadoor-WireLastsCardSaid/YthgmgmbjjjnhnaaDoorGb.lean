/- AsA, AsB, AsC, AsD, AsE, AsG, AsH, AsI: put together by mergetpl.py. -/
import Derived.Test.YthgmgmbjjjnhnaaDoorGa
import Derived.Deep.QuietTactic
import Derived.BigQuiet
import Derived.IntWalk
import Derived.Laws.BitsLemmas
import Derived.Deep.WholeRow
import Derived.Laws.ResultCell
import Derived.Laws.RangeString
namespace Go.Proofs.YthgmgmbjjjnhnaaDoor
open Go.RowKit

end Go.Proofs.YthgmgmbjjjnhnaaDoor
namespace Go.Proofs.YthgmgmbjjjnhnaaDoor
open Go.RowKit

end Go.Proofs.YthgmgmbjjjnhnaaDoor
namespace Go.Proofs.YthgmgmbjjjnhnaaDoor
open Go.RowKit

theorem all_no (s : ByteArray) (k : Nat) (h : k < s.size) {p : UInt8 → Bool} (hp : p s[k] = false) : s.data.toList.all p = false := by
  rw [List.all_eq_false]
  exact ⟨s[k], by rw [List.mem_iff_getElem?]; exact ⟨k, getElem_data s k h⟩, by simp [hp]⟩
theorem tok_iv (c : UInt8) : (ltr c = true ∧ 97 ≤ c.toNat ∧ c.toNat ≤ 122) ∨ (ltr c = true ∧ 65 ≤ c.toNat ∧ c.toNat ≤ 90) ∨ (ltr c = true ∧ 48 ≤ c.toNat ∧ c.toNat ≤ 57) ∨ (ltr c = false ∧ 0 ≤ c.toNat ∧ c.toNat ≤ 47) ∨ (ltr c = false ∧ 58 ≤ c.toNat ∧ c.toNat ≤ 64) ∨ (ltr c = false ∧ 91 ≤ c.toNat ∧ c.toNat ≤ 96) ∨ (ltr c = false ∧ 123 ≤ c.toNat ∧ c.toNat ≤ 255) := by
  have := c.toNat_lt
  cases h : ltr c with
  | true =>
    unfold ltr at h
    simp only [Bool.or_eq_true, Bool.and_eq_true, decide_eq_true_eq] at h
    simp
    omega
  | false =>
    unfold ltr at h
    simp only [Bool.or_eq_false_iff, Bool.and_eq_false_iff, decide_eq_false_iff_not] at h
    simp
    omega
end Go.Proofs.YthgmgmbjjjnhnaaDoor
namespace Go.Proofs.YthgmgmbjjjnhnaaDoor
open Go.RowKit

/-- A list of texts of the call's own. -/
abbrev OwnS (B : Nat) (v : Value) (xs : List (List UInt8)) (w : World) : Prop := w.ownsRow B 9 1 v xs.length (strV xs)
end Go.Proofs.YthgmgmbjjjnhnaaDoor
namespace Go.Proofs.YthgmgmbjjjnhnaaDoor
open Go.RowKit

theorem below_drewN (w : World) (n : Nat) : Below w.heap.size w (w.drewN n) := ⟨rfl, rfl, rfl, Nat.le_refl _, fun _ _ => rfl⟩
theorem beq_str (X Y : ByteArray) (x y : List UInt8) (hx : X.data.toList = x) (hy : Y.data.toList = y) : (X.toList == Y.toList) = decide (x = y) := by
  rw [Lib.toList_data, Lib.toList_data, hx, hy, eqb_list]
/-- What becomes of a list's parts. -/
def lstG (ps : List (List UInt8)) : List (List UInt8) := ((ps.map trm).filter fun x => !x.isEmpty).map lowL
theorem lstG_snoc (ps : List (List UInt8)) (p : List UInt8) : lstG (ps ++ [p]) = lstG ps ++ (if (trm p).isEmpty then [] else [lowL (trm p)]) := by
  unfold lstG
  simp only [List.map_append, List.filter_append, List.map_cons, List.map_nil]
  cases h : (trm p).isEmpty <;> simp [h]
theorem lstG_len (ps : List (List UInt8)) : (lstG ps).length ≤ ps.length := by
  unfold lstG
  rw [List.length_map]
  refine Nat.le_trans (List.length_filter_le _ _) ?_
  simp
theorem cutG_bound (b : UInt8) (l : List UInt8) : ∀ cur, ∀ p ∈ cutG b cur l, p.length ≤ cur.length + l.length := by
  induction l with
  | nil => intro cur p hp; simp [cutG] at hp; subst hp; simp
  | cons c l ih =>
    intro cur p hp
    simp only [cutG] at hp
    split at hp
    · rcases List.mem_cons.1 hp with rfl | hp
      · simp
      · have := ih [] p hp
        simp only [List.length_nil, List.length_cons] at this ⊢
        omega
    · have := ih _ p hp
      simp only [List.length_append, List.length_cons, List.length_nil] at this ⊢
      omega
theorem lstP_bound {l x : List UInt8} (h : x ∈ lstP l) : x.length ≤ l.length := by
  unfold lstP at h
  obtain ⟨y, hy, rfl⟩ := List.mem_map.1 h
  obtain ⟨hy2, _⟩ := List.mem_filter.1 hy
  obtain ⟨z, hz, rfl⟩ := List.mem_map.1 hy2
  have := cutG_bound 44 l [] z hz
  rw [lowL_len]
  have h2 := trm_le z
  simp only [List.length_nil, Nat.zero_add] at this
  omega
/-- What List answers. -/
def LstIs (l : List UInt8) (w : World) (e : Ending) (w' : World) : Prop := ∃ v, e = .returned (.tuple #[v, .int .i64 (lstE l)]) ∧ IsVals v (strV (lstV l)) w' ∧ Below w.heap.size w w'
end Go.Proofs.YthgmgmbjjjnhnaaDoor
namespace Go.Proofs.YthgmgmbjjjnhnaaDoor
open Go.RowKit

theorem or32' : ∀ n : Fin 256, 65 ≤ n.val → n.val ≤ 90 → bits .or .u8 (n.val : Int) 32 = ((loB (UInt8.ofNat n.val)).toNat : Int) := by decide +kernel
theorem or32 (c : UInt8) (h : 65 ≤ c.toNat) (h' : c.toNat ≤ 90) : bits .or .u8 (c.toNat : Int) 32 = ((loB c).toNat : Int) := by
  have := or32' ⟨c.toNat, c.toNat_lt⟩ h h'
  simpa using this
theorem mark_frozen (w : World) (D : Array Value) (t : TypeId) (n : Nat) (j : Nat) (h : j < n) : (w.alloc (.cells D t (n, n + 1))).frozen? ⟨w.heap.size, j, none⟩ = false := by
  unfold World.frozen? World.alloc
  simp
  omega
theorem mark_set (w : World) (D : Array Value) (t : TypeId) (fr : Nat × Nat) (j : Nat) (v : Value) : (w.alloc (.cells D t fr)).setCell ⟨w.heap.size, j, none⟩ v = w.alloc (.cells (D.setIfInBounds j v) t fr) := by
  simp only [World.setCell, World.alloc]
  congr 1
  apply Array.ext_getElem?
  intro i
  rw [Array.getElem?_modify]
  by_cases h : w.heap.size = i
  · subst h
    simp
  · have h' : ¬ i = w.heap.size := fun e => h e.symm
    simp [h, h', Array.getElem?_push]
set_option maxHeartbeats 4000000 in
theorem as_Lower (s : ByteArray) (w : World) (hs : s.size ≤ 1000000) : Calls Tryd.prog 25 #[.string s] w (Ret w (.string ⟨(lowL s.data.toList).toArray⟩)) := by
  obtain ⟨cap, C, hC, hCs, hcv⟩ := str_bytes (P := Tryd.prog) w 9 29 5 s Tryd.underlying9 Tryd.underlying29 Tryd.underlying5
  have HC := Lib.hid hC
  obtain ⟨N, hN⟩ : ∃ N, C.size = N := ⟨_, rfl⟩
  have HNN := Lib.hid hN
  rw [hN] at hcv hCs
  clear hC hN
  go_enter Tryd.func25, Tryd.ntmps25
  go_wp2_with fail
  go_loopw [10] (fun i wr => ∃ (k : Nat) (D : Array Value), k ≤ s.size ∧ i = .int .i64 k ∧ D.size = N ∧ (∀ j (h : j < s.size), D[j]? = some (.int .u8 ((if j < k then loB s[j] else s[j]).toNat : Int))) ∧ wr = (w.alloc (.cells D 5 (N, N + 1))).drew) (fun i _ => s.size - (intOf i).toNat)
  case atStart => exact ⟨0, C, Nat.zero_le _, rfl, HNN.out, fun j h => by rw [HC.out j h]; rfl, rfl⟩
  case round =>
    obtain ⟨k, D, hk, rfl, hDs, hD, rfl⟩ := hrel
    by_cases hlt : k < s.size
    · have hDk := hD k hlt
      rw [if_neg (Nat.lt_irrefl k)] at hDk
      have hcell : ((w.alloc (.cells D 5 (N, N + 1))).drew).cell? ⟨w.heap.size, k, none⟩ = some (.int .u8 (s[k].toNat : Int)) := (World.cell?_alloc_mark w D _ _ k).trans hDk
      have hfr : ((w.alloc (.cells D 5 (N, N + 1))).drew).frozen? ⟨w.heap.size, k, none⟩ = false := mark_frozen w D _ N k (by omega)
      have hb : (s[k].toNat : Int) ≤ 255 := by have := s[k].toNat_lt; omega
      have HD := Lib.hid hD
      have HDS := Lib.hid hDs
      clear hD hDk hDs
      by_cases hc : 65 ≤ s[k].toNat ∧ s[k].toNat ≤ 90
      · have hor := or32 s[k] hc.1 hc.2
        have g1 : (65 : Int) ≤ s[k].toNat := by omega
        have g2 : (s[k].toNat : Int) ≤ 90 := by omega
        clear hc
        go_wp2_with fail
        go_roundw
        case rel =>
          refine ⟨k + 1, D.setIfInBounds k (.int .u8 ((loB s[k]).toNat : Int)), by omega, by go_num, by rw [Array.size_setIfInBounds, HDS.out], fun j h => ?_, ?_⟩
          · rw [Array.getElem?_setIfInBounds]
            by_cases hj : k = j
            · subst hj
              rw [if_pos rfl, if_pos (by rw [HDS.out]; omega), if_pos (by omega)]
            · rw [if_neg hj, HD.out j h]
              by_cases hjk : j < k
              · rw [if_pos hjk, if_pos (by omega)]
              · rw [if_neg hjk, if_neg (by omega)]
          · rw [mark_set]
        case measure => simp [intOf]; omega
      · have hlo := loB_lo hc
        have HLO := Lib.hid hlo
        have g1 : (s[k].toNat : Int) < 65 ∨ 90 < (s[k].toNat : Int) := by omega
        clear hc hlo
        rcases g1 with g1 | g1
        · have g2 : ¬ (65 : Int) ≤ s[k].toNat := by omega
          go_wp2_with fail
          go_roundw
          case rel =>
            refine ⟨k + 1, D, by omega, by go_num, HDS.out, fun j h => ?_, rfl⟩
            rw [HD.out j h]
            by_cases hjk : j < k
            · rw [if_pos hjk, if_pos (by omega)]
            · by_cases hj : j = k
              · subst hj
                rw [if_neg hjk, if_pos (by omega), HLO.out]
              · rw [if_neg hjk, if_neg (by omega)]
          case measure => simp [intOf]; omega
        · have g2 : (65 : Int) ≤ s[k].toNat := by omega
          have g3 : ¬ (s[k].toNat : Int) ≤ 90 := by omega
          go_wp2_with fail
          go_roundw
          case rel =>
            refine ⟨k + 1, D, by omega, by go_num, HDS.out, fun j h => ?_, rfl⟩
            rw [HD.out j h]
            by_cases hjk : j < k
            · rw [if_pos hjk, if_pos (by omega)]
            · by_cases hj : j = k
              · subst hj
                rw [if_neg hjk, if_pos (by omega), HLO.out]
              · rw [if_neg hjk, if_neg (by omega)]
          case measure => simp [intOf]; omega
    · obtain rfl : k = s.size := by omega
      have hconv : (convert 29 9 (.slice (some ⟨w.heap.size, 0, none⟩) s.size cap)).run Tryd.prog ((w.alloc (.cells D 5 (N, N + 1))).drew) = .ok (.string ⟨(lowL s.data.toList).toArray⟩) ((w.alloc (.cells D 5 (N, N + 1))).drew) := by
        have h := run_convert_bytes_back (P := Tryd.prog) ((w.alloc (.cells D 5 (N, N + 1))).drew) 29 9 5 ⟨w.heap.size, 0, none⟩ cap (lowL s.data.toList) Tryd.underlying29 Tryd.underlying5 Tryd.underlying9 (fun j hj => by
          rw [lowL_len, size_toList] at hj
          rw [add_zero_plain]
          refine ((World.cell?_alloc_mark w D _ _ j).trans (hD j hj)).trans ?_
          rw [if_pos hj]
          simp [lowL]
          rfl)
        rw [lowL_len, size_toList] at h
        exact h
      obtain ⟨l, hl⟩ : ∃ l, lowL s.data.toList = l := ⟨_, rfl⟩
      rw [hl] at hconv
      have HL := Lib.hid hl
      clear hD hDs hl
      go_wp2_with fail
      go_ret
      rw [HL.out]
      exact ⟨rfl, by go_grown⟩
set_option maxHeartbeats 1000000 in
theorem as_Same (a b : ByteArray) (w : World) (ha : a.size ≤ 1000000) (hb : b.size ≤ 1000000) : Calls Tryd.prog 76 #[.string a, .string b] w (Ret w (.bool (decide (lowL a.data.toList = lowL b.data.toList)))) := by
  by_cases hl : a.size = b.size
  rotate_left
  · have hne : decide (lowL a.data.toList = lowL b.data.toList) = false := by
      rw [decide_eq_false_iff_not]
      intro e
      have := congrArg List.length e
      rw [lowL_len, lowL_len, size_toList, size_toList] at this
      exact hl this
    have g1 : ((a.size : Int) == (b.size : Int)) = false := by apply beq_false_of_ne; omega
    rw [hne]
    clear hne
    go_enter Tryd.func76, Tryd.ntmps76
    go_wp2_with fail
    go_ret
    exact ⟨rfl, Below.refl _ _⟩
  have g1 : ((a.size : Int) == (b.size : Int)) = true := by rw [beq_iff_eq]; omega
  have C1 := Lib.hid fun w => as_Lower a w ha
  have C2 := Lib.hid fun w => as_Lower b w hb
  obtain ⟨x, hx⟩ : ∃ x, lowL a.data.toList = x := ⟨_, rfl⟩
  obtain ⟨y, hy⟩ : ∃ x, lowL b.data.toList = x := ⟨_, rfl⟩
  rw [hx] at C1 ⊢
  rw [hy] at C2 ⊢
  clear hx hy hl
  go_enter Tryd.func76, Tryd.ntmps76
  go_wp2_with fail
  refine (C1.out _).mono ?_
  rintro e w1 ⟨rfl, hb1⟩
  go_wp2_with fail
  refine (C2.out _).mono ?_
  rintro e w2 ⟨rfl, hb2⟩
  go_wp2_with fail
  go_ret
  exact ⟨ret_b (eqb_list x y), hb1.trans (hb2.mono hb1.size)⟩
set_option maxHeartbeats 1000000 in
/-- Plain's predicate: a byte that may not be seen. -/
theorem as_plainP (c : UInt8) (w : World) : Calls Tryd.prog 49 #[.int .u8 c.toNat] w fun e w' => e = .returned (.bool (!plnC c)) ∧ w' = w := by
  have h9 := u8_beq c 9
  have h127 := u8_beq c 127
  have e1 : (UInt8.toNat 9 : Int) = 9 := rfl
  have e2 : (UInt8.toNat 127 : Int) = 127 := rfl
  rw [e1] at h9
  rw [e2] at h127
  have h9n : ((c.toNat : Int) != 9) = !(c == 9) := by unfold bne; rw [h9]
  have hp : (!plnC c) = ((!(c == 9) && decide (c.toNat < 32)) || c == 127) := by unfold plnC; rw [Bool.not_not]
  rw [hp]
  obtain ⟨p, hpp⟩ : ∃ p, (c == 9) = p := ⟨_, rfl⟩
  obtain ⟨q, hqq⟩ : ∃ p, (c == 127) = p := ⟨_, rfl⟩
  obtain ⟨r, hrr⟩ : ∃ p, decide (c.toNat < 32) = p := ⟨_, rfl⟩
  have h32 : decide ((c.toNat : Int) < 32) = r := by rw [← hrr, decide_eq_decide]; omega
  rw [hpp, hqq, hrr]
  rw [hpp] at h9n
  rw [hqq] at h127
  clear e1 e2 h9 hp hpp hqq hrr
  cases p <;> cases q <;> cases r
  all_goals first | (have g : (c.toNat : Int) < 32 := of_decide_eq_true h32) | (have g : ¬ (c.toNat : Int) < 32 := of_decide_eq_false h32)
  all_goals
    go_enter Tryd.func49, Tryd.ntmps49
    go_wp2_with fail
    go_ret
    exact ⟨rfl, rfl⟩
set_option maxRecDepth 100000 in
/-- Token's predicate: a byte that a token may not have; kinds' array lies in block B. -/
theorem as_tokenP (c : UInt8) (B : Nat) (w : World) (h : c.toNat < 128 → w.cell? ⟨B, c.toNat, none⟩ = some (.bool (tokC c))) : Calls Tryd.prog 48 #[.int .u8 c.toNat, .pointer (some ⟨B, 0, none⟩)] w fun e w' => e = .returned (.bool (!tokC c)) ∧ w' = w := by
  have hb : (c.toNat : Int) ≤ 255 := by have := c.toNat_lt; omega
  by_cases h128 : 128 ≤ c.toNat
  · have hn : tokC c = false := by
      unfold tokC ltr
      rw [Bool.or_eq_false_iff]
      refine ⟨by simp; omega, ?_⟩
      rw [List.contains_eq_mem, decide_eq_false_iff_not]
      intro hm
      simp only [tokP, List.mem_cons, List.not_mem_nil, or_false] at hm
      rcases hm with rfl | rfl | rfl | rfl | rfl | rfl | rfl | rfl | rfl | rfl | rfl | rfl | rfl | rfl | rfl <;> simp at h128
    rw [hn]
    have g : (128 : Int) ≤ c.toNat := by omega
    clear h hn
    go_enter Tryd.func48, Tryd.ntmps48
    go_wp2_with fail
    go_ret
    exact ⟨rfl, rfl⟩
  · have hc := h (by omega)
    obtain ⟨p, hp⟩ : ∃ p, tokC c = p := ⟨_, rfl⟩
    rw [hp] at hc ⊢
    have g : ¬ (128 : Int) ≤ c.toNat := by omega
    have g2 : (c.toNat : Int) < 128 := by omega
    clear h hp
    go_enter Tryd.func48, Tryd.ntmps48
    go_wp2_with fail
    go_ret
    exact ⟨rfl, rfl⟩
end Go.Proofs.YthgmgmbjjjnhnaaDoor
namespace Go.Proofs.YthgmgmbjjjnhnaaDoor
open Go.RowKit

def kindS : ByteArray := ⟨#[33, 35, 36, 37, 38, 39, 42, 43, 45, 46, 94, 95, 96, 124, 126, 48, 49, 50, 51, 52, 53, 54, 55, 56, 57, 97, 98, 99, 100, 101, 102, 103, 104, 105, 106, 107, 108, 109, 110, 111, 112, 113, 114, 115, 116, 117, 118, 119, 120, 121, 122, 65, 66, 67, 68, 69, 70, 71, 72, 73, 74, 75, 76, 77, 78, 79, 80, 81, 82, 83, 84, 85, 86, 87, 88, 89, 90]⟩
theorem kindS_size : kindS.size = 77 := rfl
theorem kindS_tok' : ∀ n : Fin 256, kindS.data.toList.contains (UInt8.ofNat n.val) = tokC (UInt8.ofNat n.val) := by decide +kernel
theorem kindS_tok (c : UInt8) : kindS.data.toList.contains c = tokC c := by
  have := kindS_tok' ⟨c.toNat, c.toNat_lt⟩
  simpa using this
theorem kindS_lt : ∀ c ∈ kindS.data.toList, c.toNat < 128 := by decide +kernel
/-- The array behind these bytes. -/
def kndA (l : List UInt8) : Array Value := l.foldl (fun a c => a.setIfInBounds c.toNat (.bool true)) (Array.replicate 128 (.bool false))
theorem kndA_snoc (l : List UInt8) (c : UInt8) : kndA (l ++ [c]) = (kndA l).setIfInBounds c.toNat (.bool true) := by simp [kndA, List.foldl_append]
theorem knd_fold (l : List UInt8) : ∀ a : Array Value, (l.foldl (fun a c => a.setIfInBounds c.toNat (Value.bool true)) a).size = a.size := by
  induction l with
  | nil => intro a; rfl
  | cons c l ih => intro a; rw [List.foldl_cons, ih]; simp
theorem kndA_size (l : List UInt8) : (kndA l).size = 128 := by
  unfold kndA
  rw [knd_fold]
  simp
theorem knd_at (l : List UInt8) : ∀ (a : Array Value) (c : UInt8), c.toNat < a.size → (l.foldl (fun a c => a.setIfInBounds c.toNat (Value.bool true)) a)[c.toNat]? = if l.contains c then some (.bool true) else a[c.toNat]? := by
  induction l with
  | nil => intro a c _; simp
  | cons d l ih =>
    intro a c h
    rw [List.foldl_cons, ih _ _ (by simpa using h), List.contains_cons]
    by_cases hc : l.contains c = true
    · rw [if_pos hc, if_pos (by rw [hc, Bool.or_true])]
    · rw [if_neg hc]
      by_cases hd : c = d
      · subst hd
        rw [if_pos (by simp), Array.getElem?_setIfInBounds, if_pos rfl, if_pos h]
      · rw [if_neg (by simp only [Bool.or_eq_true, beq_iff_eq]; rintro (h | h); exact hd h; exact hc h), Array.getElem?_setIfInBounds, if_neg (fun e => hd (UInt8.toNat_inj.1 e.symm))]
theorem kndA_at (l : List UInt8) (c : UInt8) (h : c.toNat < 128) : (kndA l)[c.toNat]? = some (.bool (l.contains c)) := by
  unfold kndA
  rw [knd_at l _ c (by simpa using h)]
  by_cases hc : l.contains c = true
  · rw [if_pos hc, hc]
  · rw [if_neg hc, Array.getElem?_replicate, if_pos h]
    simp only [Bool.not_eq_true] at hc
    rw [hc]
theorem knd_one (l : List UInt8) : ∀ a : Array Value, a.all (·.oneCell') = true → (l.foldl (fun a c => a.setIfInBounds c.toNat (Value.bool true)) a).all (·.oneCell') = true := by
  induction l with
  | nil => intro a h; exact h
  | cons c l ih =>
    intro a h
    rw [List.foldl_cons]
    apply ih
    rw [Array.all_eq_true_iff_forall_mem] at h ⊢
    intro x hx
    rcases Array.mem_or_eq_of_mem_setIfInBounds hx with hx | rfl
    · exact h x hx
    · rfl
theorem kndA_one (l : List UInt8) : (kndA l).all (·.oneCell') = true := by
  unfold kndA
  apply knd_one
  rw [Array.all_eq_true_iff_forall_mem]
  intro x hx
  rw [(Array.mem_replicate.1 hx).2]
  rfl
theorem knd_zero : Tryd.zeroCells92 = kndA [] := by kernel_rfl
theorem knd_info : (Tryd.prog.info? 92).map (·.size) = some 128 := by kernel_rfl
theorem iter_cell (w : World) (D : Array Value) (t : TypeId) (s : ByteArray) (pos j : Nat) : ((w.alloc (.cells D t)).iter s pos).cell? ⟨w.heap.size, j, none⟩ = D[j]? := by
  unfold World.iter
  rw [World.cell?_alloc_lt _ _ _ (by simp), World.cell?_alloc_new]
theorem iter_frozen (w : World) (D : Array Value) (t : TypeId) (s : ByteArray) (pos j : Nat) : ((w.alloc (.cells D t)).iter s pos).frozen? ⟨w.heap.size, j, none⟩ = false := by
  unfold World.iter World.frozen? World.alloc
  simp [Array.getElem?_push]
theorem iter_set (w : World) (D : Array Value) (t : TypeId) (s : ByteArray) (pos j : Nat) (v : Value) : ((w.alloc (.cells D t)).iter s pos).setCell ⟨w.heap.size, j, none⟩ v = (w.alloc (.cells (D.setIfInBounds j v) t)).iter s pos := by
  simp only [World.setCell, World.alloc, World.iter]
  congr 1
  apply Array.ext_getElem?
  intro i
  rw [Array.getElem?_modify]
  by_cases h : w.heap.size = i
  · subst h
    simp [Array.getElem?_push]
  · have h' : ¬ i = w.heap.size := fun e => h e.symm
    simp [h, h', Array.getElem?_push]
theorem knd_iter (w : World) (D : Array Value) (t : TypeId) (s : ByteArray) (pos : Nat) : ((w.alloc (.cells D t)).iter s pos).iterPos (w.heap.size + 1) = pos := by
  have := World.iterPos_iter (w.alloc (.cells D t)) s pos
  simpa using this
theorem row_same {w : World} {g : Nat} {D : Array Value} {t : TypeId} {fr : Nat × Nat} (hg : w.heap[g]? = some (.cells D t fr)) : w.setRow g D = w := by
  simp only [World.setRow]
  have : w.heap.modify g (fun o => match o with | .cells _ t fr => .cells D t fr | o => o) = w.heap := by
    apply Array.ext_getElem?
    intro i
    rw [Array.getElem?_modify]
    by_cases h : g = i
    · subst h
      rw [if_pos rfl, hg]
      rfl
    · rw [if_neg h]
  cases w
  simp only at this ⊢
  congr 1
set_option maxHeartbeats 4000000 in
set_option maxRecDepth 100000 in
theorem as_kinds (w : World) : Calls Tryd.prog 46 #[] w (Ret w (.agg (kndA kindS.data.toList))) := by
  go_enter Tryd.func46, Tryd.ntmps46
  go_wp2_with fail
  go_loopw [] (fun wr => ∃ pos : Nat, pos ≤ 77 ∧ wr = (w.alloc (.cells (kndA (kindS.data.toList.take pos)) 92)).iter kindS pos) (fun wr => 77 - wr.iterPos (w.heap.size + 1))
  case atStart => exact ⟨0, Nat.zero_le _, by rw [knd_zero]; rfl⟩
  case round =>
    obtain ⟨pos, hpos, rfl⟩ := hrel
    by_cases hlt : pos < 77
    · have hlt' : pos < kindS.size := hlt
      have hmem : kindS[pos]'hlt' ∈ kindS.data.toList := by rw [List.mem_iff_getElem?]; exact ⟨pos, getElem_data kindS pos hlt'⟩
      have h128 := kindS_lt _ hmem
      have hnx : ∀ ty, (Instr.next (.pointer (some ⟨w.heap.size + 1, 0, none⟩)) true ty).run Tryd.prog ((w.alloc (.cells (kndA (kindS.data.toList.take pos)) 92)).iter kindS pos) = .ok (.tuple #[.bool true, .int .i64 pos, .int .i32 (kindS[pos]'hlt').toNat]) ((w.alloc (.cells (kndA (kindS.data.toList.take pos)) 92)).iter kindS (pos + 1)) := fun ty => by
        have := run_next_ascii (P := Tryd.prog) (w.alloc (.cells (kndA (kindS.data.toList.take pos)) 92)) kindS pos ty hlt' h128
        simpa using this
      obtain ⟨c, hc⟩ : ∃ c, kindS[pos]'hlt' = c := ⟨_, rfl⟩
      have hsn : kindS.data.toList.take (pos + 1) = kindS.data.toList.take pos ++ [c] := by rw [take_snoc kindS pos hlt', hc]
      rw [hc] at hnx h128
      obtain ⟨D, hD⟩ : ∃ D, kndA (kindS.data.toList.take pos) = D := ⟨_, rfl⟩
      have hset : kndA (kindS.data.toList.take (pos + 1)) = D.setIfInBounds c.toNat (.bool true) := by rw [hsn, kndA_snoc, hD]
      have hDc : D[c.toNat]? = some (.bool ((kindS.data.toList.take pos).contains c)) := by rw [← hD]; exact kndA_at _ c h128
      rw [hD] at hnx ⊢
      have hcell := (iter_cell w D 92 kindS (pos + 1) c.toNat).trans hDc
      have hfr := iter_frozen w D 92 kindS (pos + 1) c.toNat
      have hst := iter_set w D 92 kindS (pos + 1) c.toNat (.bool true)
      have HSET := Lib.hid hset
      have g1 : (c.toNat : Int) < 128 := by omega
      clear hset hsn hD hDc hmem hc
      go_wp2_with fail
      refine ⟨⟨pos + 1, by omega, by rw [HSET.out]⟩, ?_⟩
      rw [knd_iter, knd_iter]
      omega
    · obtain rfl : pos = 77 := by omega
      have hnx : ∀ ty, (Instr.next (.pointer (some ⟨w.heap.size + 1, 0, none⟩)) true ty).run Tryd.prog ((w.alloc (.cells (kndA (kindS.data.toList.take 77)) 92)).iter kindS 77) = .ok (.tuple #[.bool false]) ((w.alloc (.cells (kndA (kindS.data.toList.take 77)) 92)).iter kindS 77) := fun ty => by
        have := run_next_end (P := Tryd.prog) (w.alloc (.cells (kndA (kindS.data.toList.take 77)) 92)) kindS 77 ty (by decide)
        simpa using this
      have hfull : kindS.data.toList.take 77 = kindS.data.toList := rfl
      rw [hfull] at hnx ⊢
      have hDs := kndA_size kindS.data.toList
      have hDo := kndA_one kindS.data.toList
      obtain ⟨D, hD⟩ : ∃ D, kndA kindS.data.toList = D := ⟨_, rfl⟩
      rw [hD] at hnx hDs hDo ⊢
      have hinfo : (Tryd.prog.info? 92).map (·.size) = some D.size := by rw [hDs]; exact knd_info
      have hg : ((w.alloc (.cells D 92)).iter kindS 77).heap[w.heap.size]? = some (.cells D 92 (0, 0)) := by
        unfold World.iter
        exact heap_alloc2_old w _ _
      have hrow : ((w.alloc (.cells D 92)).iter kindS 77).setRow w.heap.size D = (w.alloc (.cells D 92)).iter kindS 77 := row_same hg
      have HD := Lib.hid hD
      have HI := Lib.hid hinfo
      have HG := Lib.hid hg
      have HO := Lib.hid hDo
      clear hfull hD hinfo hDs hg hDo
      go_wp2_with (first | (with_reducible refine wpList_load_row rfl _ (.tmp 0) rfl w.heap.size rfl _ D (0, 0) _ HG.out Tryd.underlying92 rfl HI.out ?_) | (with_reducible refine wpList_store_row rfl _ (.tmp 0) (.tmp 9) rfl w.heap.size D rfl rfl _ D HG.out HI.out rfl HO.out ?_))
      rw [hrow]
      refine bodyPost_ret (v := .agg D) (results_cell_row rfl _ _ w.heap.size _ D (0, 0) _ rfl HG.out Tryd.underlying92 rfl HI.out) rfl ⟨by rw [HD.out], ?_⟩
      unfold World.iter
      go_grown
end Go.Proofs.YthgmgmbjjjnhnaaDoor
namespace Go.Proofs.YthgmgmbjjjnhnaaDoor
open Go.RowKit

set_option maxHeartbeats 4000000 in
theorem idx_plain (B n cap : Nat) (l : List UInt8) (hn : l.length = n) (hn2 : n ≤ 1000000) (w : World) (hc : ∀ j (h : j < l.length), w.cell? ⟨B, j, none⟩ = some (.int .u8 l[j].toNat)) :
    Calls Tryd.prog 65 #[.slice (some ⟨B, 0, none⟩) n cap, .func (.func 49) #[] #[]] w fun e w' => ∃ m : Int, e = .returned (.int .i64 m) ∧ decide (0 ≤ m) = l.any (fun c => !plnC c) ∧ w' = w := by
  have HC := Lib.hid hc
  have HN := Lib.hid hn
  clear hc hn
  go_enter Tryd.func65, Tryd.ntmps65
  go_wp2_with fail
  go_loop [8] (fun i => ∃ k : Nat, k ≤ n ∧ i = .int .i64 k ∧ (l.take k).any (fun c => !plnC c) = false) (fun i => n - (intOf i).toNat)
  case atStart => exact ⟨0, Nat.zero_le _, rfl, rfl⟩
  case round =>
    obtain ⟨k, hk, rfl, hno⟩ := hrel
    have HNO := Lib.hid hno
    clear hno
    by_cases hlt : k < n
    · have hx : k < l.length := by have := HN.out; omega
      have hcell := HC.out k hx
      have P := fun w => as_plainP l[k] w
      obtain ⟨c, hcc⟩ : ∃ c, l[k] = c := ⟨_, rfl⟩
      rw [hcc] at hcell
      simp only [hcc] at P
      have hsn : (l.take (k + 1)).any (fun c => !plnC c) = !plnC c := by
        rw [List.take_succ_eq_append_getElem hx, List.any_append, HNO.out, hcc]
        simp
      cases hp : plnC c with
      | true =>
        rw [hp] at hsn
        simp only [hp] at P
        have PH := Lib.hid P
        have HS := Lib.hid hsn
        clear P hsn hp hcc
        go_wp2_with fail
        refine (PH.out _).mono ?_
        rintro e w1 ⟨rfl, rfl⟩
        go_wp2_with fail
        go_round
        case rel => exact ⟨k + 1, by omega, by go_num, HS.out⟩
        case measure => simp [intOf]; omega
      | false =>
        simp only [hp] at P
        have PH := Lib.hid P
        have hany : l.any (fun c => !plnC c) = true := by
          rw [List.any_eq_true]
          exact ⟨c, by rw [← hcc]; exact List.getElem_mem hx, by simp [hp]⟩
        have HA := Lib.hid hany
        clear P hsn hp hcc hany
        go_wp2_with fail
        refine (PH.out _).mono ?_
        rintro e w1 ⟨rfl, rfl⟩
        go_wp2_with fail
        go_ret
        exact ⟨(k : Int), rfl, by rw [HA.out]; simp, rfl⟩
    · have hno := HNO.out
      rw [List.take_of_length_le (by have := HN.out; omega)] at hno
      have HNO2 := Lib.hid hno
      clear hno
      go_wp2_with fail
      go_ret
      exact ⟨-1, rfl, by rw [HNO2.out]; rfl, rfl⟩
theorem has_plain (B n cap : Nat) (l : List UInt8) (hn : l.length = n) (hn2 : n ≤ 1000000) (w : World) (hc : ∀ j (h : j < l.length), w.cell? ⟨B, j, none⟩ = some (.int .u8 l[j].toNat)) :
    Calls Tryd.prog 47 #[.slice (some ⟨B, 0, none⟩) n cap, .func (.func 49) #[] #[]] w fun e w' => e = .returned (.bool (l.any (fun c => !plnC c))) ∧ w' = w := by
  have C := Lib.hid (idx_plain B n cap l hn hn2 w hc)
  obtain ⟨p, hp⟩ : ∃ p, l.any (fun c => !plnC c) = p := ⟨_, rfl⟩
  rw [hp] at C ⊢
  clear hc hn hp
  go_enter Tryd.func47, Tryd.ntmps47
  go_wp2_with fail
  refine (C.out).mono ?_
  rintro e w1 ⟨m, rfl, hm, rfl⟩
  cases p with
  | true =>
    have g : (0 : Int) ≤ m := of_decide_eq_true hm
    clear hm
    go_wp2_with fail
    go_ret
    exact ⟨ret_b (by first | rfl | simp [g]), rfl⟩
  | false =>
    have g : ¬ (0 : Int) ≤ m := of_decide_eq_false hm
    clear hm
    go_wp2_with fail
    go_ret
    exact ⟨ret_b (by first | rfl | simp [g]), rfl⟩

set_option maxHeartbeats 4000000 in
theorem idx_token (B n cap K : Nat) (l : List UInt8) (hn : l.length = n) (hn2 : n ≤ 1000000) (w : World) (hc : ∀ j (h : j < l.length), w.cell? ⟨B, j, none⟩ = some (.int .u8 l[j].toNat)) (hA : ∀ c : UInt8, c.toNat < 128 → w.cell? ⟨K, c.toNat, none⟩ = some (.bool (tokC c))) :
    Calls Tryd.prog 65 #[.slice (some ⟨B, 0, none⟩) n cap, .func (.func 48) #[] #[.pointer (some ⟨K, 0, none⟩)]] w fun e w' => ∃ m : Int, e = .returned (.int .i64 m) ∧ decide (0 ≤ m) = l.any (fun c => !tokC c) ∧ w' = w := by
  have HC := Lib.hid hc
  have HN := Lib.hid hn
  have HAH := Lib.hid hA
  clear hc hn hA
  go_enter Tryd.func65, Tryd.ntmps65
  go_wp2_with fail
  go_loop [8] (fun i => ∃ k : Nat, k ≤ n ∧ i = .int .i64 k ∧ (l.take k).any (fun c => !tokC c) = false) (fun i => n - (intOf i).toNat)
  case atStart => exact ⟨0, Nat.zero_le _, rfl, rfl⟩
  case round =>
    obtain ⟨k, hk, rfl, hno⟩ := hrel
    have HNO := Lib.hid hno
    clear hno
    by_cases hlt : k < n
    · have hx : k < l.length := by have := HN.out; omega
      have hcell := HC.out k hx
      have P := fun w => fun (hw : l[k].toNat < 128 → w.cell? ⟨K, l[k].toNat, none⟩ = some (.bool (tokC l[k]))) => as_tokenP l[k] K w hw
      obtain ⟨c, hcc⟩ : ∃ c, l[k] = c := ⟨_, rfl⟩
      rw [hcc] at hcell
      simp only [hcc] at P
      have hsn : (l.take (k + 1)).any (fun c => !tokC c) = !tokC c := by
        rw [List.take_succ_eq_append_getElem hx, List.any_append, HNO.out, hcc]
        simp
      cases hp : tokC c with
      | true =>
        rw [hp] at hsn
        simp only [hp] at P
        have PH := Lib.hid P
        have HPP := Lib.hid hp
        have HS := Lib.hid hsn
        clear P hsn hp hcc
        go_wp2_with fail
        refine (PH.out _ (fun h => by rw [← HPP.out]; exact HAH.out c h)).mono ?_
        rintro e w1 ⟨rfl, rfl⟩
        go_wp2_with fail
        go_round
        case rel => exact ⟨k + 1, by omega, by go_num, HS.out⟩
        case measure => simp [intOf]; omega
      | false =>
        simp only [hp] at P
        have PH := Lib.hid P
        have HPP := Lib.hid hp
        have hany : l.any (fun c => !tokC c) = true := by
          rw [List.any_eq_true]
          exact ⟨c, by rw [← hcc]; exact List.getElem_mem hx, by simp [hp]⟩
        have HA := Lib.hid hany
        clear P hsn hp hcc hany
        go_wp2_with fail
        refine (PH.out _ (fun h => by rw [← HPP.out]; exact HAH.out c h)).mono ?_
        rintro e w1 ⟨rfl, rfl⟩
        go_wp2_with fail
        go_ret
        exact ⟨(k : Int), rfl, by rw [HA.out]; simp, rfl⟩
    · have hno := HNO.out
      rw [List.take_of_length_le (by have := HN.out; omega)] at hno
      have HNO2 := Lib.hid hno
      clear hno
      go_wp2_with fail
      go_ret
      exact ⟨-1, rfl, by rw [HNO2.out]; rfl, rfl⟩
theorem has_token (B n cap K : Nat) (l : List UInt8) (hn : l.length = n) (hn2 : n ≤ 1000000) (w : World) (hc : ∀ j (h : j < l.length), w.cell? ⟨B, j, none⟩ = some (.int .u8 l[j].toNat)) (hA : ∀ c : UInt8, c.toNat < 128 → w.cell? ⟨K, c.toNat, none⟩ = some (.bool (tokC c))) :
    Calls Tryd.prog 47 #[.slice (some ⟨B, 0, none⟩) n cap, .func (.func 48) #[] #[.pointer (some ⟨K, 0, none⟩)]] w fun e w' => e = .returned (.bool (l.any (fun c => !tokC c))) ∧ w' = w := by
  have C := Lib.hid (idx_token B n cap K l hn hn2 w hc hA)
  obtain ⟨p, hp⟩ : ∃ p, l.any (fun c => !tokC c) = p := ⟨_, rfl⟩
  rw [hp] at C ⊢
  clear hc hn hp hA
  go_enter Tryd.func47, Tryd.ntmps47
  go_wp2_with fail
  refine (C.out).mono ?_
  rintro e w1 ⟨m, rfl, hm, rfl⟩
  cases p with
  | true =>
    have g : (0 : Int) ≤ m := of_decide_eq_true hm
    clear hm
    go_wp2_with fail
    go_ret
    exact ⟨ret_b (by first | rfl | simp [g]), rfl⟩
  | false =>
    have g : ¬ (0 : Int) ≤ m := of_decide_eq_false hm
    clear hm
    go_wp2_with fail
    go_ret
    exact ⟨ret_b (by first | rfl | simp [g]), rfl⟩

theorem any_all_not (l : List UInt8) (p : UInt8 → Bool) : (!l.any fun c => !p c) = l.all p := by
  induction l with
  | nil => rfl
  | cons c l ih => rw [List.any_cons, List.all_cons, Bool.not_or, Bool.not_not, ih]
set_option maxHeartbeats 2000000 in
theorem as_Plain (s : ByteArray) (w : World) (hs : s.size ≤ 1000000) : Calls Tryd.prog 26 #[.string s] w (Ret w (.bool (pln s.data.toList))) := by
  obtain ⟨cap, C, hC, hCs, hcv⟩ := str_bytes (P := Tryd.prog) w 9 29 5 s Tryd.underlying9 Tryd.underlying29 Tryd.underlying5
  have H := Lib.hid (has_plain w.heap.size s.size cap s.data.toList (size_toList s) hs ((w.alloc (.cells C 5 (C.size, C.size + 1))).drew) (fun j h => by
    rw [size_toList] at h
    exact (World.cell?_alloc_mark w C _ _ j).trans (hC j h)))
  have hq : (!s.data.toList.any fun c => !plnC c) = pln s.data.toList := by unfold pln; exact any_all_not _ _
  obtain ⟨p, hp⟩ : ∃ p, (s.data.toList.any fun c => !plnC c) = p := ⟨_, rfl⟩
  rw [hp] at H hq
  have HQ := Lib.hid hq
  clear hC hp hq
  go_enter Tryd.func26, Tryd.ntmps26
  go_wp2_with fail
  refine (H.out).mono ?_
  rintro e w1 ⟨rfl, rfl⟩
  go_wp2_with fail
  go_ret
  rw [← HQ.out]
  exact ⟨rfl, by go_grown⟩
set_option maxHeartbeats 4000000 in
set_option maxRecDepth 100000 in
theorem as_Token (s : ByteArray) (w : World) (hs : s.size ≤ 1000000) : Calls Tryd.prog 24 #[.string s] w (Ret w (.bool (tok s.data.toList))) := by
  have K := Lib.hid (as_kinds w)
  have hDs := kndA_size kindS.data.toList
  have hDo := kndA_one kindS.data.toList
  have hDa : ∀ c : UInt8, c.toNat < 128 → (kndA kindS.data.toList)[c.toNat]? = some (.bool (tokC c)) := fun c h => by rw [kndA_at _ c h, kindS_tok]
  obtain ⟨D, hD⟩ : ∃ D, kndA kindS.data.toList = D := ⟨_, rfl⟩
  rw [hD] at K hDs hDo hDa
  have hinfo : (Tryd.prog.info? 92).map (·.size) = some D.size := by rw [hDs]; exact knd_info
  have hz : (Tryd.zeroCells92).size = D.size := by rw [hDs, knd_zero, kndA_size]
  have HDA := Lib.hid hDa
  have HI := Lib.hid hinfo
  have HO := Lib.hid hDo
  have HZ := Lib.hid hz
  clear hD hDs hDo hDa hinfo hz
  by_cases h0 : s.size = 0
  · obtain rfl : s = ⟨#[]⟩ := str_ext (List.eq_nil_of_length_eq_zero (by rw [size_toList]; exact h0))
    go_enter Tryd.func24, Tryd.ntmps24
    go_wp2_with fail
    refine (K.out).mono ?_
    rintro e w1 ⟨rfl, hb1⟩
    have hrow := World.setRow_alloc_new w1 Tryd.zeroCells92 D 92
    have hs1 := hb1.size
    go_wp2_with (with_reducible refine wpList_store_row rfl _ (.tmp 3) (.tmp 4) rfl w1.heap.size D rfl rfl _ _ (heap_alloc_new w1 _) HI.out HZ.out HO.out ?_)
    go_ret
    exact ⟨rfl, hb1.alloc hs1 _⟩
  have e1 := isEmpty_of_pos (s := s) (by omega)
  have e2 := ne_nil_of_pos (s := s) (by omega)
  have hq : (!s.data.toList.any fun c => !tokC c) = tok s.data.toList := by
    unfold tok
    rw [any_all_not]
    rw [Lib.toList_data] at e1
    rw [e1]
    rfl
  obtain ⟨p, hp⟩ : ∃ p, (s.data.toList.any fun c => !tokC c) = p := ⟨_, rfl⟩
  rw [hp] at hq
  have HQ := Lib.hid hq
  have HP := Lib.hid hp
  clear hq hp h0
  go_enter Tryd.func24, Tryd.ntmps24
  go_wp2_with fail
  refine (K.out).mono ?_
  rintro e w1 ⟨rfl, hb1⟩
  have hrow := World.setRow_alloc_new w1 Tryd.zeroCells92 D 92
  have hs1 := hb1.size
  obtain ⟨cap, C, hC, hCs, hcv⟩ := str_bytes (P := Tryd.prog) (w1.alloc (.cells D 92)) 9 29 5 s Tryd.underlying9 Tryd.underlying29 Tryd.underlying5
  have H0 := has_token (w1.heap.size + 1) s.size cap w1.heap.size s.data.toList (size_toList s) hs (((w1.alloc (.cells D 92)).alloc (.cells C 5 (C.size, C.size + 1))).drew) (fun j h => by
    rw [size_toList] at h
    have hz1 : (w1.alloc (.cells D 92)).heap.size = w1.heap.size + 1 := by simp
    rw [← hz1]
    exact (World.cell?_alloc_mark (w1.alloc (.cells D 92)) C 5 (C.size, C.size + 1) j).trans (hC j h)) (fun c h => by
    rw [World.cell?_drew, World.cell?_alloc_lt _ _ _ (by simp), World.cell?_alloc_new]
    exact HDA.out c h)
  rw [HP.out] at H0
  have H := Lib.hid H0
  have hcv2 : (convert 9 29 (.string s)).run Tryd.prog (w1.alloc (.cells D 92)) = .ok (.slice (some ⟨w1.heap.size + 1, 0, none⟩) s.size cap) (((w1.alloc (.cells D 92)).alloc (.cells C 5 (C.size, C.size + 1))).drew) := by simpa using hcv
  clear H0 hC hcv
  go_wp2_with (with_reducible refine wpList_store_row rfl _ (.tmp 3) (.tmp 4) rfl w1.heap.size D rfl rfl _ _ (heap_alloc_new w1 _) HI.out HZ.out HO.out ?_)
  refine (H.out).mono ?_
  rintro e w2 ⟨rfl, rfl⟩
  go_wp2_with fail
  go_ret
  rw [← HQ.out]
  exact ⟨rfl, (((hb1.alloc hs1 _).alloc (by simp; omega) _).drew)⟩
end Go.Proofs.YthgmgmbjjjnhnaaDoor
