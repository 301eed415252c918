/- AsA, AsB, AsC, AsD, AsE, AsG, AsH, AsI: put together by mergetpl.py. -/
import Derived.Test.YtfonkblbgadhmaaGreatDoorGa
import Derived.Deep.QuietTactic
import Derived.BigQuiet
import Derived.IntWalk
import Derived.Laws.BitsLemmas
import Derived.Deep.WholeRow
import Derived.Laws.ResultCell
import Derived.Laws.RangeString
namespace Go.Proofs.YtfonkblbgadhmaaGreatDoor
open Go.RowKit

set_option maxHeartbeats 4000000 in
theorem r7_Lower (s : ByteArray) (w : World) (hs : s.size ≤ 1000000) : Calls Tryz.prog 125 #[.string s] w (Ret w (.string ⟨(lowL s.data.toList).toArray⟩)) := by
  go_enter Tryz.func125, Tryz.ntmps125
  go_wp2_with fail
  go_loopw [3, 4] (fun v i wr => ∃ k : Nat, k ≤ s.size ∧ i = .int .i64 k ∧ wr.ownsRow w.heap.size 5 1 v k ((lowL (s.data.toList.take k)).map fun c => Value.int .u8 c.toNat) ∧ Below w.heap.size w wr) (fun _ i _ => s.size - (intOf i).toNat)
  case atStart => exact ⟨0, Nat.zero_le _, rfl, World.ownsRow_nil _ _ _ _, Below.refl _ _⟩
  case round =>
    obtain ⟨k, hk, rfl, hown, hBw⟩ := hrel
    obtain ⟨i0, hi, hz0, hz1, hz2⟩ := info_parts vinfo_byte
    have hsz := hBw.size
    by_cases hlt : k < s.size
    · have hsn : lowL (s.data.toList.take (k + 1)) = lowL (s.data.toList.take k) ++ [loB s[k]] := by rw [take_snoc s k hlt, lowL_snoc]
      have HS := Lib.hid hsn
      have HO := Lib.hid hown
      have hb : (s[k].toNat : Int) ≤ 255 := by have := s[k].toNat_lt; omega
      clear hsn hown
      by_cases hc : 65 ≤ s[k].toNat ∧ s[k].toNat ≤ 90
      · have hlo := loB_hi hc.1 hc.2
        obtain ⟨d, hd⟩ : ∃ d, loB s[k] = d := ⟨_, rfl⟩
        rw [hd] at hlo HS
        have hdd : (s[k].toNat : Int) + 32 = (d.toNat : Int) := by omega
        have g1 : (65 : Int) ≤ s[k].toNat := by omega
        have g2 : (s[k].toNat : Int) ≤ 90 := by omega
        have HDD := Lib.hid hdd
        clear hc hlo hd hdd
        go_wp2_with (at_builtin; refine wpList_app1 rfl _ _ 48 rfl w.heap.size 5 i0 (.int .u8 0) 1 Tryz.underlying48 hi hz0 hz1 hz2 rfl _ _ _ rfl HO.out (.int .u8 ((s[k].toNat : Int) + 32)) rfl rfl (by omega) (by omega) (by omega) ?_; intro v' w2 hown' hbel)
        have hb2 := hbel _ hBw
        have hown2 : w2.ownsRow w.heap.size 5 1 v' (k + 1) ((lowL (s.data.toList.take (k + 1))).map fun c => Value.int .u8 c.toNat) := by
          rw [HS.out, List.map_append]
          rw [HDD.out] at hown'
          exact hown'
        have HO2 := Lib.hid hown2
        clear hown' hbel hown2 hi hz0 hz1 hz2
        go_wp2_with fail
        go_roundw
        case rel => exact ⟨k + 1, by omega, by go_num, HO2.out, hb2⟩
        case measure => simp [intOf]; omega
      · have hlo := loB_lo hc
        rw [hlo] at HS
        have g1 : (s[k].toNat : Int) < 65 ∨ 90 < (s[k].toNat : Int) := by omega
        clear hc hlo
        rcases g1 with g1 | g1
        · have g2 : ¬ (65 : Int) ≤ s[k].toNat := by omega
          go_wp2_with (at_builtin; refine wpList_app1 rfl _ _ 48 rfl w.heap.size 5 i0 (.int .u8 0) 1 Tryz.underlying48 hi hz0 hz1 hz2 rfl _ _ _ rfl HO.out (.int .u8 s[k].toNat) rfl rfl (by omega) (by omega) (by omega) ?_; intro v' w2 hown' hbel)
          have hb2 := hbel _ hBw
          have hown2 : w2.ownsRow w.heap.size 5 1 v' (k + 1) ((lowL (s.data.toList.take (k + 1))).map fun c => Value.int .u8 c.toNat) := by
            rw [HS.out, List.map_append]
            exact hown'
          have HO2 := Lib.hid hown2
          clear hown' hbel hown2 hi hz0 hz1 hz2
          go_wp2_with fail
          go_roundw
          case rel => exact ⟨k + 1, by omega, by go_num, HO2.out, hb2⟩
          case measure => simp [intOf]; omega
        · have g2 : (65 : Int) ≤ s[k].toNat := by omega
          have g3 : ¬ (s[k].toNat : Int) ≤ 90 := by omega
          go_wp2_with (at_builtin; refine wpList_app1 rfl _ _ 48 rfl w.heap.size 5 i0 (.int .u8 0) 1 Tryz.underlying48 hi hz0 hz1 hz2 rfl _ _ _ rfl HO.out (.int .u8 s[k].toNat) rfl rfl (by omega) (by omega) (by omega) ?_; intro v' w2 hown' hbel)
          have hb2 := hbel _ hBw
          have hown2 : w2.ownsRow w.heap.size 5 1 v' (k + 1) ((lowL (s.data.toList.take (k + 1))).map fun c => Value.int .u8 c.toNat) := by
            rw [HS.out, List.map_append]
            exact hown'
          have HO2 := Lib.hid hown2
          clear hown' hbel hown2 hi hz0 hz1 hz2
          go_wp2_with fail
          go_roundw
          case rel => exact ⟨k + 1, by omega, by go_num, HO2.out, hb2⟩
          case measure => simp [intOf]; omega
    · obtain rfl : k = s.size := by omega
      rw [List.take_of_length_le (by rw [size_toList]; exact Nat.le_refl _)] at hown
      have hcv := conv_own hown
      obtain ⟨l, hl⟩ : ∃ l, lowL s.data.toList = l := ⟨_, rfl⟩
      rw [hl] at hcv
      have HL := Lib.hid hl
      clear hown hl hi hz0 hz1 hz2
      go_wp2_with fail
      go_ret
      rw [HL.out]
      exact ⟨rfl, hBw⟩
end Go.Proofs.YtfonkblbgadhmaaGreatDoor
namespace Go.Proofs.YtfonkblbgadhmaaGreatDoor
open Go.RowKit

end Go.Proofs.YtfonkblbgadhmaaGreatDoor
namespace Go.Proofs.YtfonkblbgadhmaaGreatDoor
open Go.RowKit

theorem all_no (s : ByteArray) (k : Nat) (h : k < s.size) {p : UInt8 → Bool} (hp : p s[k] = false) : s.data.toList.all p = false := by
  rw [List.all_eq_false]
  exact ⟨s[k], by rw [List.mem_iff_getElem?]; exact ⟨k, getElem_data s k h⟩, by simp [hp]⟩
theorem tok_iv (c : UInt8) : (ltr c = true ∧ 97 ≤ c.toNat ∧ c.toNat ≤ 122) ∨ (ltr c = true ∧ 65 ≤ c.toNat ∧ c.toNat ≤ 90) ∨ (ltr c = true ∧ 48 ≤ c.toNat ∧ c.toNat ≤ 57) ∨ (ltr c = false ∧ 0 ≤ c.toNat ∧ c.toNat ≤ 47) ∨ (ltr c = false ∧ 58 ≤ c.toNat ∧ c.toNat ≤ 64) ∨ (ltr c = false ∧ 91 ≤ c.toNat ∧ c.toNat ≤ 96) ∨ (ltr c = false ∧ 123 ≤ c.toNat ∧ c.toNat ≤ 255) := by
  have := c.toNat_lt
  cases h : ltr c with
  | true =>
    unfold ltr at h
    simp only [Bool.or_eq_true, Bool.and_eq_true, decide_eq_true_eq] at h
    simp
    omega
  | false =>
    unfold ltr at h
    simp only [Bool.or_eq_false_iff, Bool.and_eq_false_iff, decide_eq_false_iff_not] at h
    simp
    omega
end Go.Proofs.YtfonkblbgadhmaaGreatDoor
namespace Go.Proofs.YtfonkblbgadhmaaGreatDoor
open Go.RowKit

/-- A list of texts of the call's own. -/
abbrev OwnS (B : Nat) (v : Value) (xs : List (List UInt8)) (w : World) : Prop := w.ownsRow B 9 1 v xs.length (strV xs)
end Go.Proofs.YtfonkblbgadhmaaGreatDoor
namespace Go.Proofs.YtfonkblbgadhmaaGreatDoor
open Go.RowKit

theorem below_drewN (w : World) (n : Nat) : Below w.heap.size w (w.drewN n) := ⟨rfl, rfl, rfl, Nat.le_refl _, fun _ _ => rfl⟩
theorem beq_str (X Y : ByteArray) (x y : List UInt8) (hx : X.data.toList = x) (hy : Y.data.toList = y) : (X.toList == Y.toList) = decide (x = y) := by
  rw [Lib.toList_data, Lib.toList_data, hx, hy, eqb_list]
set_option maxHeartbeats 4000000 in
theorem r4_Same (va vb : Value) (xs ys : List (List UInt8)) (w : World) (ha : IsVals va (strV xs) w) (hb : IsVals vb (strV ys) w) (hl : xs.length ≤ 1000000) :
    Calls Tryz.prog 43 #[va, vb] w (Ret w (.bool (decide (xs = ys)))) := by
  obtain ⟨a, ca, rfl, _, ha⟩ := ha
  obtain ⟨b, cb, rfl, _, hb⟩ := hb
  rw [strV_len, strV_len]
  by_cases hlen : xs.length = ys.length
  rotate_left
  · have h1 : ((xs.length : Int) != (ys.length : Int)) = true := by rw [bne_iff_ne]; omega
    have h2 : (xs.length != ys.length) = true := by rw [bne_iff_ne]; exact hlen
    have hne : decide (xs = ys) = false := by rw [decide_eq_false_iff_not]; intro e; exact hlen (by rw [e])
    rw [hne]
    generalize xs.length = n at *
    generalize ys.length = m at *
    clear ha hb hne hlen
    go_enter Tryz.func43, Tryz.ntmps43
    go_wp2_with fail
    go_ret
    exact ⟨rfl, Below.refl _ _⟩
  · have HA := Lib.hid ha
    have HB := Lib.hid hb
    have HL := Lib.hid hlen
    rw [← hlen]
    obtain ⟨n, hn⟩ : ∃ n, xs.length = n := ⟨_, rfl⟩
    have HN := Lib.hid hn
    rw [hn] at hl ⊢
    clear ha hb hlen hn
    go_enter Tryz.func43, Tryz.ntmps43
    go_wp2_with fail
    go_loopw [5] (fun i wr => ∃ k : Nat, k ≤ n ∧ i = .int .i64 k ∧ (∀ j, j < k → xs[j]? = ys[j]?) ∧ Below w.heap.size w wr) (fun i _ => n - (intOf i).toNat)
    case atStart => exact ⟨0, Nat.zero_le _, rfl, (fun j h => by omega), Below.refl _ _⟩
    case round =>
      obtain ⟨k, hk, rfl, heq, hBw⟩ := hrel
      have HE := Lib.hid heq
      clear heq
      by_cases hlt : k < n
      · have hx : k < xs.length := by have := HN.out; omega
        have hy : k < ys.length := by have := HL.out; omega
        rcases HA.out with h | ⟨b1, o1, rfl, h1⟩
        · have := congrArg List.length h
          rw [strV_len] at this
          simp only [List.length_nil] at this
          omega
        rcases HB.out with h | ⟨b2, o2, rfl, h2⟩
        · have := congrArg List.length h
          rw [strV_len] at this
          simp only [List.length_nil] at this
          omega
        have c1 := (h1.ret hBw).2 k (by rw [strV_len]; exact hx)
        have c2 := (h2.ret hBw).2 k (by rw [strV_len]; exact hy)
        obtain ⟨X, hX⟩ : ∃ X : ByteArray, ⟨(xs[k]).toArray⟩ = X := ⟨_, rfl⟩
        obtain ⟨Y, hY⟩ : ∃ Y : ByteArray, ⟨(ys[k]).toArray⟩ = Y := ⟨_, rfl⟩
        rw [show (strV xs)[k]'(by rw [strV_len]; exact hx) = .string X by rw [← hX]; simp [strV]] at c1
        rw [show (strV ys)[k]'(by rw [strV_len]; exact hy) = .string Y by rw [← hY]; simp [strV]] at c2
        have hq := beq_str X Y xs[k] ys[k] (by rw [← hX]) (by rw [← hY])
        by_cases hxy : xs[k] = ys[k]
        · rw [decide_eq_true hxy] at hq
          have hq2 : (X.toList != Y.toList) = false := by unfold bne; rw [hq]; rfl
          have hnew : ∀ j, j < k + 1 → xs[j]? = ys[j]? := by
            intro j hj
            by_cases hjk : j < k
            · exact HE.out j hjk
            · obtain rfl : j = k := by omega
              rw [List.getElem?_eq_getElem hx, List.getElem?_eq_getElem hy, hxy]
          have HNW := Lib.hid hnew
          clear hxy hnew hX hY h1 h2
          go_wp2_with fail
          go_quiet (fail)
          go_wp2_with fail
          go_roundw
          case rel => exact ⟨k + 1, by omega, by go_num, HNW.out, hBw.trans (⟨rfl, rfl, rfl, Nat.le_refl _, fun _ _ => rfl⟩)⟩
          case measure => simp [intOf]; omega
        · rw [decide_eq_false hxy] at hq
          have hq2 : (X.toList != Y.toList) = true := by unfold bne; rw [hq]; rfl
          have hne : decide (xs = ys) = false := by
            rw [decide_eq_false_iff_not]
            intro e
            apply hxy
            simp only [e]
          have HNE := Lib.hid hne
          clear hxy hX hY h1 h2 hne
          go_wp2_with fail
          go_quiet (fail)
          go_wp2_with fail
          go_ret
          rw [HNE.out]
          exact ⟨rfl, hBw.trans (⟨rfl, rfl, rfl, Nat.le_refl _, fun _ _ => rfl⟩)⟩
      · obtain rfl : k = n := by omega
        have he : decide (xs = ys) = true := by
          rw [decide_eq_true_eq]
          apply List.ext_getElem?
          intro j
          by_cases hj : j < k
          · exact HE.out j hj
          · rw [List.getElem?_eq_none (by have := HN.out; omega), List.getElem?_eq_none (by have := HN.out; have := HL.out; omega)]
        have HE2 := Lib.hid he
        clear he
        go_wp2_with fail
        go_ret
        rw [HE2.out]
        exact ⟨rfl, hBw⟩
/-- What becomes of a list's parts. -/
def lstG (ps : List (List UInt8)) : List (List UInt8) := ((ps.map trm).filter fun x => !x.isEmpty).map lowL
theorem lstG_snoc (ps : List (List UInt8)) (p : List UInt8) : lstG (ps ++ [p]) = lstG ps ++ (if (trm p).isEmpty then [] else [lowL (trm p)]) := by
  unfold lstG
  simp only [List.map_append, List.filter_append, List.map_cons, List.map_nil]
  cases h : (trm p).isEmpty <;> simp [h]
theorem lstG_len (ps : List (List UInt8)) : (lstG ps).length ≤ ps.length := by
  unfold lstG
  rw [List.length_map]
  refine Nat.le_trans (List.length_filter_le _ _) ?_
  simp
theorem cutG_bound (b : UInt8) (l : List UInt8) : ∀ cur, ∀ p ∈ cutG b cur l, p.length ≤ cur.length + l.length := by
  induction l with
  | nil => intro cur p hp; simp [cutG] at hp; subst hp; simp
  | cons c l ih =>
    intro cur p hp
    simp only [cutG] at hp
    split at hp
    · rcases List.mem_cons.1 hp with rfl | hp
      · simp
      · have := ih [] p hp
        simp only [List.length_nil, List.length_cons] at this ⊢
        omega
    · have := ih _ p hp
      simp only [List.length_append, List.length_cons, List.length_nil] at this ⊢
      omega
theorem lstP_bound {l x : List UInt8} (h : x ∈ lstP l) : x.length ≤ l.length := by
  unfold lstP at h
  obtain ⟨y, hy, rfl⟩ := List.mem_map.1 h
  obtain ⟨hy2, _⟩ := List.mem_filter.1 hy
  obtain ⟨z, hz, rfl⟩ := List.mem_map.1 hy2
  have := cutG_bound 44 l [] z hz
  rw [lowL_len]
  have h2 := trm_le z
  simp only [List.length_nil, Nat.zero_add] at this
  omega
/-- What List answers. -/
def LstIs (l : List UInt8) (w : World) (e : Ending) (w' : World) : Prop := ∃ v, e = .returned (.tuple #[v, .int .i64 (lstE l)]) ∧ IsVals v (strV (lstV l)) w' ∧ Below w.heap.size w w'
end Go.Proofs.YtfonkblbgadhmaaGreatDoor
namespace Go.Proofs.YtfonkblbgadhmaaGreatDoor
open Go.RowKit

theorem or32' : ∀ n : Fin 256, 65 ≤ n.val → n.val ≤ 90 → bits .or .u8 (n.val : Int) 32 = ((loB (UInt8.ofNat n.val)).toNat : Int) := by decide +kernel
theorem or32 (c : UInt8) (h : 65 ≤ c.toNat) (h' : c.toNat ≤ 90) : bits .or .u8 (c.toNat : Int) 32 = ((loB c).toNat : Int) := by
  have := or32' ⟨c.toNat, c.toNat_lt⟩ h h'
  simpa using this
theorem mark_frozen (w : World) (D : Array Value) (t : TypeId) (n : Nat) (j : Nat) (h : j < n) : (w.alloc (.cells D t (n, n + 1))).frozen? ⟨w.heap.size, j, none⟩ = false := by
  unfold World.frozen? World.alloc
  simp
  omega
theorem mark_set (w : World) (D : Array Value) (t : TypeId) (fr : Nat × Nat) (j : Nat) (v : Value) : (w.alloc (.cells D t fr)).setCell ⟨w.heap.size, j, none⟩ v = w.alloc (.cells (D.setIfInBounds j v) t fr) := by
  simp only [World.setCell, World.alloc]
  congr 1
  apply Array.ext_getElem?
  intro i
  rw [Array.getElem?_modify]
  by_cases h : w.heap.size = i
  · subst h
    simp
  · have h' : ¬ i = w.heap.size := fun e => h e.symm
    simp [h, h', Array.getElem?_push]
set_option maxHeartbeats 4000000 in
theorem as_Lower (s : ByteArray) (w : World) (hs : s.size ≤ 1000000) : Calls Tryz.prog 104 #[.string s] w (Ret w (.string ⟨(lowL s.data.toList).toArray⟩)) := by
  obtain ⟨cap, C, hC, hCs, hcv⟩ := str_bytes (P := Tryz.prog) w 9 48 5 s Tryz.underlying9 Tryz.underlying48 Tryz.underlying5
  have HC := Lib.hid hC
  obtain ⟨N, hN⟩ : ∃ N, C.size = N := ⟨_, rfl⟩
  have HNN := Lib.hid hN
  rw [hN] at hcv hCs
  clear hC hN
  go_enter Tryz.func104, Tryz.ntmps104
  go_wp2_with fail
  go_loopw [10] (fun i wr => ∃ (k : Nat) (D : Array Value), k ≤ s.size ∧ i = .int .i64 k ∧ D.size = N ∧ (∀ j (h : j < s.size), D[j]? = some (.int .u8 ((if j < k then loB s[j] else s[j]).toNat : Int))) ∧ wr = (w.alloc (.cells D 5 (N, N + 1))).drew) (fun i _ => s.size - (intOf i).toNat)
  case atStart => exact ⟨0, C, Nat.zero_le _, rfl, HNN.out, fun j h => by rw [HC.out j h]; rfl, rfl⟩
  case round =>
    obtain ⟨k, D, hk, rfl, hDs, hD, rfl⟩ := hrel
    by_cases hlt : k < s.size
    · have hDk := hD k hlt
      rw [if_neg (Nat.lt_irrefl k)] at hDk
      have hcell : ((w.alloc (.cells D 5 (N, N + 1))).drew).cell? ⟨w.heap.size, k, none⟩ = some (.int .u8 (s[k].toNat : Int)) := (World.cell?_alloc_mark w D _ _ k).trans hDk
      have hfr : ((w.alloc (.cells D 5 (N, N + 1))).drew).frozen? ⟨w.heap.size, k, none⟩ = false := mark_frozen w D _ N k (by omega)
      have hb : (s[k].toNat : Int) ≤ 255 := by have := s[k].toNat_lt; omega
      have HD := Lib.hid hD
      have HDS := Lib.hid hDs
      clear hD hDk hDs
      by_cases hc : 65 ≤ s[k].toNat ∧ s[k].toNat ≤ 90
      · have hor := or32 s[k] hc.1 hc.2
        have g1 : (65 : Int) ≤ s[k].toNat := by omega
        have g2 : (s[k].toNat : Int) ≤ 90 := by omega
        clear hc
        go_wp2_with fail
        go_roundw
        case rel =>
          refine ⟨k + 1, D.setIfInBounds k (.int .u8 ((loB s[k]).toNat : Int)), by omega, by go_num, by rw [Array.size_setIfInBounds, HDS.out], fun j h => ?_, ?_⟩
          · rw [Array.getElem?_setIfInBounds]
            by_cases hj : k = j
            · subst hj
              rw [if_pos rfl, if_pos (by rw [HDS.out]; omega), if_pos (by omega)]
            · rw [if_neg hj, HD.out j h]
              by_cases hjk : j < k
              · rw [if_pos hjk, if_pos (by omega)]
              · rw [if_neg hjk, if_neg (by omega)]
          · rw [mark_set]
        case measure => simp [intOf]; omega
      · have hlo := loB_lo hc
        have HLO := Lib.hid hlo
        have g1 : (s[k].toNat : Int) < 65 ∨ 90 < (s[k].toNat : Int) := by omega
        clear hc hlo
        rcases g1 with g1 | g1
        · have g2 : ¬ (65 : Int) ≤ s[k].toNat := by omega
          go_wp2_with fail
          go_roundw
          case rel =>
            refine ⟨k + 1, D, by omega, by go_num, HDS.out, fun j h => ?_, rfl⟩
            rw [HD.out j h]
            by_cases hjk : j < k
            · rw [if_pos hjk, if_pos (by omega)]
            · by_cases hj : j = k
              · subst hj
                rw [if_neg hjk, if_pos (by omega), HLO.out]
              · rw [if_neg hjk, if_neg (by omega)]
          case measure => simp [intOf]; omega
        · have g2 : (65 : Int) ≤ s[k].toNat := by omega
          have g3 : ¬ (s[k].toNat : Int) ≤ 90 := by omega
          go_wp2_with fail
          go_roundw
          case rel =>
            refine ⟨k + 1, D, by omega, by go_num, HDS.out, fun j h => ?_, rfl⟩
            rw [HD.out j h]
            by_cases hjk : j < k
            · rw [if_pos hjk, if_pos (by omega)]
            · by_cases hj : j = k
              · subst hj
                rw [if_neg hjk, if_pos (by omega), HLO.out]
              · rw [if_neg hjk, if_neg (by omega)]
          case measure => simp [intOf]; omega
    · obtain rfl : k = s.size := by omega
      have hconv : (convert 48 9 (.slice (some ⟨w.heap.size, 0, none⟩) s.size cap)).run Tryz.prog ((w.alloc (.cells D 5 (N, N + 1))).drew) = .ok (.string ⟨(lowL s.data.toList).toArray⟩) ((w.alloc (.cells D 5 (N, N + 1))).drew) := by
        have h := run_convert_bytes_back (P := Tryz.prog) ((w.alloc (.cells D 5 (N, N + 1))).drew) 48 9 5 ⟨w.heap.size, 0, none⟩ cap (lowL s.data.toList) Tryz.underlying48 Tryz.underlying5 Tryz.underlying9 (fun j hj => by
          rw [lowL_len, size_toList] at hj
          rw [add_zero_plain]
          refine ((World.cell?_alloc_mark w D _ _ j).trans (hD j hj)).trans ?_
          rw [if_pos hj]
          simp [lowL]
          rfl)
        rw [lowL_len, size_toList] at h
        exact h
      obtain ⟨l, hl⟩ : ∃ l, lowL s.data.toList = l := ⟨_, rfl⟩
      rw [hl] at hconv
      have HL := Lib.hid hl
      clear hD hDs hl
      go_wp2_with fail
      go_ret
      rw [HL.out]
      exact ⟨rfl, by go_grown⟩
end Go.Proofs.YtfonkblbgadhmaaGreatDoor
namespace Go.Proofs.YtfonkblbgadhmaaGreatDoor
open Go.RowKit

def kindS : ByteArray := ⟨#[33, 35, 36, 37, 38, 39, 42, 43, 45, 46, 94, 95, 96, 124, 126, 48, 49, 50, 51, 52, 53, 54, 55, 56, 57, 97, 98, 99, 100, 101, 102, 103, 104, 105, 106, 107, 108, 109, 110, 111, 112, 113, 114, 115, 116, 117, 118, 119, 120, 121, 122, 65, 66, 67, 68, 69, 70, 71, 72, 73, 74, 75, 76, 77, 78, 79, 80, 81, 82, 83, 84, 85, 86, 87, 88, 89, 90]⟩
theorem kindS_size : kindS.size = 77 := rfl
theorem kindS_tok' : ∀ n : Fin 256, kindS.data.toList.contains (UInt8.ofNat n.val) = tokC (UInt8.ofNat n.val) := by decide +kernel
theorem kindS_tok (c : UInt8) : kindS.data.toList.contains c = tokC c := by
  have := kindS_tok' ⟨c.toNat, c.toNat_lt⟩
  simpa using this
theorem kindS_lt : ∀ c ∈ kindS.data.toList, c.toNat < 128 := by decide +kernel
/-- The array behind these bytes. -/
def kndA (l : List UInt8) : Array Value := l.foldl (fun a c => a.setIfInBounds c.toNat (.bool true)) (Array.replicate 128 (.bool false))
theorem kndA_snoc (l : List UInt8) (c : UInt8) : kndA (l ++ [c]) = (kndA l).setIfInBounds c.toNat (.bool true) := by simp [kndA, List.foldl_append]
theorem knd_fold (l : List UInt8) : ∀ a : Array Value, (l.foldl (fun a c => a.setIfInBounds c.toNat (Value.bool true)) a).size = a.size := by
  induction l with
  | nil => intro a; rfl
  | cons c l ih => intro a; rw [List.foldl_cons, ih]; simp
theorem kndA_size (l : List UInt8) : (kndA l).size = 128 := by
  unfold kndA
  rw [knd_fold]
  simp
theorem knd_at (l : List UInt8) : ∀ (a : Array Value) (c : UInt8), c.toNat < a.size → (l.foldl (fun a c => a.setIfInBounds c.toNat (Value.bool true)) a)[c.toNat]? = if l.contains c then some (.bool true) else a[c.toNat]? := by
  induction l with
  | nil => intro a c _; simp
  | cons d l ih =>
    intro a c h
    rw [List.foldl_cons, ih _ _ (by simpa using h), List.contains_cons]
    by_cases hc : l.contains c = true
    · rw [if_pos hc, if_pos (by rw [hc, Bool.or_true])]
    · rw [if_neg hc]
      by_cases hd : c = d
      · subst hd
        rw [if_pos (by simp), Array.getElem?_setIfInBounds, if_pos rfl, if_pos h]
      · rw [if_neg (by simp only [Bool.or_eq_true, beq_iff_eq]; rintro (h | h); exact hd h; exact hc h), Array.getElem?_setIfInBounds, if_neg (fun e => hd (UInt8.toNat_inj.1 e.symm))]
theorem kndA_at (l : List UInt8) (c : UInt8) (h : c.toNat < 128) : (kndA l)[c.toNat]? = some (.bool (l.contains c)) := by
  unfold kndA
  rw [knd_at l _ c (by simpa using h)]
  by_cases hc : l.contains c = true
  · rw [if_pos hc, hc]
  · rw [if_neg hc, Array.getElem?_replicate, if_pos h]
    simp only [Bool.not_eq_true] at hc
    rw [hc]
theorem knd_one (l : List UInt8) : ∀ a : Array Value, a.all (·.oneCell') = true → (l.foldl (fun a c => a.setIfInBounds c.toNat (Value.bool true)) a).all (·.oneCell') = true := by
  induction l with
  | nil => intro a h; exact h
  | cons c l ih =>
    intro a h
    rw [List.foldl_cons]
    apply ih
    rw [Array.all_eq_true_iff_forall_mem] at h ⊢
    intro x hx
    rcases Array.mem_or_eq_of_mem_setIfInBounds hx with hx | rfl
    · exact h x hx
    · rfl
theorem kndA_one (l : List UInt8) : (kndA l).all (·.oneCell') = true := by
  unfold kndA
  apply knd_one
  rw [Array.all_eq_true_iff_forall_mem]
  intro x hx
  rw [(Array.mem_replicate.1 hx).2]
  rfl
theorem iter_cell (w : World) (D : Array Value) (t : TypeId) (s : ByteArray) (pos j : Nat) : ((w.alloc (.cells D t)).iter s pos).cell? ⟨w.heap.size, j, none⟩ = D[j]? := by
  unfold World.iter
  rw [World.cell?_alloc_lt _ _ _ (by simp), World.cell?_alloc_new]
theorem iter_frozen (w : World) (D : Array Value) (t : TypeId) (s : ByteArray) (pos j : Nat) : ((w.alloc (.cells D t)).iter s pos).frozen? ⟨w.heap.size, j, none⟩ = false := by
  unfold World.iter World.frozen? World.alloc
  simp [Array.getElem?_push]
theorem iter_set (w : World) (D : Array Value) (t : TypeId) (s : ByteArray) (pos j : Nat) (v : Value) : ((w.alloc (.cells D t)).iter s pos).setCell ⟨w.heap.size, j, none⟩ v = (w.alloc (.cells (D.setIfInBounds j v) t)).iter s pos := by
  simp only [World.setCell, World.alloc, World.iter]
  congr 1
  apply Array.ext_getElem?
  intro i
  rw [Array.getElem?_modify]
  by_cases h : w.heap.size = i
  · subst h
    simp [Array.getElem?_push]
  · have h' : ¬ i = w.heap.size := fun e => h e.symm
    simp [h, h', Array.getElem?_push]
theorem knd_iter (w : World) (D : Array Value) (t : TypeId) (s : ByteArray) (pos : Nat) : ((w.alloc (.cells D t)).iter s pos).iterPos (w.heap.size + 1) = pos := by
  have := World.iterPos_iter (w.alloc (.cells D t)) s pos
  simpa using this
theorem row_same {w : World} {g : Nat} {D : Array Value} {t : TypeId} {fr : Nat × Nat} (hg : w.heap[g]? = some (.cells D t fr)) : w.setRow g D = w := by
  simp only [World.setRow]
  have : w.heap.modify g (fun o => match o with | .cells _ t fr => .cells D t fr | o => o) = w.heap := by
    apply Array.ext_getElem?
    intro i
    rw [Array.getElem?_modify]
    by_cases h : g = i
    · subst h
      rw [if_pos rfl, hg]
      rfl
    · rw [if_neg h]
  cases w
  simp only at this ⊢
  congr 1
end Go.Proofs.YtfonkblbgadhmaaGreatDoor
namespace Go.Proofs.YtfonkblbgadhmaaGreatDoor
open Go.RowKit

theorem any_all_not (l : List UInt8) (p : UInt8 → Bool) : (!l.any fun c => !p c) = l.all p := by
  induction l with
  | nil => rfl
  | cons c l ih => rw [List.any_cons, List.all_cons, Bool.not_or, Bool.not_not, ih]
end Go.Proofs.YtfonkblbgadhmaaGreatDoor
