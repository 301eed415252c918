/- LnP, LnA, LnB, LnE, LnF, LnG: put together by mergetpl.py. -/
import Derived.Test.YthgmgmbjjjnhnaaGreatDoorGc
import Derived.Lib.ItoaNum
import Derived.Test.YthgmgmbjjjnhnaaGreatDoorGd
import Derived.Test.YthgmgmbjjjnhnaaGreatDoorGb
import Derived.Deep.RegionHeld3
namespace Go.Proofs.YthgmgmbjjjnhnaaGreatDoor
open Go.RowKit

def tgC (c : UInt8) : Bool := decide (33 ≤ c.toNat) && decide (c.toNat ≤ 126)
def tgt (l : List UInt8) : Bool := !l.isEmpty && l.all tgC
/-- A digit's number; below 0: it is none. -/
def dgt (c : UInt8) : Int := if 48 ≤ c.toNat ∧ c.toNat ≤ 57 then (c.toNat : Int) - 48 else -1
/-- May a line be? -/
def lnMay (m t : List UInt8) (g s : Int) : Bool := tok m && (tgt t && ((decide (0 ≤ g) && decide (g ≤ 9)) && (decide (0 ≤ s) && decide (s ≤ 9))))
def http : List UInt8 := [72, 84, 84, 80, 47]
def dC (g : Int) : UInt8 := UInt8.ofNat (48 + g.toNat)
/-- A line's text. -/
def lnTxt (m t : List UInt8) (g s : Int) : List UInt8 := m ++ 32 :: (t ++ 32 :: (http ++ [dC g, 46, dC s]))
/-- The line that three words are; none: they are none. -/
def lnW (m t v : List UInt8) : Option (List UInt8 × List UInt8 × Int × Int) :=
  match v with
  | [a0, a1, a2, a3, a4, a, p, b] => if [a0, a1, a2, a3, a4] = http ∧ p = 46 ∧ lnMay m t (dgt a) (dgt b) = true then some (m, t, dgt a, dgt b) else none
  | _ => none
def lnOf (l : List UInt8) : Option (List UInt8 × List UInt8 × Int × Int) :=
  match cutG 32 [] l with
  | [m, t, v] => lnW m t v
  | _ => none
theorem lnW_len {m t v : List UInt8} (h : v.length ≠ 8) : lnW m t v = none := by
  unfold lnW
  split
  · exact absurd rfl h
  · rfl
theorem lnOf_len {l : List UInt8} (h : (cutG 32 [] l).length ≠ 3) : lnOf l = none := by
  unfold lnOf
  split
  · rename_i e
    rw [e] at h
    exact absurd rfl h
  · rfl
theorem lnOf_3 {l m t v : List UInt8} (h : cutG 32 [] l = [m, t, v]) : lnOf l = lnW m t v := by
  unfold lnOf
  rw [h]
theorem dgt_range (c : UInt8) : dgt c = -1 ∨ (0 ≤ dgt c ∧ dgt c ≤ 9 ∧ c.toNat = 48 + (dgt c).toNat) := by
  unfold dgt
  split
  · right
    omega
  · left
    rfl
theorem dgt_of {c : UInt8} (h : 0 ≤ dgt c) : c = dC (dgt c) := by
  rcases dgt_range c with h1 | ⟨_, h2, h3⟩
  · omega
  · apply UInt8.toNat_inj.1
    unfold dC
    rw [UInt8.toNat_ofNat', h3]
    exact (Nat.mod_eq_of_lt (by omega)).symm
theorem dC_nat {g : Int} (h0 : 0 ≤ g) (h9 : g ≤ 9) : (dC g).toNat = 48 + g.toNat := by
  unfold dC
  rw [UInt8.toNat_ofNat']
  exact Nat.mod_eq_of_lt (by omega)
theorem dgt_dC {g : Int} (h0 : 0 ≤ g) (h9 : g ≤ 9) : dgt (dC g) = g := by
  unfold dgt
  rw [dC_nat h0 h9, if_pos (by omega)]
  omega
theorem lnMay_parts {m t : List UInt8} {g s : Int} (h : lnMay m t g s = true) : tok m = true ∧ tgt t = true ∧ 0 ≤ g ∧ g ≤ 9 ∧ 0 ≤ s ∧ s ≤ 9 := by
  unfold lnMay at h
  simp only [Bool.and_eq_true, decide_eq_true_eq] at h
  exact ⟨h.1, h.2.1, h.2.2.1.1, h.2.2.1.2, h.2.2.2.1, h.2.2.2.2⟩
theorem lnMay_of {m t : List UInt8} {g s : Int} (h1 : tok m = true) (h2 : tgt t = true) (h3 : 0 ≤ g) (h4 : g ≤ 9) (h5 : 0 ≤ s) (h6 : s ≤ 9) : lnMay m t g s = true := by
  unfold lnMay
  rw [h1, h2]
  simp [h3, h4, h5, h6]
/-- What is cut, put together again. -/
def joinG (b : UInt8) : List (List UInt8) → List UInt8
  | [] => []
  | [x] => x
  | x :: y :: r => x ++ b :: joinG b (y :: r)
theorem cutG_ne (b : UInt8) (l : List UInt8) : ∀ cur, ∃ x r, cutG b cur l = x :: r := by
  induction l with
  | nil => intro cur; exact ⟨cur, [], rfl⟩
  | cons c l ih =>
    intro cur
    simp only [cutG]
    split
    · exact ⟨_, _, rfl⟩
    · exact ih _
theorem joinG_cut (b : UInt8) (l : List UInt8) : ∀ cur, joinG b (cutG b cur l) = cur ++ l := by
  induction l with
  | nil => intro cur; simp [cutG, joinG]
  | cons c l ih =>
    intro cur
    simp only [cutG]
    by_cases hc : c = b
    · rw [if_pos hc]
      obtain ⟨x, r, h⟩ := cutG_ne b l []
      have h2 := ih []
      rw [h] at h2 ⊢
      show cur ++ b :: joinG b (x :: r) = _
      rw [h2, hc]
      rfl
    · rw [if_neg hc, ih]
      simp
theorem cut3_join {l m t v : List UInt8} (h : cutG 32 [] l = [m, t, v]) : l = m ++ 32 :: (t ++ 32 :: v) := by
  have := joinG_cut 32 l []
  rw [h] at this
  exact this.symm
theorem cutG_has (b : UInt8) (l : List UInt8) : ∀ cur : List UInt8, cur.contains b = false → ∀ x ∈ cutG b cur l, x.contains b = false := by
  induction l with
  | nil =>
    intro cur hc x hx
    simp only [cutG, List.mem_singleton] at hx
    rw [hx]
    exact hc
  | cons c l ih =>
    intro cur hc x hx
    simp only [cutG] at hx
    by_cases hb : c = b
    · rw [if_pos hb] at hx
      rcases List.mem_cons.1 hx with rfl | hx
      · exact hc
      · exact ih [] rfl x hx
    · rw [if_neg hb] at hx
      refine ih (cur ++ [c]) ?_ x hx
      rw [Bool.eq_false_iff] at hc ⊢
      intro h
      rw [List.contains_iff_mem] at h
      rcases List.mem_append.1 h with h | h
      · exact hc (List.contains_iff_mem.2 h)
      · exact hb (List.mem_singleton.1 h).symm
theorem cut3_of {m t v : List UInt8} (hm : m.contains 32 = false) (ht : t.contains 32 = false) (hv : v.contains 32 = false) : cutG 32 [] (m ++ 32 :: (t ++ 32 :: v)) = [m, t, v] := by
  rw [cutG_app, cutG_app, cutG_none 32 m [] hm, cutG_none 32 t [] ht, cutG_none 32 v [] hv]
  rfl
theorem tok_32 {x : List UInt8} (h : tok x = true) : x.contains 32 = false := by
  obtain ⟨_, _, h3⟩ := tok_parts h
  rw [Bool.eq_false_iff]
  intro hc
  rw [List.contains_iff_mem] at hc
  exact absurd (h3 32 hc) (by decide)
theorem tgt_32 {x : List UInt8} (h : tgt x = true) : x.contains 32 = false := by
  unfold tgt at h
  rw [Bool.and_eq_true, List.all_eq_true] at h
  rw [Bool.eq_false_iff]
  intro hc
  rw [List.contains_iff_mem] at hc
  exact absurd (h.2 32 hc) (by decide)
theorem dC_32 {g : Int} (h0 : 0 ≤ g) (h9 : g ≤ 9) : dC g ≠ 32 := by
  intro h
  have := congrArg UInt8.toNat h
  rw [dC_nat h0 h9] at this
  have h2 : (32 : UInt8).toNat = 32 := rfl
  omega
/-- What is written is read as that line. -/
theorem lnOf_txt {m t : List UInt8} {g s : Int} (h : lnMay m t g s = true) : lnOf (lnTxt m t g s) = some (m, t, g, s) := by
  obtain ⟨h1, h2, h3, h4, h5, h6⟩ := lnMay_parts h
  have hv : (http ++ [dC g, 46, dC s]).contains 32 = false := by
    rw [Bool.eq_false_iff]
    intro hc
    rw [List.contains_iff_mem] at hc
    rcases List.mem_append.1 hc with hc | hc
    · exact absurd hc (by decide)
    · simp only [List.mem_cons, List.not_mem_nil, or_false] at hc
      rcases hc with hc | hc | hc
      · exact dC_32 h3 h4 hc.symm
      · exact absurd hc (by decide)
      · exact dC_32 h5 h6 hc.symm
  unfold lnTxt
  rw [lnOf_3 (cut3_of (tok_32 h1) (tgt_32 h2) hv)]
  show lnW m t [72, 84, 84, 80, 47, dC g, 46, dC s] = _
  unfold lnW
  simp only [dgt_dC h3 h4, dgt_dC h5 h6, h, and_true]
  rw [if_pos (show ([72, 84, 84, 80, 47] : List UInt8) = http from rfl)]
/-- What is read is written as just this text. -/
theorem lnOf_some {l m t : List UInt8} {g s : Int} (h : lnOf l = some (m, t, g, s)) : lnMay m t g s = true ∧ l = lnTxt m t g s := by
  by_cases hl : (cutG 32 [] l).length = 3
  · match hc : cutG 32 [] l, hl with
    | [m', t', v], _ =>
      rw [lnOf_3 hc] at h
      unfold lnW at h
      split at h
      · rename_i a0 a1 a2 a3 a4 a p b
        split at h
        · rename_i hh
          obtain ⟨q1, q2, q3⟩ := hh
          simp only [Option.some.injEq, Prod.mk.injEq] at h
          obtain ⟨rfl, rfl, rfl, rfl⟩ := h
          refine ⟨q3, ?_⟩
          obtain ⟨_, _, r1, r2, r3, r4⟩ := lnMay_parts q3
          rw [cut3_join hc]
          unfold lnTxt
          rw [← dgt_of r1, ← dgt_of r3, ← q1, q2]
          rfl
        · cases h
      · cases h
  · rw [lnOf_len hl] at h
    cases h
end Go.Proofs.YthgmgmbjjjnhnaaGreatDoor
namespace Go.Proofs.YthgmgmbjjjnhnaaGreatDoor
open Go.RowKit

theorem ln_digit (c : UInt8) (w : World) : Calls Tryz.prog 141 #[.int .u8 c.toNat] w fun e w' => e = .returned (.int .i64 (dgt c)) ∧ w' = w := by
  have h1 := c.toNat_lt
  by_cases ha : c.toNat < 48
  · have g1 : (c.toNat : Int) < 48 := by omega
    have hd : dgt c = -1 := by unfold dgt; rw [if_neg (by omega)]
    rw [hd]
    clear hd
    go_enter Tryz.func141, Tryz.ntmps141
    go_wp2_with fail
    go_ret
    exact ⟨rfl, rfl⟩
  · have g1 : ¬ (c.toNat : Int) < 48 := by omega
    by_cases hb : 57 < c.toNat
    · have g2 : (57 : Int) < c.toNat := by omega
      have hd : dgt c = -1 := by unfold dgt; rw [if_neg (by omega)]
      rw [hd]
      clear hd
      go_enter Tryz.func141, Tryz.ntmps141
      go_wp2_with fail
      go_ret
      exact ⟨rfl, rfl⟩
    · have g2 : ¬ (57 : Int) < c.toNat := by omega
      have hd : dgt c = (c.toNat : Int) - 48 := by unfold dgt; rw [if_pos (by omega)]
      rw [hd]
      clear hd
      have g3 : (0 : Int) ≤ (c.toNat : Int) - 48 := by omega
      have g4 : (c.toNat : Int) - 48 ≤ 9 := by omega
      go_enter Tryz.func141, Tryz.ntmps141
      go_wp2_with fail
      go_ret
      exact ⟨rfl, rfl⟩
theorem ln_mayP (c : UInt8) (w : World) : Calls Tryz.prog 170 #[.int .u8 c.toNat] w fun e w' => e = .returned (.bool (!tgC c)) ∧ w' = w := by
  have h1 := c.toNat_lt
  by_cases ha : c.toNat ≤ 32
  · have g1 : (c.toNat : Int) ≤ 32 := by omega
    have hd : tgC c = false := by unfold tgC; rw [decide_eq_false (by omega)]; rfl
    rw [hd]
    clear hd
    go_enter Tryz.func170, Tryz.ntmps170
    go_wp2_with fail
    go_ret
    exact ⟨ret_b (by first | rfl | simp), rfl⟩
  · have g1 : ¬ (c.toNat : Int) ≤ 32 := by omega
    by_cases hb : 126 < c.toNat
    · have g2 : (126 : Int) < c.toNat := by omega
      have hd : tgC c = false := by unfold tgC; rw [decide_eq_false (by omega : ¬ c.toNat ≤ 126)]; simp
      rw [hd]
      clear hd
      go_enter Tryz.func170, Tryz.ntmps170
      go_wp2_with fail
      go_ret
      exact ⟨ret_b (by first | rfl | simp), rfl⟩
    · have g2 : ¬ (126 : Int) < c.toNat := by omega
      have hd : tgC c = true := by unfold tgC; rw [decide_eq_true (by omega), decide_eq_true (by omega)]; rfl
      rw [hd]
      clear hd
      go_enter Tryz.func170, Tryz.ntmps170
      go_wp2_with fail
      go_ret
      exact ⟨ret_b (by first | rfl | simp), rfl⟩
set_option maxHeartbeats 4000000 in
theorem idx_tg (B n cap : Nat) (l : List UInt8) (hn : l.length = n) (hn2 : n ≤ 1000000) (w : World) (hc : ∀ j (h : j < l.length), w.cell? ⟨B, j, none⟩ = some (.int .u8 l[j].toNat)) :
    Calls Tryz.prog 122 #[.slice (some ⟨B, 0, none⟩) n cap, .func (.func 170) #[] #[]] w fun e w' => ∃ m : Int, e = .returned (.int .i64 m) ∧ decide (0 ≤ m) = l.any (fun c => !tgC c) ∧ w' = w := by
  have HC := Lib.hid hc
  have HN := Lib.hid hn
  clear hc hn
  go_enter Tryz.func122, Tryz.ntmps122
  go_wp2_with fail
  go_loop [8] (fun i => ∃ k : Nat, k ≤ n ∧ i = .int .i64 k ∧ (l.take k).any (fun c => !tgC c) = false) (fun i => n - (intOf i).toNat)
  case atStart => exact ⟨0, Nat.zero_le _, rfl, rfl⟩
  case round =>
    obtain ⟨k, hk, rfl, hno⟩ := hrel
    have HNO := Lib.hid hno
    clear hno
    by_cases hlt : k < n
    · have hx : k < l.length := by have := HN.out; omega
      have hcell := HC.out k hx
      have P := fun w => ln_mayP l[k] w
      obtain ⟨c, hcc⟩ : ∃ c, l[k] = c := ⟨_, rfl⟩
      rw [hcc] at hcell
      simp only [hcc] at P
      have hsn : (l.take (k + 1)).any (fun c => !tgC c) = !tgC c := by
        rw [List.take_succ_eq_append_getElem hx, List.any_append, HNO.out, hcc]
        simp
      cases hp : tgC c with
      | true =>
        rw [hp] at hsn
        simp only [hp] at P
        have PH := Lib.hid P
        have HS := Lib.hid hsn
        clear P hsn hp hcc
        go_wp2_with fail
        refine (PH.out _).mono ?_
        rintro e w1 ⟨rfl, rfl⟩
        go_wp2_with fail
        go_round
        case rel => exact ⟨k + 1, by omega, by go_num, HS.out⟩
        case measure => simp [intOf]; omega
      | false =>
        simp only [hp] at P
        have PH := Lib.hid P
        have hany : l.any (fun c => !tgC c) = true := by
          rw [List.any_eq_true]
          exact ⟨c, by rw [← hcc]; exact List.getElem_mem hx, by simp [hp]⟩
        have HA := Lib.hid hany
        clear P hsn hp hcc hany
        go_wp2_with fail
        refine (PH.out _).mono ?_
        rintro e w1 ⟨rfl, rfl⟩
        go_wp2_with fail
        go_ret
        exact ⟨(k : Int), rfl, by rw [HA.out]; simp, rfl⟩
    · have hno := HNO.out
      rw [List.take_of_length_le (by have := HN.out; omega)] at hno
      have HNO2 := Lib.hid hno
      clear hno
      go_wp2_with fail
      go_ret
      exact ⟨-1, rfl, by rw [HNO2.out]; rfl, rfl⟩
theorem has_tg (B n cap : Nat) (l : List UInt8) (hn : l.length = n) (hn2 : n ≤ 1000000) (w : World) (hc : ∀ j (h : j < l.length), w.cell? ⟨B, j, none⟩ = some (.int .u8 l[j].toNat)) :
    Calls Tryz.prog 87 #[.slice (some ⟨B, 0, none⟩) n cap, .func (.func 170) #[] #[]] w fun e w' => e = .returned (.bool (l.any (fun c => !tgC c))) ∧ w' = w := by
  have C := Lib.hid (idx_tg B n cap l hn hn2 w hc)
  obtain ⟨p, hp⟩ : ∃ p, l.any (fun c => !tgC c) = p := ⟨_, rfl⟩
  rw [hp] at C ⊢
  clear hc hn hp
  go_enter Tryz.func87, Tryz.ntmps87
  go_wp2_with fail
  refine (C.out).mono ?_
  rintro e w1 ⟨m, rfl, hm, rfl⟩
  cases p with
  | true =>
    have g : (0 : Int) ≤ m := of_decide_eq_true hm
    clear hm
    go_wp2_with fail
    go_ret
    exact ⟨ret_b (by first | rfl | simp [g]), rfl⟩
  | false =>
    have g : ¬ (0 : Int) ≤ m := of_decide_eq_false hm
    clear hm
    go_wp2_with fail
    go_ret
    exact ⟨ret_b (by first | rfl | simp [g]), rfl⟩
theorem vals_cell {v : Value} {vs : List Value} {w : World} (h : IsVals v vs w) {k : Nat} (hk : k < vs.length) : ∃ b off cap, v = .slice (some ⟨b, off, none⟩) vs.length cap ∧ b < w.heap.size ∧ ∀ j (hj : j < vs.length), w.cell? ⟨b, off + j, none⟩ = some vs[j] := by
  obtain ⟨a, cap, rfl, _, hc⟩ := h
  rcases hc with rfl | ⟨b, off, rfl, h1, h2⟩
  · simp at hk
  · exact ⟨b, off, cap, rfl, h1, h2⟩
/-- three: where they are not three. -/
theorem ln_three_no (v : Value) (xs : List (List UInt8)) (w : World) (hv : IsVals v (strV xs) w) (h : xs.length ≠ 3) : Calls Tryz.prog 138 #[v] w (Ret w (.tuple #[.string ⟨#[]⟩, .string ⟨#[]⟩, .string ⟨#[]⟩, .bool false])) := by
  obtain ⟨a, cap, rfl, _, _⟩ := hv
  rw [strV_len]
  obtain ⟨n, hn⟩ : ∃ n, xs.length = n := ⟨_, rfl⟩
  rw [hn] at h ⊢
  have g1 : ((n : Int) != 3) = true := by simp; omega
  have g2 : ¬ (n : Int) = 3 := by omega
  clear hn h
  go_enter Tryz.func138, Tryz.ntmps138
  go_wp2_with fail
  refine bodyPost_ret (results_tmp4 rfl _ _ _) rfl ?_
  exact ⟨rfl, Below.refl _ _⟩
theorem ln_three (v : Value) (m t u : ByteArray) (w : World) (hv : IsVals v [.string m, .string t, .string u] w) : Calls Tryz.prog 138 #[v] w (Ret w (.tuple #[.string m, .string t, .string u, .bool true])) := by
  obtain ⟨b, off, cap, rfl, _, hc⟩ := vals_cell hv (k := 0) (by simp)
  have c0 := hc 0 (by simp)
  have c1 := hc 1 (by simp)
  have c2 := hc 2 (by simp)
  simp only [List.getElem_cons_zero, List.getElem_cons_succ, Nat.add_zero, List.length_cons, List.length_nil] at c0 c1 c2 ⊢
  clear hc hv
  go_enter Tryz.func138, Tryz.ntmps138
  go_wp2_with fail
  go_quiet (fail)
  go_wp2_with fail
  refine bodyPost_ret (results_tmp4 rfl _ _ _) rfl ?_
  exact ⟨rfl, below_drewN _ _⟩
end Go.Proofs.YthgmgmbjjjnhnaaGreatDoor
namespace Go.Proofs.YthgmgmbjjjnhnaaGreatDoor
open Go.RowKit

/-- A line as a value. -/
abbrev lnV (m t : ByteArray) (g s : Int) : Value := .agg #[.string m, .string t, .int .i64 g, .int .i64 s]
set_option maxHeartbeats 8000000 in
set_option maxRecDepth 100000 in
theorem ln_may (m t : ByteArray) (g s : Int) (w : World) (hm : m.size ≤ 1000000) (ht : t.size ≤ 1000000) :
    Calls Tryz.prog 142 #[lnV m t g s] w (Ret w (.bool (lnMay m.data.toList t.data.toList g s))) := by
  obtain ⟨cap, C, hC, hCs, hcv⟩ := str_bytes (P := Tryz.prog) (w.alloc (.cells #[.string m, .string t, .int .i64 g, .int .i64 s] 130)) 9 38 5 t Tryz.underlying9 Tryz.underlying38 Tryz.underlying5
  have H := Lib.hid (has_tg (w.heap.size + 1) t.size cap t.data.toList (size_toList t) ht (((w.alloc (.cells #[.string m, .string t, .int .i64 g, .int .i64 s] 130)).alloc (.cells C 5 (C.size, C.size + 1))).drew) (fun j h => by
    rw [size_toList] at h
    have h2 := World.cell?_alloc_mark (w.alloc (.cells #[.string m, .string t, .int .i64 g, .int .i64 s] 130)) C 5 (C.size, C.size + 1) j
    rw [World.size_alloc] at h2
    exact h2.trans (hC j h)))
  have hq := any_all_not t.data.toList tgC
  obtain ⟨p, hp⟩ : ∃ p, (t.data.toList.any fun c => !tgC c) = p := ⟨_, rfl⟩
  obtain ⟨K, hK⟩ : ∃ K, tok m.data.toList = K := ⟨_, rfl⟩
  have T := Lib.hid fun w => token_at m K w hm hK
  rw [hp] at H hq
  have hres : lnMay m.data.toList t.data.toList g s = (K && ((!t.data.toList.isEmpty && !p) && ((decide (0 ≤ g) && decide (g ≤ 9)) && (decide (0 ≤ s) && decide (s ≤ 9))))) := by
    unfold lnMay tgt
    rw [hK, ← hq]
  clear hC hp hq hK hm ht
  cases K with
  | false =>
    have HR := Lib.hid hres
    clear hres
    rw [HR.out]
    go_enter Tryz.func142, Tryz.ntmps142
    go_wp2_with fail
    refine (H.out).mono ?_
    rintro e w1 ⟨rfl, rfl⟩
    go_wp2_with fail
    refine (T.out _).mono ?_
    rintro e w2 ⟨rfl, hb2⟩
    go_wp2_with fail
    go_ret
    exact ⟨rfl, (((Below.refl _ w).alloc (Nat.le_refl _) _).alloc (by simp) _).drew.trans (hb2.mono (by simp; omega))⟩
  | true =>
    by_cases h0 : t.size = 0
    · obtain rfl : t = ⟨#[]⟩ := str_ext (List.eq_nil_of_length_eq_zero (by rw [size_toList]; exact h0))
      have HR : Hid (lnMay m.data.toList (⟨#[]⟩ : ByteArray).data.toList g s = false) := Lib.hid (by rw [hres]; rfl)
      clear hres h0
      rw [HR.out]
      go_enter Tryz.func142, Tryz.ntmps142
      go_wp2_with fail
      refine (H.out).mono ?_
      rintro e w1 ⟨rfl, rfl⟩
      go_wp2_with fail
      refine (T.out _).mono ?_
      rintro e w2 ⟨rfl, hb2⟩
      have d1 := (bcell hb2).1 w.heap.size 1 (by simp; omega)
      simp at d1
      go_wp2_with fail
      go_ret
      exact ⟨ret_b (by first | rfl | simp), (((Below.refl _ w).alloc (Nat.le_refl _) _).alloc (by simp) _).drew.trans (hb2.mono (by simp; omega))⟩
    · have e1 := isEmpty_of_pos (s := t) (by omega)
      have e2 := ne_nil_of_pos (s := t) (by omega)
      rw [show t.data.toList.isEmpty = false by rw [← Lib.toList_data]; exact e1] at hres
      cases p with
      | true =>
        have HR := Lib.hid hres
        clear hres h0
        rw [HR.out]
        go_enter Tryz.func142, Tryz.ntmps142
        go_wp2_with fail
        refine (H.out).mono ?_
        rintro e w1 ⟨rfl, rfl⟩
        go_wp2_with fail
        refine (T.out _).mono ?_
        rintro e w2 ⟨rfl, hb2⟩
        have d1 := (bcell hb2).1 w.heap.size 1 (by simp; omega)
        simp at d1
        go_wp2_with fail
        go_ret
        exact ⟨ret_b (by first | rfl | simp), (((Below.refl _ w).alloc (Nat.le_refl _) _).alloc (by simp) _).drew.trans (hb2.mono (by simp; omega))⟩
      | false =>
        simp only [Bool.not_false, Bool.true_and] at hres
        have HR := Lib.hid hres
        clear hres h0
        go_enter Tryz.func142, Tryz.ntmps142
        go_wp2_with fail
        refine (H.out).mono ?_
        rintro e w1 ⟨rfl, rfl⟩
        go_wp2_with fail
        refine (T.out _).mono ?_
        rintro e w2 ⟨rfl, hb2⟩
        have d1 := (bcell hb2).1 w.heap.size 1 (by simp; omega)
        have d2 := (bcell hb2).1 w.heap.size 2 (by simp; omega)
        have d3 := (bcell hb2).1 w.heap.size 3 (by simp; omega)
        simp at d1 d2 d3
        go_wp2_with fail
        all_goals
          go_ret
          refine ⟨ret_b ?_, (((Below.refl _ w).alloc (Nat.le_refl _) _).alloc (by simp) _).drew.trans (hb2.mono (by simp; omega))⟩
          rw [HR.out, Bool.eq_iff_iff]
          simp
          omega
end Go.Proofs.YthgmgmbjjjnhnaaGreatDoor
namespace Go.Proofs.YthgmgmbjjjnhnaaGreatDoor
open Go.RowKit

theorem dec1' : ∀ n : Fin 10, Lib.decDigits n.val = [UInt8.ofNat (48 + n.val)] := by decide +kernel
theorem dec1 {g : Int} (h0 : 0 ≤ g) (h9 : g ≤ 9) : Lib.decDigits g.toNat = [dC g] := dec1' ⟨g.toNat, by omega⟩
theorem itoa1 (g : Int) (w : World) (h0 : 0 ≤ g) (h9 : g ≤ 9) : Calls Tryz.prog 47 #[.int .i64 g] w fun e w' => e = .returned (.string ⟨#[dC g]⟩) ∧ w' = w := by
  obtain ⟨n, rfl⟩ : ∃ n : Nat, g = (n : Int) := ⟨g.toNat, by omega⟩
  have := Tryz.strconv_Itoa_small n (by omega) w
  have e := dec1 h0 h9
  rw [Int.toNat_natCast] at e
  rwa [e] at this
/-- What Write answers. -/
def lnWr (m t : List UInt8) (g s : Int) : Value := if lnMay m t g s = true then .tuple #[.string ⟨(lnTxt m t g s).toArray⟩, .int .i64 0] else .tuple #[.string ⟨#[]⟩, .int .i64 8]
theorem lnWr_text (m t : ByteArray) (g s : Int) : (⟨(lnTxt m.data.toList t.data.toList g s).toArray⟩ : ByteArray) = (((((((m ++ ⟨#[32]⟩) ++ t) ++ ⟨#[32]⟩) ++ ⟨#[72, 84, 84, 80, 47]⟩) ++ ⟨#[dC g]⟩) ++ ⟨#[46]⟩) ++ ⟨#[dC s]⟩) := by
  apply str_ext
  simp [lnTxt, http]
/-- What Judge answers. -/
def post : List UInt8 := [80, 79, 83, 84]
def bindT : List UInt8 := [47, 104, 116, 116, 112, 45, 98, 105, 110, 100]
def jdg (m t : List UInt8) (g s : Int) : Int := if g = 1 ∧ s = 1 then (if t = bindT then (if m = post then 200 else 405) else 404) else 505
def lnJ (m t : List UInt8) (g s : Int) : Value := if lnMay m t g s = true then .tuple #[.int .i64 (jdg m t g s), .int .i64 0] else .tuple #[.int .i64 0, .int .i64 8]
set_option maxHeartbeats 4000000 in
set_option maxRecDepth 100000 in
theorem ln_Judge (m t : ByteArray) (g s : Int) (w : World) (hm : m.size ≤ 1000000) (ht : t.size ≤ 1000000) :
    Calls Tryz.prog 100 #[lnV m t g s] w (Ret w (lnJ m.data.toList t.data.toList g s)) := by
  have MY0 := fun w => ln_may m t g s w hm ht
  unfold lnJ
  obtain ⟨K, hK⟩ : ∃ K, lnMay m.data.toList t.data.toList g s = K := ⟨_, rfl⟩
  rw [hK] at MY0 ⊢
  have MY := Lib.hid MY0
  clear MY0 hK
  cases K with
  | false =>
    go_enter Tryz.func100, Tryz.ntmps100
    go_wp2_with fail
    refine (MY.out _).mono ?_
    rintro e w2 ⟨rfl, hb2⟩
    go_wp2_with fail
    go_ret2
    exact ⟨rfl, ((Below.refl _ w).alloc (Nat.le_refl _) _).trans (hb2.mono (by simp))⟩
  | true =>
    rw [if_pos rfl]
    obtain ⟨J, hJ⟩ : ∃ J, jdg m.data.toList t.data.toList g s = J := ⟨_, rfl⟩
    rw [hJ]
    have HJ := Lib.hid hJ
    clear hJ
    go_enter Tryz.func100, Tryz.ntmps100
    go_wp2_with fail
    refine (MY.out _).mono ?_
    rintro e w2 ⟨rfl, hb2⟩
    have d0 := (bcell hb2).1 w.heap.size 0 (by simp)
    have d1 := (bcell hb2).1 w.heap.size 1 (by simp)
    have d2 := (bcell hb2).1 w.heap.size 2 (by simp)
    have d3 := (bcell hb2).1 w.heap.size 3 (by simp)
    simp at d0 d1 d2 d3
    have q2 : Below w.heap.size w w2 := ((Below.refl _ w).alloc (Nat.le_refl _) _).trans (hb2.mono (by simp))
    clear hb2 MY
    go_wp2_with fail
    all_goals
      go_ret2
      refine ⟨?_, q2⟩
      rw [← HJ.out]
      clear HJ d0 d1 d2 d3 q2 hm ht
      unfold jdg bindT post
      simp_all [Lib.toList_data]
end Go.Proofs.YthgmgmbjjjnhnaaGreatDoor
namespace Go.Proofs.YthgmgmbjjjnhnaaGreatDoor
open Go.RowKit

set_option maxHeartbeats 4000000 in
theorem r15_target (s : ByteArray) (w : World) (hs : s.size ≤ 1000000) : Calls Tryz.prog 146 #[.string s] w fun e w' => e = .returned (.bool (tgt s.data.toList)) ∧ w' = w := by
  go_enter Tryz.func146, Tryz.ntmps146
  go_wp2_with fail
  go_loop [3] (fun i => ∃ k : Nat, k ≤ s.size ∧ i = .int .i64 k ∧ (s.data.toList.take k).all tgC = true) (fun i => s.size - (intOf i).toNat)
  case atStart => exact ⟨0, Nat.zero_le _, rfl, rfl⟩
  case round =>
    obtain ⟨k, hk, rfl, hall⟩ := hrel
    by_cases hlt : k < s.size
    · have hsn : (s.data.toList.take (k + 1)).all tgC = tgC s[k] := by
        rw [take_snoc s k hlt, List.all_append, hall]
        simp
      have hlast : tgC s[k] = false → s.data.toList.all tgC = false := fun h => by
        rw [← List.take_append_drop (k + 1) s.data.toList, List.all_append, hsn, h]
        rfl
      have hc := s[k].toNat_lt
      by_cases ha : s[k].toNat < 33
      · have g1 : (s[k].toNat : Int) < 33 := by omega
        have hd : tgC s[k] = false := by unfold tgC; rw [decide_eq_false (by omega)]; rfl
        have HL := Lib.hid (hlast hd)
        clear hd hsn hlast hall
        go_wp2_with fail
        go_ret
        exact ⟨ret_b (by unfold tgt; rw [HL.out]; simp), rfl⟩
      · have g1 : ¬ (s[k].toNat : Int) < 33 := by omega
        by_cases hb : 126 < s[k].toNat
        · have g2 : (126 : Int) < s[k].toNat := by omega
          have hd : tgC s[k] = false := by unfold tgC; rw [decide_eq_false (by omega : ¬ s[k].toNat ≤ 126)]; simp
          have HL := Lib.hid (hlast hd)
          clear hd hsn hlast hall
          go_wp2_with fail
          go_ret
          exact ⟨ret_b (by unfold tgt; rw [HL.out]; simp), rfl⟩
        · have g2 : ¬ (126 : Int) < s[k].toNat := by omega
          have hd : tgC s[k] = true := by unfold tgC; rw [decide_eq_true (by omega), decide_eq_true (by omega)]; rfl
          rw [hd] at hsn
          have HS := Lib.hid hsn
          clear hd hsn hlast hall
          go_wp2_with fail
          go_round
          case rel => exact ⟨k + 1, by omega, by go_num, HS.out⟩
          case measure => simp [intOf]; omega
    · have hfull : s.data.toList.all tgC = true := by
        rw [List.take_of_length_le (by rw [size_toList]; omega)] at hall
        exact hall
      have HF := Lib.hid hfull
      clear hfull hall
      by_cases h0 : s.size = 0
      · obtain rfl : s = ⟨#[]⟩ := str_ext (List.eq_nil_of_length_eq_zero (by rw [size_toList]; exact h0))
        clear h0
        go_wp2_with fail
        go_ret
        exact ⟨ret_b (by first | rfl | simp [tgt]), rfl⟩
      · have e1 := isEmpty_of_pos (s := s) (by omega)
        have e2 := ne_nil_of_pos (s := s) (by omega)
        have e3 : s.data.toList.isEmpty = false := by rw [← Lib.toList_data]; exact e1
        have HE := Lib.hid e3
        clear e3
        go_wp2_with fail
        go_ret
        exact ⟨ret_b (by unfold tgt; rw [HF.out, HE.out]; first | rfl | simp), rfl⟩
set_option maxHeartbeats 4000000 in
set_option maxRecDepth 100000 in
theorem r15_May (m t : ByteArray) (g s : Int) (w : World) (hm : m.size ≤ 1000000) (ht : t.size ≤ 1000000) :
    Calls Tryz.prog 105 #[lnV m t g s] w (Ret w (.bool (lnMay m.data.toList t.data.toList g s))) := by
  have T0 := fun w => r7_Token m w hm
  have G0 := fun w => r15_target t w ht
  have hres : lnMay m.data.toList t.data.toList g s = (tok m.data.toList && (tgt t.data.toList && ((decide (0 ≤ g) && decide (g ≤ 9)) && (decide (0 ≤ s) && decide (s ≤ 9))))) := rfl
  obtain ⟨K, hK⟩ : ∃ K, tok m.data.toList = K := ⟨_, rfl⟩
  obtain ⟨p, hp⟩ : ∃ p, tgt t.data.toList = p := ⟨_, rfl⟩
  rw [hK] at T0 hres
  rw [hp] at G0 hres
  have T := Lib.hid T0
  have G := Lib.hid G0
  have HR := Lib.hid hres
  clear T0 G0 hK hp hres
  have b0 : Below w.heap.size w (w.alloc (.cells #[.string m, .string t, .int .i64 g, .int .i64 s] 130)) := (Below.refl _ w).alloc (Nat.le_refl _) _
  cases K with
  | false =>
    go_enter Tryz.func105, Tryz.ntmps105
    go_wp2_with fail
    refine (T.out _).mono ?_
    rintro e w1 ⟨rfl, rfl⟩
    go_wp2_with fail
    go_ret
    exact ⟨ret_b (by rw [HR.out]; rfl), b0⟩
  | true =>
    cases p with
    | false =>
      go_enter Tryz.func105, Tryz.ntmps105
      go_wp2_with fail
      refine (T.out _).mono ?_
      rintro e w1 ⟨rfl, rfl⟩
      go_wp2_with fail
      refine (G.out _).mono ?_
      rintro e w1 ⟨rfl, rfl⟩
      go_wp2_with fail
      go_ret
      exact ⟨ret_b (by rw [HR.out]; rfl), b0⟩
    | true =>
      go_enter Tryz.func105, Tryz.ntmps105
      go_wp2_with fail
      refine (T.out _).mono ?_
      rintro e w1 ⟨rfl, rfl⟩
      go_wp2_with fail
      refine (G.out _).mono ?_
      rintro e w1 ⟨rfl, rfl⟩
      go_wp2_with fail
      all_goals
        go_ret
        refine ⟨ret_b ?_, b0⟩
        rw [HR.out, Bool.eq_iff_iff]
        simp
        omega
theorem digits1 (g : Int) (w : World) (h0 : 0 ≤ g) (h9 : g ≤ 9) : Calls Tryz.prog 55 #[.int .i64 g] w (Ret w (.string ⟨#[dC g]⟩)) := by
  obtain ⟨n, rfl⟩ : ∃ n : Nat, g = (n : Int) := ⟨g.toNat, by omega⟩
  have := ref06_Digits n (by omega) w
  have e := dec1 h0 h9
  rw [Int.toNat_natCast] at e
  rwa [e] at this
theorem keep4 {L : Nat} {a b c d : Value} {w w' : World} (h : w.cell? ⟨L, 0, none⟩ = some a ∧ w.cell? ⟨L, 1, none⟩ = some b ∧ w.cell? ⟨L, 2, none⟩ = some c ∧ w.cell? ⟨L, 3, none⟩ = some d) (hb : Below w.heap.size w w') (hl : L < w.heap.size) :
    w'.cell? ⟨L, 0, none⟩ = some a ∧ w'.cell? ⟨L, 1, none⟩ = some b ∧ w'.cell? ⟨L, 2, none⟩ = some c ∧ w'.cell? ⟨L, 3, none⟩ = some d :=
  ⟨((bcell hb).1 _ _ hl).trans h.1, ((bcell hb).1 _ _ hl).trans h.2.1, ((bcell hb).1 _ _ hl).trans h.2.2.1, ((bcell hb).1 _ _ hl).trans h.2.2.2⟩
set_option maxHeartbeats 8000000 in
set_option maxRecDepth 100000 in
theorem r15_Text (m t : ByteArray) (g s : Int) (w : World) (hm : m.size ≤ 1000000) (ht : t.size ≤ 1000000) (i1 : 0 ≤ g) (i2 : g ≤ 9) (i3 : 0 ≤ s) (i4 : s ≤ 9) :
    Calls Tryz.prog 106 #[lnV m t g s] w (Ret w (.string ⟨(lnTxt m.data.toList t.data.toList g s).toArray⟩)) := by
  have htx : (⟨(lnTxt m.data.toList t.data.toList g s).toArray⟩ : ByteArray) = ((((((m ++ ⟨#[32]⟩) ++ t) ++ ⟨#[32, 72, 84, 84, 80, 47]⟩) ++ ⟨#[dC g]⟩) ++ ⟨#[46]⟩) ++ ⟨#[dC s]⟩) := by
    apply str_ext
    simp [lnTxt, http]
  rw [htx]
  clear htx
  have n1 : ¬ 9223372036854775807 < m.size + 1 := by omega
  have n2 : ¬ 9223372036854775807 < m.size + 1 + t.size := by omega
  have n3 : ¬ 9223372036854775807 < m.size + 1 + t.size + 6 := by omega
  have n4 : ¬ 9223372036854775807 < m.size + 1 + t.size + 6 + 1 := by omega
  have n5 : ¬ 9223372036854775807 < m.size + 1 + t.size + 6 + 1 + 1 := by omega
  have n6 : ¬ 9223372036854775807 < m.size + 1 + t.size + 6 + 1 + 1 + 1 := by omega
  have q5 : Below w.heap.size w (w.alloc (.cells #[.string m, .string t, .int .i64 g, .int .i64 s] 130)) := (Below.refl _ w).alloc (Nat.le_refl _) _
  go_enter Tryz.func106, Tryz.ntmps106
  go_wp2_with fail
  go_region_held3 (fun w' => w'.cell? ⟨w.heap.size, 0, none⟩ = some (.string m) ∧ w'.cell? ⟨w.heap.size, 1, none⟩ = some (.string t) ∧ w'.cell? ⟨w.heap.size, 2, none⟩ = some (.int .i64 g) ∧ w'.cell? ⟨w.heap.size, 3, none⟩ = some (.int .i64 s)) (first | exact S7 | (simp (maxDischargeDepth := 9) [go_sem, *]))
    (first
      | (go_at_call 55; refine (digits1 _ _ (by first | exact i1 | exact i3) (by first | exact i2 | exact i4)).mono ?_; rintro e w5 ⟨rfl, hb5⟩; have S7 := keep4 (L := w.heap.size) (by assumption) hb5 (by first | (simp; done) | omega); have z5 : w.heap.size < w5.heap.size := (by have := hb5.size; (try simp at this); omega); have q5 := (show Below w.heap.size w w5 from by first | exact q5.drew.trans (hb5.mono (by simp)) | exact q5.trans (hb5.mono q5.size))))
  all_goals
    go_wp2_with fail
    go_ret
    exact ⟨rfl, q5⟩
set_option maxHeartbeats 4000000 in
theorem r15_Judged (m t : ByteArray) (g s : Int) (w : World) : Calls Tryz.prog 77 #[lnV m t g s] w (Ret w (.int .i64 (jdg m.data.toList t.data.toList g s))) := by
  obtain ⟨J, hJ⟩ : ∃ J, jdg m.data.toList t.data.toList g s = J := ⟨_, rfl⟩
  rw [hJ]
  have HJ := Lib.hid hJ
  clear hJ
  go_enter Tryz.func77, Tryz.ntmps77
  go_wp2_with fail
  all_goals
    go_ret
    refine ⟨?_, (Below.refl _ w).alloc (Nat.le_refl _) _⟩
    rw [← HJ.out]
    clear HJ
    unfold jdg bindT post
    simp_all [Lib.toList_data]
end Go.Proofs.YthgmgmbjjjnhnaaGreatDoor
namespace Go.Proofs.YthgmgmbjjjnhnaaGreatDoor
open Go.RowKit

/-- A status's name; empty: it is none. -/
def stN (n : Int) : List UInt8 := if n = 200 then [79, 75] else if n = 400 then [66, 97, 100, 32, 82, 101, 113, 117, 101, 115, 116] else if n = 403 then [70, 111, 114, 98, 105, 100, 100, 101, 110] else if n = 404 then [78, 111, 116, 32, 70, 111, 117, 110, 100] else if n = 405 then [77, 101, 116, 104, 111, 100, 32, 78, 111, 116, 32, 65, 108, 108, 111, 119, 101, 100] else if n = 413 then [67, 111, 110, 116, 101, 110, 116, 32, 84, 111, 111, 32, 76, 97, 114, 103, 101] else if n = 505 then [72, 84, 84, 80, 32, 86, 101, 114, 115, 105, 111, 110, 32, 78, 111, 116, 32, 83, 117, 112, 112, 111, 114, 116, 101, 100] else []
def stT (n : Int) : List UInt8 := [72, 84, 84, 80, 47, 49, 46, 49, 32] ++ (Lib.decDigits n.toNat ++ ([32] ++ (stN n ++ [13, 10])))
def stV (n : Int) : Value := if stN n = [] then .tuple #[.string ⟨#[]⟩, .int .i64 2] else .tuple #[.string ⟨(stT n).toArray⟩, .int .i64 0]
def stMap : Array MapEntry := #[{ key := .int .i64 200, val := .agg #[.string ⟨#[79, 75]⟩], born := 0 }, { key := .int .i64 400, val := .agg #[.string ⟨#[66, 97, 100, 32, 82, 101, 113, 117, 101, 115, 116]⟩], born := 1 }, { key := .int .i64 403, val := .agg #[.string ⟨#[70, 111, 114, 98, 105, 100, 100, 101, 110]⟩], born := 2 }, { key := .int .i64 404, val := .agg #[.string ⟨#[78, 111, 116, 32, 70, 111, 117, 110, 100]⟩], born := 3 }, { key := .int .i64 405, val := .agg #[.string ⟨#[77, 101, 116, 104, 111, 100, 32, 78, 111, 116, 32, 65, 108, 108, 111, 119, 101, 100]⟩], born := 4 }, { key := .int .i64 413, val := .agg #[.string ⟨#[67, 111, 110, 116, 101, 110, 116, 32, 84, 111, 111, 32, 76, 97, 114, 103, 101]⟩], born := 5 }, { key := .int .i64 505, val := .agg #[.string ⟨#[72, 84, 84, 80, 32, 86, 101, 114, 115, 105, 111, 110, 32, 78, 111, 116, 32, 83, 117, 112, 112, 111, 114, 116, 101, 100]⟩], born := 6 }]
theorem stU (w : World) (es : Array MapEntry) (c : Nat) (a : Int) (v : Value) (hf : Instr.findNow (.int .i64) (.int .i64 a) es.toList 0 = some none) :
    (Instr.mapUpdate 102 (.map (some w.heap.size)) (.int .i64 a) v).run Tryz.prog (w.alloc (.map es c)) = .ok () (w.alloc (.map (es.push { key := .int .i64 a, val := v, born := c }) (c + 1))) :=
  run_mapUpdate_new Tryz.underlying102 Tryz.underlying3 w es c a v hf
def StMapIs (w : World) (e : Ending) (w' : World) : Prop := ∃ b, e = .returned (.map (some b)) ∧ w'.heap[b]? = some (.map stMap 7) ∧ Below w.heap.size w w'
set_option maxHeartbeats 2000000 in
set_option maxRecDepth 100000 in
theorem ln_statuses (w : World) : Calls Tryz.prog 46 #[] w (StMapIs w) := by
  have hmm := @run_makeMap Tryz.prog
  have h0 := stU w #[] 0 200 (.agg #[.string ⟨#[79, 75]⟩]) rfl
  have h1 := stU w #[{ key := .int .i64 200, val := .agg #[.string ⟨#[79, 75]⟩], born := 0 }] 1 400 (.agg #[.string ⟨#[66, 97, 100, 32, 82, 101, 113, 117, 101, 115, 116]⟩]) rfl
  have h2 := stU w #[{ key := .int .i64 200, val := .agg #[.string ⟨#[79, 75]⟩], born := 0 }, { key := .int .i64 400, val := .agg #[.string ⟨#[66, 97, 100, 32, 82, 101, 113, 117, 101, 115, 116]⟩], born := 1 }] 2 403 (.agg #[.string ⟨#[70, 111, 114, 98, 105, 100, 100, 101, 110]⟩]) rfl
  have h3 := stU w #[{ key := .int .i64 200, val := .agg #[.string ⟨#[79, 75]⟩], born := 0 }, { key := .int .i64 400, val := .agg #[.string ⟨#[66, 97, 100, 32, 82, 101, 113, 117, 101, 115, 116]⟩], born := 1 }, { key := .int .i64 403, val := .agg #[.string ⟨#[70, 111, 114, 98, 105, 100, 100, 101, 110]⟩], born := 2 }] 3 404 (.agg #[.string ⟨#[78, 111, 116, 32, 70, 111, 117, 110, 100]⟩]) rfl
  have h4 := stU w #[{ key := .int .i64 200, val := .agg #[.string ⟨#[79, 75]⟩], born := 0 }, { key := .int .i64 400, val := .agg #[.string ⟨#[66, 97, 100, 32, 82, 101, 113, 117, 101, 115, 116]⟩], born := 1 }, { key := .int .i64 403, val := .agg #[.string ⟨#[70, 111, 114, 98, 105, 100, 100, 101, 110]⟩], born := 2 }, { key := .int .i64 404, val := .agg #[.string ⟨#[78, 111, 116, 32, 70, 111, 117, 110, 100]⟩], born := 3 }] 4 405 (.agg #[.string ⟨#[77, 101, 116, 104, 111, 100, 32, 78, 111, 116, 32, 65, 108, 108, 111, 119, 101, 100]⟩]) rfl
  have h5 := stU w #[{ key := .int .i64 200, val := .agg #[.string ⟨#[79, 75]⟩], born := 0 }, { key := .int .i64 400, val := .agg #[.string ⟨#[66, 97, 100, 32, 82, 101, 113, 117, 101, 115, 116]⟩], born := 1 }, { key := .int .i64 403, val := .agg #[.string ⟨#[70, 111, 114, 98, 105, 100, 100, 101, 110]⟩], born := 2 }, { key := .int .i64 404, val := .agg #[.string ⟨#[78, 111, 116, 32, 70, 111, 117, 110, 100]⟩], born := 3 }, { key := .int .i64 405, val := .agg #[.string ⟨#[77, 101, 116, 104, 111, 100, 32, 78, 111, 116, 32, 65, 108, 108, 111, 119, 101, 100]⟩], born := 4 }] 5 413 (.agg #[.string ⟨#[67, 111, 110, 116, 101, 110, 116, 32, 84, 111, 111, 32, 76, 97, 114, 103, 101]⟩]) rfl
  have h6 := stU w #[{ key := .int .i64 200, val := .agg #[.string ⟨#[79, 75]⟩], born := 0 }, { key := .int .i64 400, val := .agg #[.string ⟨#[66, 97, 100, 32, 82, 101, 113, 117, 101, 115, 116]⟩], born := 1 }, { key := .int .i64 403, val := .agg #[.string ⟨#[70, 111, 114, 98, 105, 100, 100, 101, 110]⟩], born := 2 }, { key := .int .i64 404, val := .agg #[.string ⟨#[78, 111, 116, 32, 70, 111, 117, 110, 100]⟩], born := 3 }, { key := .int .i64 405, val := .agg #[.string ⟨#[77, 101, 116, 104, 111, 100, 32, 78, 111, 116, 32, 65, 108, 108, 111, 119, 101, 100]⟩], born := 4 }, { key := .int .i64 413, val := .agg #[.string ⟨#[67, 111, 110, 116, 101, 110, 116, 32, 84, 111, 111, 32, 76, 97, 114, 103, 101]⟩], born := 5 }] 6 505 (.agg #[.string ⟨#[72, 84, 84, 80, 32, 86, 101, 114, 115, 105, 111, 110, 32, 78, 111, 116, 32, 83, 117, 112, 112, 111, 114, 116, 101, 100]⟩]) rfl
  simp only [List.push_toArray, List.nil_append, List.cons_append, Nat.reduceAdd] at h0 h1 h2 h3 h4 h5 h6
  go_enter Tryz.func46, Tryz.ntmps46
  go_wp2
  go_ret
  exact ⟨_, rfl, heap_alloc_new _ _, (Below.refl _ _).alloc (Nat.le_refl _) _⟩
theorem zeroStatus (w : World) : (zeroValue 100).run Tryz.prog w = .ok (.agg #[.string ⟨#[]⟩]) w := by kernel_rfl
theorem stN_not (n : Int) (h : stN n = []) : ¬ n = 200 ∧ ¬ n = 400 ∧ ¬ n = 403 ∧ ¬ n = 404 ∧ ¬ n = 405 ∧ ¬ n = 413 ∧ ¬ n = 505 := by
  unfold stN at h
  refine ⟨?_, ?_, ?_, ?_, ?_, ?_, ?_⟩ <;> (rintro rfl; simp at h)
set_option maxHeartbeats 2000000 in
theorem ln_Status_no (n : Int) (w : World) (h : stN n = []) : Calls Tryz.prog 26 #[.int .i64 n] w (Ret w (.tuple #[.string ⟨#[]⟩, .int .i64 2])) := by
  have hf : Instr.findNow (.int .i64) (.int .i64 n) stMap.toList 0 = some none := by
    obtain ⟨k0, k1, k2, k3, k4, k5, k6⟩ := stN_not n h
    have i0 : (n == (200 : Int)) = false := by simp; omega
    have i1 : (n == (400 : Int)) = false := by simp; omega
    have i2 : (n == (403 : Int)) = false := by simp; omega
    have i3 : (n == (404 : Int)) = false := by simp; omega
    have i4 : (n == (405 : Int)) = false := by simp; omega
    have i5 : (n == (413 : Int)) = false := by simp; omega
    have i6 : (n == (505 : Int)) = false := by simp; omega
    have sN : ∀ b : Int, Instr.sameNow (TypeDesc.int .i64) (.int .i64 n) (.int .i64 b) = some (n == b) := fun b => rfl
    simp only [stMap, Instr.findNow, sN, i0, i1, i2, i3, i4, i5, i6]
  have hl := fun (w1 : World) (m : Nat) (h : w1.heap[m]? = some (.map stMap 7)) => run_lookup_not (P := Tryz.prog) Tryz.underlying102 Tryz.underlying3 h n (zeroStatus w1) hf
  have HL := Lib.hid hl
  have SS := Lib.hid ln_statuses
  clear hl hf h
  go_enter Tryz.func26, Tryz.ntmps26
  go_wp2_with fail
  refine (SS.out _).mono ?_
  rintro e w1 ⟨b, rfl, hm, hb1⟩
  have hl := HL.out w1 b hm
  clear HL SS
  go_wp2_with fail
  go_ret2
  exact ⟨rfl, hb1.alloc hb1.size _⟩
set_option maxHeartbeats 4000000 in
set_option maxRecDepth 100000 in
theorem ln_Status_at (n i : Nat) (N : ByteArray) (w : World) (ht : Tab w) (hn : n ≤ 999) (hN : N.size ≤ 30) (hs : stN n = N.data.toList) (hf : Instr.findNow (.int .i64) (.int .i64 n) stMap.toList 0 = some (some (i, .agg #[.string N]))) : Calls Tryz.prog 26 #[.int .i64 n] w (Ret w (.tuple #[.string ⟨(stT n).toArray⟩, .int .i64 0])) := by
  have hl := fun (w1 : World) (m : Nat) (h : w1.heap[m]? = some (.map stMap 7)) => run_lookup_there (P := Tryz.prog) Tryz.underlying102 Tryz.underlying3 h n hf
  have IT0 := fun w ht => Itoa_c n (by omega) w ht
  obtain ⟨D, hD⟩ : ∃ D : ByteArray, ⟨(Lib.decDigits n).toArray⟩ = D := ⟨_, rfl⟩
  have hDl : D.data.toList = Lib.decDigits n := by rw [← hD]
  have hDs : D.size ≤ 20 := by
    rw [← size_toList, hDl, Lib.decDigits_length]
    exact Lib.nDigits_le20 n (by omega)
  rw [hD] at IT0
  have htx : (⟨(stT n).toArray⟩ : ByteArray) = (((⟨#[72, 84, 84, 80, 47, 49, 46, 49, 32]⟩ ++ D) ++ ⟨#[32]⟩) ++ N) ++ ⟨#[13, 10]⟩ := by
    apply str_ext
    unfold stT
    rw [hs, Int.toNat_natCast, ← hDl]
    simp
  rw [htx]
  have IT := Lib.hid IT0
  have HL := Lib.hid hl
  have SS := Lib.hid ln_statuses
  have HT := Lib.hid ht
  have n1 : ¬ 9223372036854775807 < 9 + D.size := by omega
  have n2 : ¬ 9223372036854775807 < 9 + D.size + 1 := by omega
  have n3 : ¬ 9223372036854775807 < 9 + D.size + 1 + N.size := by omega
  have n4 : ¬ 9223372036854775807 < 9 + D.size + 1 + N.size + 2 := by omega
  clear hl hf hs ht hD hDl IT0 htx
  go_enter Tryz.func26, Tryz.ntmps26
  go_wp2_with fail
  refine (SS.out _).mono ?_
  rintro e w1 ⟨b, rfl, hm, hb1⟩
  have hl := HL.out w1 b hm
  have HT1 := Lib.hid (HT.out.ret hb1)
  have q1 := hb1.alloc hb1.size (.cells #[.string N] 100)
  have HT2 := Lib.hid (HT1.out.ret ((Below.refl _ w1).alloc (Nat.le_refl _) (.cells #[.string N] 100)))
  clear HL SS
  go_wp2_with fail
  go_region_held3 (fun w' => w'.cell? ⟨w1.heap.size, 0, none⟩ = some (.string N)) (first | exact S7 | (simp (maxDischargeDepth := 9) [go_sem, *]))
    (first | (go_at_call 47; refine (IT.out _ (by first | exact HT2.out | exact HT2.out.ret (below_drew _))).mono ?_; rintro e w5 ⟨rfl, hb5⟩; have S7 := ((bcell hb5).1 w1.heap.size 0 (by simp)).trans (by simp : _ = some (Value.string N)); have q5 := (show Below w.heap.size w w5 from q1.drew.trans (hb5.mono (by simpa using q1.size)))))
  all_goals
    go_wp2_with fail
    go_ret2
    exact ⟨rfl, q5⟩
theorem ln_Status (n : Int) (w : World) (ht : Tab w) : Calls Tryz.prog 26 #[.int .i64 n] w (Ret w (stV n)) := by
  unfold stV
  by_cases h : stN n = []
  · rw [if_pos h]
    exact ln_Status_no n w h
  · rw [if_neg h]
    by_cases h0 : n = 200
    · subst h0
      exact ln_Status_at 200 0 ⟨#[79, 75]⟩ w ht (by omega) (by decide) rfl (by rfl)
    by_cases h1 : n = 400
    · subst h1
      exact ln_Status_at 400 1 ⟨#[66, 97, 100, 32, 82, 101, 113, 117, 101, 115, 116]⟩ w ht (by omega) (by decide) rfl (by rfl)
    by_cases h2 : n = 403
    · subst h2
      exact ln_Status_at 403 2 ⟨#[70, 111, 114, 98, 105, 100, 100, 101, 110]⟩ w ht (by omega) (by decide) rfl (by rfl)
    by_cases h3 : n = 404
    · subst h3
      exact ln_Status_at 404 3 ⟨#[78, 111, 116, 32, 70, 111, 117, 110, 100]⟩ w ht (by omega) (by decide) rfl (by rfl)
    by_cases h4 : n = 405
    · subst h4
      exact ln_Status_at 405 4 ⟨#[77, 101, 116, 104, 111, 100, 32, 78, 111, 116, 32, 65, 108, 108, 111, 119, 101, 100]⟩ w ht (by omega) (by decide) rfl (by rfl)
    by_cases h5 : n = 413
    · subst h5
      exact ln_Status_at 413 5 ⟨#[67, 111, 110, 116, 101, 110, 116, 32, 84, 111, 111, 32, 76, 97, 114, 103, 101]⟩ w ht (by omega) (by decide) rfl (by rfl)
    by_cases h6 : n = 505
    · subst h6
      exact ln_Status_at 505 6 ⟨#[72, 84, 84, 80, 32, 86, 101, 114, 115, 105, 111, 110, 32, 78, 111, 116, 32, 83, 117, 112, 112, 111, 114, 116, 101, 100]⟩ w ht (by omega) (by decide) rfl (by rfl)
    exact absurd (by unfold stN; simp [h0, h1, h2, h3, h4, h5, h6]) h
set_option maxHeartbeats 2000000 in
theorem r15_Name (n : Int) (w : World) : Calls Tryz.prog 54 #[.int .i64 n] w fun e w' => e = .returned (.string ⟨(stN n).toArray⟩) ∧ w' = w := by
  obtain ⟨N, hN⟩ : ∃ N : ByteArray, ⟨(stN n).toArray⟩ = N := ⟨_, rfl⟩
  rw [hN]
  have HN := Lib.hid hN
  clear hN
  go_enter Tryz.func54, Tryz.ntmps54
  go_wp2_with fail
  all_goals
    go_ret
    refine ⟨ret_s ?_, rfl⟩
    rw [← HN.out]
    clear HN
    unfold stN
    simp_all
set_option maxHeartbeats 2000000 in
theorem r15_First (n : Nat) (w : World) (hn : n ≤ 999) : Calls Tryz.prog 56 #[.int .i64 n] w (Ret w (.string ⟨(stT n).toArray⟩)) := by
  have NM0 := fun w => r15_Name n w
  have DG0 := fun w => ref06_Digits n (by omega) w
  obtain ⟨N, hN⟩ : ∃ N : ByteArray, ⟨(stN n).toArray⟩ = N := ⟨_, rfl⟩
  have hNl : N.data.toList = stN n := by rw [← hN]
  have hNs : N.size ≤ 30 := by
    rw [← size_toList, hNl]
    unfold stN
    repeat (first | (split; decide) | decide)
  obtain ⟨D, hD⟩ : ∃ D : ByteArray, ⟨(Lib.decDigits n).toArray⟩ = D := ⟨_, rfl⟩
  have hDl : D.data.toList = Lib.decDigits n := by rw [← hD]
  have hDs : D.size ≤ 20 := by
    rw [← size_toList, hDl, Lib.decDigits_length]
    exact Lib.nDigits_le20 n (by omega)
  have htx : (⟨(stT n).toArray⟩ : ByteArray) = (((⟨#[72, 84, 84, 80, 47, 49, 46, 49, 32]⟩ ++ D) ++ ⟨#[32]⟩) ++ N) ++ ⟨#[13, 10]⟩ := by
    apply str_ext
    unfold stT
    rw [← hNl, Int.toNat_natCast, ← hDl]
    simp
  rw [htx]
  rw [hN] at NM0
  rw [hD] at DG0
  have NM := Lib.hid NM0
  have DG := Lib.hid DG0
  have n1 : ¬ 9223372036854775807 < 9 + D.size := by omega
  have n2 : ¬ 9223372036854775807 < 9 + D.size + 1 := by omega
  have n3 : ¬ 9223372036854775807 < 9 + D.size + 1 + N.size := by omega
  have n4 : ¬ 9223372036854775807 < 9 + D.size + 1 + N.size + 2 := by omega
  clear hN hNl hD hDl NM0 DG0 htx
  go_enter Tryz.func56, Tryz.ntmps56
  go_wp2_with fail
  refine (DG.out _).mono ?_
  rintro e w1 ⟨rfl, hb1⟩
  go_wp2_with fail
  refine (NM.out _).mono ?_
  rintro e w2 ⟨rfl, rfl⟩
  go_wp2_with fail
  go_ret
  exact ⟨rfl, hb1⟩
end Go.Proofs.YthgmgmbjjjnhnaaGreatDoor
