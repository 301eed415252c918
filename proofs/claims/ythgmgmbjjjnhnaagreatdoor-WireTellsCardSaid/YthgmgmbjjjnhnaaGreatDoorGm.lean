/- ChT, ChQ, ChS: put together by mergetpl.py. -/
import Derived.Test.YthgmgmbjjjnhnaaGreatDoorGl
import Derived.Test.YthgmgmbjjjnhnaaGreatDoorRows
import Derived.Test.YthgmgmbjjjnhnaaGreatDoorGa
import Derived.Deep.QuietTactic
import Derived.BigQuiet
import Derived.IntWalk
namespace Go.Proofs.YthgmgmbjjjnhnaaGreatDoor
open Go.RowKit
variable {sz mn k : Nat} {body L : List UInt8}
theorem dc1 (h : ([48, 13, 10, 13, 10] : List UInt8) <+: L) : ((CM.at0 sz mn body).run k L).tell = (body, k + 5, true, 0) := by
  obtain ⟨r, rfl⟩ := h
  show ((CM.at0 sz mn body).run k (48 :: 13 :: 10 :: 13 :: 10 :: r)).tell = _
  rw [at0_last]
  rfl
theorem dc2 (c1 : ¬ ([48, 13, 10, 13, 10] : List UInt8) <+: L) (h : L <+: ([48, 13, 10, 13, 10] : List UInt8)) : ((CM.at0 sz mn body).run k L).tell = ([], 0, false, 0) := by
  match L, c1, h with
  | [], _, _ => rfl
  | c :: l, c1, h =>
    obtain rfl : c = 48 := (List.cons_prefix_cons.1 h).1
    obtain ⟨m, hm⟩ := (at0_zero (sz := sz) (mn := mn) (n := k) (body := body) l c1).1 h
    rw [hm]
    rfl
theorem dc3 (c1 : ¬ ([48, 13, 10, 13, 10] : List UInt8) <+: L) (c2 : ¬ L <+: ([48, 13, 10, 13, 10] : List UInt8)) (h : (szOf L).2 = 0) : ((CM.at0 sz mn body).run k L).tell = ([], 0, false, 160) := by
  match L, c1, c2, h with
  | [], _, c2, _ => exact absurd (List.nil_prefix) c2
  | c :: l, c1, c2, h =>
    by_cases hc : c = 48
    · subst hc
      rw [(at0_zero (sz := sz) (mn := mn) (n := k) (body := body) l c1).2 c2]
      rfl
    · rcases szOf_none h with h | h
      · exact absurd h hc
      · rw [at0_none hc h]
        rfl
theorem dc4a (h : (szOf L).2 ≠ 0) (hl : L.drop (szOf L).2 = []) : ((CM.at0 sz mn body).run k L).tell = ([], 0, false, 0) := by
  rw [at0_digits h, hl]
  rfl
theorem dc4b (h : (szOf L).2 ≠ 0) (hl : L.drop (szOf L).2 = [13]) : ((CM.at0 sz mn body).run k L).tell = ([], 0, false, 0) := by
  rw [at0_digits h, hl]
  obtain ⟨m, hm⟩ := dig_wait1 (n := (szOf L).1) (k := (szOf L).2) (at' := k + (szOf L).2) (body := body) (by omega)
  rw [hm]
  rfl
theorem dc5 (h : (szOf L).2 ≠ 0) (h1 : L.drop (szOf L).2 ≠ []) (h2 : L.drop (szOf L).2 ≠ [13]) (h3 : ¬ ([13, 10] : List UInt8) <+: L.drop (szOf L).2) : ((CM.at0 sz mn body).run k L).tell = ([], 0, false, 160) := by
  rw [at0_digits h]
  have hs := fun c r => szOf_stop h (c := c) (r := r)
  generalize L.drop (szOf L).2 = q at *
  match q, h1, h2, h3, hs with
  | c :: r, _, h2, h3, hs =>
    rw [dig_bad (by omega) (hs c r rfl) ?_ h3]
    · rfl
    · by_cases hr : r = []
      · right
        intro e
        exact h2 (by rw [hr, e])
      · exact .inl hr
theorem drop_two {n : Nat} (h : ([13, 10] : List UInt8) <+: L.drop n) : L.drop n = 13 :: 10 :: L.drop (n + 2) := by
  obtain ⟨r, hr⟩ := h
  have : L.drop (n + 2) = r := by
    rw [← List.drop_drop, ← hr]
    rfl
  rw [this, ← hr]
  rfl
theorem dc6 (h : (szOf L).2 ≠ 0) (h3 : ([13, 10] : List UInt8) <+: L.drop (szOf L).2) (hm : 8192 < body.length + (szOf L).1) : ((CM.at0 sz mn body).run k L).tell = ([], 0, false, 4) := by
  rw [at0_digits h, drop_two h3, dig_many (by omega) hm]
  rfl
theorem dcs (h : (szOf L).2 ≠ 0) (h3 : ([13, 10] : List UInt8) <+: L.drop (szOf L).2) (hm : ¬ 8192 < body.length + (szOf L).1) :
    (CM.at0 sz mn body).run k L = (⟨3, (szOf L).1, (szOf L).2, 0, body⟩ : CM).run (k + (szOf L).2 + 2) (L.drop ((szOf L).2 + 2)) := by
  rw [at0_digits h, drop_two h3, dig_end (by omega) hm]
theorem dc7a (h : (szOf L).2 ≠ 0) (h3 : ([13, 10] : List UInt8) <+: L.drop (szOf L).2) (hm : ¬ 8192 < body.length + (szOf L).1) (hd : (L.drop ((szOf L).2 + 2)).length ≤ (szOf L).1) : ((CM.at0 sz mn body).run k L).tell = ([], 0, false, 0) := by
  rw [dcs h h3 hm]
  obtain ⟨m, hm⟩ := data_wait (n := (szOf L).1) (k := (szOf L).2) (at' := k + (szOf L).2 + 2) (body := body) hd
  rw [hm]
  rfl
theorem dc7b (h : (szOf L).2 ≠ 0) (h3 : ([13, 10] : List UInt8) <+: L.drop (szOf L).2) (hm : ¬ 8192 < body.length + (szOf L).1) (hd : ¬ (L.drop ((szOf L).2 + 2)).length ≤ (szOf L).1)
    (hp : (L.drop ((szOf L).2 + 2)).drop (szOf L).1 <+: ([13, 10] : List UInt8)) (hl : (L.drop ((szOf L).2 + 2)).length < (szOf L).1 + 2) : ((CM.at0 sz mn body).run k L).tell = ([], 0, false, 0) := by
  rw [dcs h h3 hm, data_run (by omega)]
  have hq : ((L.drop ((szOf L).2 + 2)).drop (szOf L).1).length = 1 := by rw [List.length_drop]; omega
  generalize (L.drop ((szOf L).2 + 2)).drop (szOf L).1 = q at *
  match q, hq, hp with
  | [c], _, hp =>
    obtain rfl : c = 13 := (List.cons_prefix_cons.1 hp).1
    obtain ⟨m, hm⟩ := tail_wait (k := (szOf L).2) (at' := k + (szOf L).2 + 2 + (szOf L).1) (body := body ++ List.take (szOf L).1 (List.drop ((szOf L).2 + 2) L))
    rw [hm]
    rfl
theorem dc8 (h : (szOf L).2 ≠ 0) (h3 : ([13, 10] : List UInt8) <+: L.drop (szOf L).2) (hm : ¬ 8192 < body.length + (szOf L).1) (hd : ¬ (L.drop ((szOf L).2 + 2)).length ≤ (szOf L).1)
    (hw : ¬ ((L.drop ((szOf L).2 + 2)).drop (szOf L).1 <+: ([13, 10] : List UInt8) ∧ (L.drop ((szOf L).2 + 2)).length < (szOf L).1 + 2)) (hp : ¬ ([13, 10] : List UInt8) <+: (L.drop ((szOf L).2 + 2)).drop (szOf L).1) : ((CM.at0 sz mn body).run k L).tell = ([], 0, false, 160) := by
  rw [dcs h h3 hm, data_run (by omega)]
  have hq : ((L.drop ((szOf L).2 + 2)).drop (szOf L).1).length = (L.drop ((szOf L).2 + 2)).length - (szOf L).1 := by rw [List.length_drop]
  generalize (L.drop ((szOf L).2 + 2)).drop (szOf L).1 = q at *
  match q, hq, hp, hw with
  | [], hq, _, _ => simp only [List.length_nil] at hq; omega
  | c :: r, hq, hp, hw =>
    rw [tail_bad ?_ hp]
    · rfl
    · by_cases hr : r = []
      · right
        intro e
        subst hr
        subst e
        simp only [List.length_cons, List.length_nil] at hq
        exact hw ⟨by simp, by omega⟩
      · exact .inl hr
theorem dc9 (h : (szOf L).2 ≠ 0) (h3 : ([13, 10] : List UInt8) <+: L.drop (szOf L).2) (hm : ¬ 8192 < body.length + (szOf L).1) (hd : ¬ (L.drop ((szOf L).2 + 2)).length ≤ (szOf L).1)
    (hp : ([13, 10] : List UInt8) <+: (L.drop ((szOf L).2 + 2)).drop (szOf L).1) :
    (CM.at0 sz mn body).run k L = (CM.at0 0 (szOf L).2 (body ++ (L.drop ((szOf L).2 + 2)).take (szOf L).1)).run (k + (szOf L).2 + 2 + (szOf L).1 + 2) ((L.drop ((szOf L).2 + 2)).drop ((szOf L).1 + 2)) := by
  rw [dcs h h3 hm, data_run (by omega), drop_two hp, tail_on]
end Go.Proofs.YthgmgmbjjjnhnaaGreatDoor
namespace Go.Proofs.YthgmgmbjjjnhnaaGreatDoor
open Go.RowKit

set_option maxHeartbeats 1000000 in
theorem r16_digit (c : UInt8) (w : World) : Calls Tryz.prog 152 #[.int .u8 c.toNat] w fun e w' => e = .returned (.int .i64 (hexN c)) ∧ w' = w := by
  have hc : (c.toNat : Int) ≤ 255 := by have := c.toNat_lt; omega
  have h0 : 0 ≤ (c.toNat : Int) := by omega
  obtain ⟨d, hd⟩ : ∃ d, hexN c = d := ⟨_, rfl⟩
  rw [hd]
  unfold hexN at hd
  by_cases h1 : 48 ≤ c.toNat ∧ c.toNat ≤ 57
  · rw [if_pos h1] at hd
    subst hd
    have a1 : (48 : Int) ≤ c.toNat := by omega
    have a2 : (c.toNat : Int) ≤ 57 := by omega
    clear h1
    go_enter Tryz.func152, Tryz.ntmps152
    go_wp2_with fail
    go_ret
    exact ⟨rfl, rfl⟩
  · rw [if_neg h1] at hd
    by_cases h2 : 97 ≤ c.toNat ∧ c.toNat ≤ 102
    · rw [if_pos h2] at hd
      subst hd
      have a1 : (97 : Int) ≤ c.toNat := by omega
      have a2 : (c.toNat : Int) ≤ 102 := by omega
      have a3 : ¬ (c.toNat : Int) ≤ 57 := by omega
      have a4 : (48 : Int) ≤ c.toNat := by omega
      clear h1 h2
      go_enter Tryz.func152, Tryz.ntmps152
      go_wp2_with fail
      go_ret
      exact ⟨rfl, rfl⟩
    · rw [if_neg h2] at hd
      by_cases h3 : 65 ≤ c.toNat ∧ c.toNat ≤ 70
      · rw [if_pos h3] at hd
        subst hd
        have a1 : (65 : Int) ≤ c.toNat := by omega
        have a2 : (c.toNat : Int) ≤ 70 := by omega
        have a3 : ¬ (c.toNat : Int) ≤ 57 := by omega
        have a4 : (48 : Int) ≤ c.toNat := by omega
        have a5 : ¬ (97 : Int) ≤ c.toNat := by omega
        clear h1 h2 h3
        go_enter Tryz.func152, Tryz.ntmps152
        go_wp2_with fail
        go_ret
        exact ⟨rfl, rfl⟩
      · rw [if_neg h3] at hd
        subst hd
        go_enter Tryz.func152, Tryz.ntmps152
        go_wp2_with fail
        all_goals first | (exfalso; omega) | (go_ret; exact ⟨rfl, rfl⟩)

/-- Is one text the beginning of another one? -/
def pre (a b : List UInt8) : Bool := decide (a <+: b)
theorem pre_take (a b : List UInt8) : pre a b = (b.take a.length == a) := by
  unfold pre
  rw [Bool.eq_iff_iff, decide_eq_true_eq, beq_iff_eq, List.prefix_iff_eq_take]
  exact eq_comm
theorem pre_long (a b : List UInt8) (h : ¬ a.length ≤ b.length) : pre a b = false := by
  unfold pre
  rw [decide_eq_false_iff_not]
  intro hp
  exact h hp.length_le
set_option maxHeartbeats 1000000 in
theorem r16_begins (a b : ByteArray) (w : World) : Calls Tryz.prog 115 #[.string a, .string b] w fun e w' => e = .returned (.bool (pre a.data.toList b.data.toList)) ∧ w' = w := by
  obtain ⟨p, hp⟩ : ∃ p, pre a.data.toList b.data.toList = p := ⟨_, rfl⟩
  rw [hp]
  by_cases h : a.size ≤ b.size
  · rw [pre_take] at hp
    have HP := Lib.hid hp
    clear hp
    go_enter Tryz.func115, Tryz.ntmps115
    go_wp2_with fail
    go_ret
    exact ⟨ret_b (by rw [← HP.out, ext_list, Lib.toList_data, List.drop_zero, Nat.sub_zero, size_toList]), rfl⟩
  · rw [pre_long _ _ (by simpa using h)] at hp
    subst hp
    go_enter Tryz.func115, Tryz.ntmps115
    go_wp2_with fail
    go_ret
    exact ⟨rfl, rfl⟩

theorem szOf_snoc {s : ByteArray} {k : Nat} (hlt : k < s.size) : s.data.toList.drop k = s[k] :: s.data.toList.drop (k + 1) := by
  rw [List.drop_eq_getElem_cons (by simpa using hlt)]
  rfl
set_option maxHeartbeats 4000000 in
theorem r16_size (s : ByteArray) (w : World) (hs : s.size ≤ 9223372036854775807) : Calls Tryz.prog 116 #[.string s] w fun e w' => e = .returned (.tuple #[.int .i64 (szOf s.data.toList).1, .int .i64 (szOf s.data.toList).2]) ∧ w' = w := by
  go_enter Tryz.func116, Tryz.ntmps116
  go_wp2_with fail
  go_loop [4, 5] (fun n k => ∃ (a j : Nat), j ≤ 4 ∧ j ≤ s.size ∧ a < 16 ^ j ∧ n = .int .i64 a ∧ k = .int .i64 j ∧ szOf s.data.toList = hexRun j a (s.data.toList.drop j)) (fun _ k => 4 - (intOf k).toNat)
  case atStart => exact ⟨0, 0, by omega, by omega, by simp, rfl, rfl, rfl⟩
  case round =>
    obtain ⟨a, j, hj4, hjs, ha, rfl, rfl, hrun⟩ := hrel
    have ha2 : a < 65536 := by
      have : 16 ^ j ≤ 16 ^ 4 := Nat.pow_le_pow_right (by omega) hj4
      omega
    by_cases hlt : j < s.size
    · rw [szOf_snoc hlt] at hrun
      have hx := hexN_le s[j]
      have D := fun w => r16_digit s[j] w
      obtain ⟨d, hd⟩ : ∃ d, hexN s[j] = d := ⟨_, rfl⟩
      rw [hd] at hx D
      have DD := Lib.hid D
      clear D
      have hb : (s[j].toNat : Int) ≤ 255 := by have := s[j].toNat_lt; omega
      by_cases h4 : j < 4
      · by_cases h0 : 0 ≤ d
        · by_cases hk : 0 < j ∨ s[j] ≠ 48
          · have hr2 : szOf s.data.toList = hexRun (j + 1) (16 * a + d.toNat) (s.data.toList.drop (j + 1)) := by
              rw [hrun]
              simp only [hexRun]
              rw [if_pos ⟨h4, by rw [hd]; exact h0, hk⟩, hd]
            have hp : 16 * a + d.toNat < 16 ^ (j + 1) := by rw [Nat.pow_succ]; omega
            have HR := Lib.hid hr2
            have HPP := Lib.hid hp
            have e1 : IntKind.i64.wrap (16 * (a : Int)) = 16 * (a : Int) := IntWalk.i64_in _ (by omega)
            have e2 : IntKind.i64.wrap (16 * (a : Int) + d) = 16 * (a : Int) + d := IntWalk.i64_in _ (by omega)
            clear hrun hd hr2 hp ha
            by_cases hj0 : 0 < j
            · clear hk
              go_wp2_with fail
              refine (DD.out _).mono ?_
              rintro e w1 ⟨rfl, rfl⟩
              go_wp2_with fail
              refine (DD.out _).mono ?_
              rintro e w1 ⟨rfl, rfl⟩
              go_wp2_with fail
              go_round
              case rel => exact ⟨16 * a + d.toNat, j + 1, by omega, by omega, HPP.out, by rw [show ((16 * a + d.toNat : Nat) : Int) = 16 * (a : Int) + d by omega], by go_num, HR.out⟩
              case measure => simp [intOf]; omega
            · obtain rfl : j = 0 := by omega
              have h48 : ((s[0].toNat : Int) != 48) = true := by
                rcases hk with hk | hk
                · omega
                · rw [bne_iff_ne]
                  intro e
                  apply hk
                  apply UInt8.toNat_inj.1
                  show s[0].toNat = 48
                  omega
              clear hk
              go_wp2_with fail
              refine (DD.out _).mono ?_
              rintro e w1 ⟨rfl, rfl⟩
              go_wp2_with fail
              refine (DD.out _).mono ?_
              rintro e w1 ⟨rfl, rfl⟩
              go_wp2_with fail
              go_round
              case rel => exact ⟨16 * a + d.toNat, 1, by omega, by omega, HPP.out, by rw [show ((16 * a + d.toNat : Nat) : Int) = 16 * (a : Int) + d by omega], by go_num, HR.out⟩
              case measure => simp [intOf]
          · obtain rfl : j = 0 := by omega
            have h48 : ((s[0].toNat : Int) != 48) = false := by
              have : s[0] = 48 := Classical.not_not.1 fun e => hk (.inr e)
              rw [this]
              rfl
            have hr2 : szOf s.data.toList = (a, 0) := by
              rw [hrun]
              simp only [hexRun]
              rw [if_neg (fun h => hk h.2.2)]
            have HR := Lib.hid hr2
            clear hrun hd hr2 ha hk
            go_wp2_with fail
            refine (DD.out _).mono ?_
            rintro e w1 ⟨rfl, rfl⟩
            go_wp2_with fail
            go_ret2
            rw [HR.out]
            exact ⟨rfl, rfl⟩
        · have hr2 : szOf s.data.toList = (a, j) := by
            rw [hrun]
            simp only [hexRun]
            rw [if_neg (by rw [hd]; intro h; exact h0 h.2.1)]
          have HR := Lib.hid hr2
          clear hrun hd hr2 ha
          go_wp2_with fail
          refine (DD.out _).mono ?_
          rintro e w1 ⟨rfl, rfl⟩
          go_wp2_with fail
          go_ret2
          rw [HR.out]
          exact ⟨rfl, rfl⟩
      · have hr2 : szOf s.data.toList = (a, j) := by
          rw [hrun]
          simp only [hexRun]
          rw [if_neg (by intro h; exact h4 h.1)]
        have HR := Lib.hid hr2
        clear hrun hd hr2 ha
        go_wp2_with fail
        go_ret2
        rw [HR.out]
        exact ⟨rfl, rfl⟩
    · have hr2 : szOf s.data.toList = (a, j) := by
        rw [hrun, List.drop_eq_nil_of_le (by simp; omega)]
        rfl
      have HR := Lib.hid hr2
      clear hrun hr2 ha
      go_wp2_with fail
      go_ret2
      rw [HR.out]
      exact ⟨rfl, rfl⟩
end Go.Proofs.YthgmgmbjjjnhnaaGreatDoor
namespace Go.Proofs.YthgmgmbjjjnhnaaGreatDoor
open Go.RowKit

theorem begins_t (a b : ByteArray) (w : World) (h : a.data.toList <+: b.data.toList) : Calls Tryz.prog 115 #[.string a, .string b] w fun e w' => e = .returned (.bool true) ∧ w' = w := by
  have := r16_begins a b w
  rwa [show pre a.data.toList b.data.toList = true from decide_eq_true h] at this
theorem begins_f (a b : ByteArray) (w : World) (h : ¬ a.data.toList <+: b.data.toList) : Calls Tryz.prog 115 #[.string a, .string b] w fun e w' => e = .returned (.bool false) ∧ w' = w := by
  have := r16_begins a b w
  rwa [show pre a.data.toList b.data.toList = false from decide_eq_false h] at this
/-- What the reference's Decode answers, as one value. -/
abbrev dcV (l : List UInt8) : Value := .tuple #[.string ⟨(dcOf l).1.toArray⟩, .int .i64 (dcOf l).2.1, .bool (dcOf l).2.2.1, .int .i64 (dcOf l).2.2.2]
theorem results_tmp4' {fn : Func} {t u v x : Tmp} (h : fn.results = #[.tmp t, .tmp u, .tmp v, .tmp x]) (tmps : Array Value) (P : Program) (w : World) :
    (results fn tmps).run P w = .ok (.tuple #[tmps.getD t undef, tmps.getD u undef, tmps.getD v undef, tmps.getD x undef]) w := by
  simp [results, h]
set_option maxHeartbeats 8000000 in
set_option maxRecDepth 100000 in
theorem r16_Decode (s : ByteArray) (w : World) (hs : s.size ≤ 1000000) : Calls Tryz.prog 82 #[.string s] w fun e w' => e = .returned (dcV s.data.toList) ∧ w' = w := by
  unfold dcV
  go_enter Tryz.func82, Tryz.ntmps82
  go_wp2_with fail
  go_loop [6, 7] (fun b a => ∃ (body : List UInt8) (k sz mn : Nat), k ≤ s.size ∧ body.length ≤ 8192 ∧ b = .string ⟨body.toArray⟩ ∧ a = .int .i64 k ∧ dcOf s.data.toList = ((CM.at0 sz mn body).run k (s.data.toList.drop k)).tell) (fun _ a => s.size - (intOf a).toNat)
  case atStart => exact ⟨[], 0, 0, 0, by omega, by simp, rfl, rfl, dcOf_tell _⟩
  case round =>
    obtain ⟨body, k, sz, mn, hk, hb, rfl, rfl, hrun⟩ := hrel
    have HR := Lib.hid hrun
    clear hrun
    have e0 : IntKind.i64.wrap ((k : Int) + 5) = (k : Int) + 5 := IntWalk.i64_in _ (by omega)
    go_wp2_with fail
    generalize hr : s.extract k s.size = rest
    have hL : rest.data.toList = s.data.toList.drop k := by
      rw [← hr, ext_data]
      exact List.take_of_length_le (by simp)
    have hsz : rest.size = s.size - k := by
      have := congrArg List.length hL
      simpa using this
    rw [← hL] at HR
    have HL := Lib.hid hL
    have HS := Lib.hid hsz
    have hsz2 : rest.size ≤ s.size := by omega
    have hlen : rest.data.toList.length = rest.size := size_toList rest
    clear hr hL hsz
    obtain ⟨v, hv⟩ : ∃ v, (szOf rest.data.toList).1 = v := ⟨_, rfl⟩
    obtain ⟨n, hn⟩ : ∃ n, (szOf rest.data.toList).2 = n := ⟨_, rfl⟩
    have hle := hexRun_le rest.data.toList 0 0 (by omega)
    have hlt := hexRun_lt rest.data.toList 0 0 (by simp)
    change 0 ≤ (szOf rest.data.toList).2 ∧ (szOf rest.data.toList).2 ≤ 4 ∧ (szOf rest.data.toList).2 ≤ 0 + rest.data.toList.length at hle
    change (szOf rest.data.toList).1 < 16 ^ (szOf rest.data.toList).2 at hlt
    have SZ := r16_size rest
    rw [hv, hn] at SZ hlt
    rw [hn, hlen] at hle
    have hn4 : n ≤ 4 := hle.2.1
    have hnr : n ≤ rest.size := by omega
    have hv4 : v < 65536 := by
      have : 16 ^ n ≤ 16 ^ 4 := Nat.pow_le_pow_right (by omega) hn4
      omega
    have SZH := Lib.hid SZ
    have HV := Lib.hid hv
    have HN := Lib.hid hn
    have HLEN := Lib.hid hlen
    clear SZ hv hn hle hlt hlen
    by_cases c1 : ([48, 13, 10, 13, 10] : List UInt8) <+: rest.data.toList
    · have hd : dcOf s.data.toList = (body, k + 5, true, 0) := HR.out.trans (dc1 c1)
      have HD := Lib.hid hd
      have C1 := Lib.hid c1
      clear c1 hd
      refine (begins_t _ _ _ C1.out).mono ?_
      rintro e w1 ⟨rfl, rfl⟩
      go_wp2_with fail
      refine bodyPost_ret (results_tmp4' rfl _ _ _) rfl ?_
      rw [HD.out]
      exact ⟨rfl, rfl⟩
    have C1 := Lib.hid c1
    clear c1
    refine (begins_f _ _ _ C1.out).mono ?_
    rintro e w1 ⟨rfl, rfl⟩
    go_wp2_with fail
    by_cases c2 : rest.data.toList <+: ([48, 13, 10, 13, 10] : List UInt8)
    · have hd : dcOf s.data.toList = ([], 0, false, 0) := HR.out.trans (dc2 C1.out c2)
      have HD := Lib.hid hd
      have C2 := Lib.hid c2
      clear c2 hd
      refine (begins_t _ _ _ C2.out).mono ?_
      rintro e w1 ⟨rfl, rfl⟩
      go_wp2_with fail
      refine bodyPost_ret (results_tmp4' rfl _ _ _) rfl ?_
      rw [HD.out]
      exact ⟨rfl, rfl⟩
    have C2 := Lib.hid c2
    clear c2
    refine (begins_f _ _ _ C2.out).mono ?_
    rintro e w1 ⟨rfl, rfl⟩
    go_wp2_with fail
    refine (SZH.out _ (by omega)).mono ?_
    rintro e w1 ⟨rfl, rfl⟩
    by_cases c3 : n = 0
    · have hd : dcOf s.data.toList = ([], 0, false, 160) := HR.out.trans (dc3 C1.out C2.out (HN.out.trans c3))
      have HD := Lib.hid hd
      clear hd
      subst c3
      go_wp2_with fail
      refine bodyPost_ret (results_tmp4' rfl _ _ _) rfl ?_
      rw [HD.out]
      exact ⟨rfl, rfl⟩
    have C3 := Lib.hid (show (szOf rest.data.toList).2 ≠ 0 by rw [HN.out]; exact c3)
    have hn0 : ((n : Int) == 0) = false := by apply beq_false_of_ne; omega
    clear c3
    by_cases c4 : n = rest.size
    · have hd : dcOf s.data.toList = ([], 0, false, 0) := HR.out.trans (dc4a C3.out (by rw [HN.out]; exact List.drop_eq_nil_of_le (by rw [HLEN.out]; omega)))
      have HD := Lib.hid hd
      have hb4 : ((n : Int) == (rest.size : Int)) = true := by rw [beq_iff_eq]; omega
      clear hd c4
      go_wp2_with fail
      refine bodyPost_ret (results_tmp4' rfl _ _ _) rfl ?_
      rw [HD.out]
      exact ⟨rfl, rfl⟩
    have hb4 : ((n : Int) == (rest.size : Int)) = false := by apply beq_false_of_ne; omega
    have hnr2 : n < rest.size := by omega
    clear c4
    have hD1 : (rest.extract n rest.size).data.toList = rest.data.toList.drop n := by
      rw [ext_data]
      exact List.take_of_length_le (by simp)
    obtain ⟨r1, hr1⟩ : ∃ r, rest.extract n rest.size = r := ⟨_, rfl⟩
    rw [hr1] at hD1
    by_cases c4 : r1.data.toList = [13]
    · have hd : dcOf s.data.toList = ([], 0, false, 0) := HR.out.trans (dc4b C3.out (by rw [HN.out, ← hD1]; exact c4))
      have HD := Lib.hid hd
      have hb5 : ((rest.extract n rest.size).toList == [13]) = true := by rw [hr1, Lib.toList_data, c4]; rfl
      clear hd c4 hD1 hr1
      go_wp2_with fail
      refine bodyPost_ret (results_tmp4' rfl _ _ _) rfl ?_
      rw [HD.out]
      exact ⟨rfl, rfl⟩
    have hb5 : ((rest.extract n rest.size).toList == [13]) = false := by rw [hr1, Lib.toList_data, eqb_list]; exact decide_eq_false c4
    have C4 := Lib.hid c4
    have HD1 := Lib.hid hD1
    have HR1 := Lib.hid hr1
    clear c4 hD1 hr1
    go_wp2_with fail
    rw [HR1.out]
    by_cases c5 : ([13, 10] : List UInt8) <+: r1.data.toList
    rotate_left
    · have hd : dcOf s.data.toList = ([], 0, false, 160) := HR.out.trans (dc5 C3.out (by rw [HN.out]; intro e; have := congrArg List.length e; rw [List.length_drop, HLEN.out] at this; simp at this; omega) (by rw [HN.out, ← HD1.out]; exact C4.out) (by rw [HN.out, ← HD1.out]; exact c5))
      have HD := Lib.hid hd
      have C5 := Lib.hid c5
      clear hd c5
      refine (begins_f _ _ _ C5.out).mono ?_
      rintro e w1 ⟨rfl, rfl⟩
      go_wp2_with fail
      refine bodyPost_ret (results_tmp4' rfl _ _ _) rfl ?_
      rw [HD.out]
      exact ⟨rfl, rfl⟩
    have C5' := Lib.hid c5
    have C5 := Lib.hid (show ([13, 10] : List UInt8) <+: rest.data.toList.drop (szOf rest.data.toList).2 by rw [HN.out, ← HD1.out]; exact c5)
    have hn2 : n + 2 ≤ rest.size := by
      have := c5.length_le
      rw [HD1.out, List.length_drop, HLEN.out] at this
      simp at this
      omega
    clear c5
    refine (begins_t _ _ _ C5'.out).mono ?_
    rintro e w1 ⟨rfl, rfl⟩
    have e1 : IntKind.i64.wrap ((body.length : Int) + v) = (body.length : Int) + v := IntWalk.i64_in _ (by omega)
    have e2 : IntKind.i64.wrap ((n : Int) + 2) = (n : Int) + 2 := IntWalk.i64_in _ (by omega)
    have e3 : ((n : Int) + 2).toNat = n + 2 := by omega
    by_cases c6 : 8192 < body.length + v
    · have hd : dcOf s.data.toList = ([], 0, false, 4) := HR.out.trans (dc6 C3.out C5.out (by rw [HV.out]; exact c6))
      have HD := Lib.hid hd
      have hb6 : (8192 : Int) < (body.length : Int) + v := by omega
      clear hd c6
      go_wp2_with fail
      refine bodyPost_ret (results_tmp4' rfl _ _ _) rfl ?_
      rw [HD.out]
      exact ⟨rfl, rfl⟩
    have hb6 : ¬ (8192 : Int) < (body.length : Int) + v := by omega
    have C6 := Lib.hid (show ¬ 8192 < body.length + (szOf rest.data.toList).1 by rw [HV.out]; exact c6)
    clear c6
    have hdl : (rest.data.toList.drop (n + 2)).length = rest.size - (n + 2) := by rw [List.length_drop, HLEN.out]
    by_cases c7 : v + (n + 2) < rest.size
    rotate_left
    · have hd : dcOf s.data.toList = ([], 0, false, 0) := HR.out.trans (dc7a C3.out C5.out C6.out (by rw [HV.out, HN.out, hdl]; omega))
      have HD := Lib.hid hd
      clear hd hdl
      go_wp2_with fail
      refine bodyPost_ret (results_tmp4' rfl _ _ _) rfl ?_
      rw [HD.out]
      exact ⟨rfl, rfl⟩
    have C7 := Lib.hid (show ¬ (rest.data.toList.drop ((szOf rest.data.toList).2 + 2)).length ≤ (szOf rest.data.toList).1 by rw [HV.out, HN.out, hdl]; omega)
    have hD2 : ((rest.extract (n + 2) rest.size).extract v (rest.size - (n + 2))).data.toList = (rest.data.toList.drop (n + 2)).drop v := by
      rw [ext_data, ext_data, List.take_of_length_le (i := rest.size - (n + 2)) (by rw [hdl]; exact Nat.le_refl _)]
      exact List.take_of_length_le (by rw [List.length_drop, hdl]; exact Nat.le_refl _)
    have HDL := Lib.hid hdl
    obtain ⟨r2, hr2⟩ : ∃ r, (rest.extract (n + 2) rest.size).extract v (rest.size - (n + 2)) = r := ⟨_, rfl⟩
    rw [hr2] at hD2
    have HR2 := Lib.hid hr2
    have HD2 := Lib.hid hD2
    have hv7 : v ≤ rest.size - (n + 2) := by omega
    have e4 : IntKind.i64.wrap ((v : Int) + 2) = (v : Int) + 2 := IntWalk.i64_in _ (by omega)
    clear hr2 hD2 hdl
    go_wp2_with fail
    rw [HR2.out]
    have hl2 : ((rest.data.toList.drop (n + 2)).drop v).length = rest.size - (n + 2) - v := by rw [List.length_drop, HDL.out]
    by_cases c8 : r2.data.toList <+: ([13, 10] : List UInt8)
    · have C8 := Lib.hid c8
      refine (begins_t _ _ _ C8.out).mono ?_
      rintro e w1 ⟨rfl, rfl⟩
      by_cases c9 : rest.size - (n + 2) < v + 2
      · have hd : dcOf s.data.toList = ([], 0, false, 0) := HR.out.trans (dc7b C3.out C5.out C6.out C7.out (by rw [HV.out, HN.out, ← HD2.out]; exact c8) (by rw [HV.out, HN.out, HDL.out]; exact c9))
        have HD := Lib.hid hd
        clear hd c8 hl2
        go_wp2_with fail
        refine bodyPost_ret (results_tmp4' rfl _ _ _) rfl ?_
        rw [HD.out]
        exact ⟨rfl, rfl⟩
      · have W := Lib.hid (show ¬ (r2.data.toList <+: ([13, 10] : List UInt8) ∧ rest.size - (n + 2) < v + 2) from fun h => c9 h.2)
        clear c8 hl2
        go_wp2_with fail
        rw [HR2.out]
        by_cases c10 : ([13, 10] : List UInt8) <+: r2.data.toList
        rotate_left
        · have hd : dcOf s.data.toList = ([], 0, false, 160) := HR.out.trans (dc8 C3.out C5.out C6.out C7.out (by rw [HV.out, HN.out, ← HD2.out, HDL.out]; exact W.out) (by rw [HV.out, HN.out, ← HD2.out]; exact c10))
          have HD := Lib.hid hd
          have C10 := Lib.hid c10
          clear hd c10
          refine (begins_f _ _ _ C10.out).mono ?_
          rintro e w1 ⟨rfl, rfl⟩
          go_wp2_with fail
          refine bodyPost_ret (results_tmp4' rfl _ _ _) rfl ?_
          rw [HD.out]
          exact ⟨rfl, rfl⟩
        have hrun := HR.out.trans (congrArg CR.tell (dc9 (sz := sz) (mn := mn) (k := k) C3.out C5.out C6.out C7.out (by rw [HV.out, HN.out, ← HD2.out]; exact c10)))
        rw [HV.out, HN.out, List.drop_drop, show rest.data.toList.drop (n + 2 + (v + 2)) = s.data.toList.drop (k + n + 2 + v + 2) by rw [HL.out, List.drop_drop]; congr 1; omega] at hrun
        have hlen2 : v + (n + 2) + 2 ≤ rest.size := by
          have := c10.length_le
          rw [HD2.out, List.length_drop, HDL.out] at this
          simp at this
          omega
        have hks : k + n + 2 + v + 2 ≤ s.size := by have := HS.out; omega
        have hbs : (⟨body.toArray⟩ ++ (rest.extract (n + 2) rest.size).extract 0 v : ByteArray) = ⟨(body ++ (rest.data.toList.drop (n + 2)).take v).toArray⟩ := by
          apply str_ext
          rw [app_data, ext_data, ext_data, List.drop_zero, List.take_of_length_le (i := rest.size - (n + 2)) (by rw [HDL.out]; exact Nat.le_refl _)]
          rfl
        have HBS := Lib.hid hbs
        clear hbs
        have f1 : IntKind.i64.wrap ((k : Int) + n) = (k : Int) + n := IntWalk.i64_in _ (by omega)
        have f2 : IntKind.i64.wrap ((k : Int) + n + 2) = (k : Int) + n + 2 := IntWalk.i64_in _ (by omega)
        have f3 : IntKind.i64.wrap ((k : Int) + n + 2 + v) = (k : Int) + n + 2 + v := IntWalk.i64_in _ (by omega)
        have f4 : IntKind.i64.wrap ((k : Int) + n + 2 + v + 2) = (k : Int) + n + 2 + v + 2 := IntWalk.i64_in _ (by omega)
        have C10 := Lib.hid c10
        have HRUN := Lib.hid hrun
        clear c10 hrun
        refine (begins_t _ _ _ C10.out).mono ?_
        rintro e w1 ⟨rfl, rfl⟩
        go_wp2_with fail
        go_round
        case rel => exact ⟨body ++ (rest.data.toList.drop (n + 2)).take v, k + n + 2 + v + 2, 0, n, hks, (by rw [List.length_append]; have := List.length_take_le v (rest.data.toList.drop (n + 2)); omega), (by rw [HBS.out]), (by go_num), HRUN.out⟩
        case measure => simp [intOf]; omega
    · have W := Lib.hid (show ¬ (r2.data.toList <+: ([13, 10] : List UInt8) ∧ rest.size - (n + 2) < v + 2) from fun h => c8 h.1)
      have C8 := Lib.hid c8
      clear c8 hl2
      refine (begins_f _ _ _ C8.out).mono ?_
      rintro e w1 ⟨rfl, rfl⟩
      go_wp2_with fail
      rw [HR2.out]
      by_cases c10 : ([13, 10] : List UInt8) <+: r2.data.toList
      rotate_left
      · have hd : dcOf s.data.toList = ([], 0, false, 160) := HR.out.trans (dc8 C3.out C5.out C6.out C7.out (by rw [HV.out, HN.out, ← HD2.out, HDL.out]; exact W.out) (by rw [HV.out, HN.out, ← HD2.out]; exact c10))
        have HD := Lib.hid hd
        have C10 := Lib.hid c10
        clear hd c10
        refine (begins_f _ _ _ C10.out).mono ?_
        rintro e w1 ⟨rfl, rfl⟩
        go_wp2_with fail
        refine bodyPost_ret (results_tmp4' rfl _ _ _) rfl ?_
        rw [HD.out]
        exact ⟨rfl, rfl⟩
      have hrun := HR.out.trans (congrArg CR.tell (dc9 (sz := sz) (mn := mn) (k := k) C3.out C5.out C6.out C7.out (by rw [HV.out, HN.out, ← HD2.out]; exact c10)))
      rw [HV.out, HN.out, List.drop_drop, show rest.data.toList.drop (n + 2 + (v + 2)) = s.data.toList.drop (k + n + 2 + v + 2) by rw [HL.out, List.drop_drop]; congr 1; omega] at hrun
      have hlen2 : v + (n + 2) + 2 ≤ rest.size := by
        have := c10.length_le
        rw [HD2.out, List.length_drop, HDL.out] at this
        simp at this
        omega
      have hks : k + n + 2 + v + 2 ≤ s.size := by have := HS.out; omega
      have hbs : (⟨body.toArray⟩ ++ (rest.extract (n + 2) rest.size).extract 0 v : ByteArray) = ⟨(body ++ (rest.data.toList.drop (n + 2)).take v).toArray⟩ := by
        apply str_ext
        rw [app_data, ext_data, ext_data, List.drop_zero, List.take_of_length_le (i := rest.size - (n + 2)) (by rw [HDL.out]; exact Nat.le_refl _)]
        rfl
      have HBS := Lib.hid hbs
      clear hbs
      have f1 : IntKind.i64.wrap ((k : Int) + n) = (k : Int) + n := IntWalk.i64_in _ (by omega)
      have f2 : IntKind.i64.wrap ((k : Int) + n + 2) = (k : Int) + n + 2 := IntWalk.i64_in _ (by omega)
      have f3 : IntKind.i64.wrap ((k : Int) + n + 2 + v) = (k : Int) + n + 2 + v := IntWalk.i64_in _ (by omega)
      have f4 : IntKind.i64.wrap ((k : Int) + n + 2 + v + 2) = (k : Int) + n + 2 + v + 2 := IntWalk.i64_in _ (by omega)
      have C10 := Lib.hid c10
      have HRUN := Lib.hid hrun
      clear c10 hrun
      refine (begins_t _ _ _ C10.out).mono ?_
      rintro e w1 ⟨rfl, rfl⟩
      go_wp2_with fail
      go_round
      case rel => exact ⟨body ++ (rest.data.toList.drop (n + 2)).take v, k + n + 2 + v + 2, 0, n, hks, (by rw [List.length_append]; have := List.length_take_le v (rest.data.toList.drop (n + 2)); omega), (by rw [HBS.out]), (by go_num), HRUN.out⟩
      case measure => simp [intOf]; omega
end Go.Proofs.YthgmgmbjjjnhnaaGreatDoor
