/- Requests, as their bytes come: the plain laws. -/
import Derived.Test.YthgmgmbjjjnhnaaGreatDoorGl
import Derived.Test.YthgmgmbjjjnhnaaGreatDoorRpP
import Derived.Test.YthgmgmbjjjnhnaaGreatDoorGj
namespace Go.Proofs.YthgmgmbjjjnhnaaGreatDoor
open Go.RowKit

theorem ix_app {a : List UInt8} (b : List UInt8) {n : Nat} (h : Lib.index a sep4 = (n : Int)) : Lib.index (a ++ b) sep4 = (n : Int) := by
  rcases Lib.index_spec a sep4 with ⟨h1, _⟩ | ⟨i, h1, h2, h3, h4⟩
  · omega
  · have hi : i = n := by omega
    subst hi
    have hr := Lib.index_room a sep4 (by omega)
    have hl : sep4.length = 4 := rfl
    rw [h1, hl] at hr
    have key : ∀ j, j ≤ i → Lib.occAt (a ++ b) sep4 j = Lib.occAt a sep4 j := by
      intro j hj
      unfold Lib.occAt
      rw [List.drop_append_of_le_length (by omega), Bool.eq_iff_iff, List.isPrefixOf_iff_prefix, List.isPrefixOf_iff_prefix]
      constructor
      · intro hp
        exact List.prefix_of_prefix_length_le hp (List.prefix_append _ _) (by rw [List.length_drop, hl]; omega)
      · intro hp
        exact hp.trans (List.prefix_append _ _)
    refine Lib.index_first (by rw [List.length_append]; omega) (by rw [key _ (Nat.le_refl _)]; exact h3) (fun j hj => ?_)
    rw [key j (by omega)]
    exact h4 j hj
theorem ix_take {l : List UInt8} {n k : Nat} (h : Lib.index l sep4 = (n : Int)) (hk : n + 4 ≤ k) : Lib.index (l.take k) sep4 = (n : Int) := by
  rcases Lib.index_spec (l.take k) sep4 with ⟨h1, h2⟩ | ⟨i, h1, _, _, _⟩
  · exfalso
    rcases Lib.index_spec l sep4 with ⟨g1, _⟩ | ⟨j, g1, g2, g3, _⟩
    · omega
    · have hj : j = n := by omega
      subst hj
      have hr := Lib.index_room l sep4 (by omega)
      have hl : sep4.length = 4 := rfl
      rw [g1, hl] at hr
      have := h2 j (by rw [List.length_take]; omega)
      unfold Lib.occAt at this g3
      rw [List.isPrefixOf_iff_prefix] at g3
      rw [Bool.eq_false_iff] at this
      apply this
      rw [List.isPrefixOf_iff_prefix, List.drop_take]
      rw [List.prefix_take_iff]
      exact ⟨g3, by rw [hl]; omega⟩
  · have := ix_app (l.drop k) h1
    rw [List.take_append_drop, h] at this
    rw [h1]
    omega
theorem ix_none {l : List UInt8} {n k : Nat} (h : Lib.index l sep4 = (n : Int)) (hk : k < n + 4) : Lib.index (l.take k) sep4 = -1 := by
  rcases Lib.index_spec (l.take k) sep4 with ⟨h1, _⟩ | ⟨i, h1, _, _, _⟩
  · exact h1
  · exfalso
    have := ix_app (l.drop k) h1
    rw [List.take_append_drop, h] at this
    have hr := Lib.index_room (l.take k) sep4 (by omega)
    have hl : sep4.length = 4 := rfl
    rw [h1, hl, List.length_take] at hr
    omega
theorem ix_ge (l : List UInt8) (h : ¬ Lib.index l sep4 < 0) : ∃ n : Nat, Lib.index l sep4 = (n : Int) ∧ n + 4 ≤ l.length := by
  have hr := Lib.index_room l sep4 (by omega)
  have hl : sep4.length = 4 := rfl
  rw [hl] at hr
  exact ⟨(Lib.index l sep4).toNat, by omega, by omega⟩
theorem ix_neg {l : List UInt8} (h : Lib.index l sep4 < 0) : Lib.index l sep4 = -1 := by
  have := Lib.index_ge l sep4
  omega
/-! ### What One answers -/
inductive WO where
  | more
  | bad (st : Int)
  | done (host body : List UInt8) (keep : Bool) (used : Nat)
/-- What a head tells: a status; host, whether the connection goes on, kind and length of the content. -/
def wiF4 (ps : List Pr) : Int × List UInt8 × Bool × Int × Int :=
  if (kep ps).2 ≠ 0 ∨ (hst ps).2 ≠ 0 ∨ (frm ps).2.2 ≠ 0 ∨ (frm ps).1 = 0 then (400, [], false, 0, 0) else (200, (hst ps).1, (kep ps).1, (frm ps).1, (frm ps).2.1)
def wiF (r : List UInt8) : Int × List UInt8 × Bool × Int × Int := if hdE r ≠ 0 then (400, [], false, 0, 0) else wiF4 (hdV r)
def wiL (x : List UInt8) : Int := match lnOf x with | none => 400 | some (m, t, g, s) => jdg m t g s
def wiJ (h : List UInt8) : Int × List UInt8 × Bool × Int × Int := if wiL (cutX h) ≠ 200 then (wiL (cutX h), [], false, 0, 0) else wiF (lnR h)
/-- What stands behind a head. -/
def wiC (s : List UInt8) (at' : Nat) (host : List UInt8) (keep : Bool) (d : List UInt8 × Nat × Bool × Int) : WO :=
  if d.2.2.2 = 4 then .bad 413 else if d.2.2.2 ≠ 0 then .bad 400 else if d.2.2.1 = true then .done host d.1 keep (at' + d.2.1) else if 16384 ≤ s.length then .bad 413 else .more
def wiH (s : List UInt8) (at' : Nat) (j : Int × List UInt8 × Bool × Int × Int) : WO :=
  if j.1 ≠ 200 then .bad j.1
  else if j.2.2.2.1 = 1 then (if 8192 < j.2.2.2.2 then .bad 413 else if s.length < at' + j.2.2.2.2.toNat then .more else .done j.2.1 ((s.drop at').take j.2.2.2.2.toNat) j.2.2.1 (at' + j.2.2.2.2.toNat))
  else wiC s at' j.2.1 j.2.2.1 (dcOf ((s.take 16384).drop at'))
def wiN (s : List UInt8) : Int := Lib.index (s.take 4096) sep4
def wiO (s : List UInt8) : WO :=
  if wiN s < 0 then (if 4096 ≤ s.length then .bad 400 else .more) else wiH s ((wiN s).toNat + 4) (wiJ (s.take ((wiN s).toNat + 2)))
theorem wiN_lt {s : List UInt8} (h : ¬ wiN s < 0) : (wiN s).toNat + 4 ≤ 4096 ∧ (wiN s).toNat + 4 ≤ s.length := by
  obtain ⟨n, h1, h2⟩ := ix_ge _ h
  unfold wiN
  rw [h1]
  rw [List.length_take] at h2
  omega
theorem wiN_app {s : List UInt8} (t : List UInt8) (h : ¬ wiN s < 0) : wiN (s ++ t) = wiN s := by
  obtain ⟨n, h1, h2⟩ := ix_ge _ h
  unfold wiN
  rw [h1, List.take_append]
  exact ix_app _ h1
theorem wiN_full {s : List UInt8} (t : List UInt8) (h : 4096 ≤ s.length) : wiN (s ++ t) = wiN s := by
  unfold wiN
  rw [List.take_append_of_le_length h]
theorem dc_not' {l : List UInt8} (h : (dcOf l).2.2.1 = false) : (dcOf l).1 = [] ∧ (dcOf l).2.1 = 0 := by
  rw [dcOf_tell] at h ⊢
  cases hr : CM.zero.run 0 l with
  | err e => exact ⟨rfl, rfl⟩
  | waits m => exact ⟨rfl, rfl⟩
  | whole m n => rw [hr] at h; cases h
theorem dc_true' {l : List UInt8} (h : (dcOf l).2.2.1 = true) : (dcOf l).2.2.2 = 0 := by
  rw [dcOf_tell] at h ⊢
  cases hr : CM.zero.run 0 l with
  | err e => rw [hr] at h; cases h
  | waits m => rw [hr] at h; cases h
  | whole m n => rfl
/-- WHAT WAS TOLD STAYS TOLD. -/
theorem wiO_app {s : List UInt8} (t : List UInt8) (h : wiO s ≠ .more) : wiO (s ++ t) = wiO s := by
  unfold wiO at h ⊢
  by_cases hn : wiN s < 0
  · rw [if_pos hn] at h ⊢
    by_cases hl : 4096 ≤ s.length
    · rw [wiN_full t hl, if_pos hn, if_pos hl, if_pos (by rw [List.length_append]; omega)]
    · rw [if_neg hl] at h
      exact absurd rfl h
  · obtain ⟨h1, h2⟩ := wiN_lt hn
    rw [if_neg hn] at h ⊢
    rw [wiN_app t hn, if_neg hn]
    obtain ⟨n, hN⟩ : ∃ n, (wiN s).toNat = n := ⟨_, rfl⟩
    rw [hN] at h h1 h2 ⊢
    rw [List.take_append_of_le_length (by omega)]
    obtain ⟨j, hj⟩ : ∃ j, wiJ (s.take (n + 2)) = j := ⟨_, rfl⟩
    rw [hj] at h ⊢
    unfold wiH at h ⊢
    by_cases a1 : j.1 ≠ 200
    · rw [if_pos a1, if_pos a1]
    · rw [if_neg a1] at h ⊢
      rw [if_neg a1]
      by_cases a2 : j.2.2.2.1 = 1
      · rw [if_pos a2] at h ⊢
        rw [if_pos a2]
        by_cases a3 : 8192 < j.2.2.2.2
        · rw [if_pos a3, if_pos a3]
        · rw [if_neg a3] at h ⊢
          rw [if_neg a3]
          by_cases a4 : s.length < n + 4 + j.2.2.2.2.toNat
          · rw [if_pos a4] at h
            exact absurd rfl h
          · rw [if_neg a4, if_neg (by rw [List.length_append]; omega), List.drop_append_of_le_length (by omega), List.take_append_of_le_length (by rw [List.length_drop]; omega)]
      · rw [if_neg a2] at h ⊢
        rw [if_neg a2]
        by_cases a3 : 16384 ≤ s.length
        · rw [List.take_append_of_le_length a3]
          have a3' : 16384 ≤ (s ++ t).length := by rw [List.length_append]; omega
          unfold wiC
          rw [if_pos a3, if_pos a3']
        · obtain ⟨d, hd⟩ : ∃ d, dcOf ((s.take 16384).drop (n + 4)) = d := ⟨_, rfl⟩
          have hd2 : dcOf (((s ++ t).take 16384).drop (n + 4)) = d := by
            rw [List.take_append, List.take_of_length_le (by omega : s.length ≤ 16384), List.drop_append_of_le_length (by omega)]
            rw [List.take_of_length_le (by omega : s.length ≤ 16384)] at hd
            rw [dc_lasts ?_, hd]
            rw [hd]
            unfold wiC at h
            rw [List.take_of_length_le (by omega : s.length ≤ 16384), hd] at h
            by_cases b1 : d.2.2.1 = true
            · exact .inl b1
            · right
              intro b2
              rw [b2, if_neg (by decide), if_neg (by decide), if_neg b1, if_neg a3] at h
              exact h rfl
          rw [hd2, hd]
          unfold wiC at h ⊢
          rw [hd] at h
          by_cases b0 : d.2.2.2 = 4
          · rw [if_pos b0, if_pos b0]
          · rw [if_neg b0] at h ⊢
            rw [if_neg b0]
            by_cases b1 : d.2.2.2 ≠ 0
            · rw [if_pos b1, if_pos b1]
            · rw [if_neg b1] at h ⊢
              rw [if_neg b1]
              by_cases b2 : d.2.2.1 = true
              · rw [if_pos b2, if_pos b2]
              · rw [if_neg b2, if_neg a3] at h
                exact absurd rfl h
theorem wiF_200 (r : List UInt8) : (wiF r).1 = 200 ∨ wiF r = (400, [], false, 0, 0) := by
  unfold wiF wiF4
  repeat (first | (split; (first | (right; rfl) | (left; rfl))) | (left; rfl) | (right; rfl))
theorem wiO_done {s host body : List UInt8} {keep : Bool} {n : Nat} (h : wiO s = .done host body keep n) : 0 < n ∧ n ≤ s.length := by
  unfold wiO at h
  by_cases hn : wiN s < 0
  · rw [if_pos hn] at h
    split at h <;> cases h
  · obtain ⟨h1, h2⟩ := wiN_lt hn
    rw [if_neg hn] at h
    obtain ⟨k, hN⟩ : ∃ n, (wiN s).toNat = n := ⟨_, rfl⟩
    rw [hN] at h h1 h2
    unfold wiH at h
    split at h
    · cases h
    · split at h
      · split at h
        · cases h
        · split at h
          · cases h
          · injection h with _ _ _ h
            omega
      · unfold wiC at h
        split at h
        · cases h
        · split at h
          · cases h
          · split at h
            · injection h with _ _ _ h
              rename_i hd _ _ _
              have := (dc_again hd).2.1
              rw [List.length_drop, List.length_take] at this
              omega
            · split at h <;> cases h
theorem wiO_bad {s : List UInt8} {st : Int} (h : wiO s = .bad st) : st ≠ 200 := by
  unfold wiO at h
  split at h
  · split at h
    · injection h with h
      omega
    · cases h
  · unfold wiH at h
    split at h
    · injection h with h
      rw [← h]
      assumption
    · split at h
      · split at h
        · injection h with h
          omega
        · split at h <;> cases h
      · unfold wiC at h
        split at h
        · injection h with h
          omega
        · split at h
          · injection h with h
            omega
          · split at h
            · cases h
            · split at h
              · injection h with h
                omega
              · cases h
theorem wiO_more {s : List UInt8} (h : wiO s = .more) : s.length < 16384 := by
  unfold wiO at h
  by_cases hn : wiN s < 0
  · rw [if_pos hn] at h
    split at h
    · cases h
    · omega
  · obtain ⟨h1, h2⟩ := wiN_lt hn
    rw [if_neg hn] at h
    obtain ⟨k, hN⟩ : ∃ n, (wiN s).toNat = n := ⟨_, rfl⟩
    rw [hN] at h h1 h2
    unfold wiH at h
    split at h
    · cases h
    · split at h
      · split at h
        · cases h
        · split at h
          · omega
          · cases h
      · unfold wiC at h
        split at h
        · cases h
        · split at h
          · cases h
          · split at h
            · cases h
            · split at h
              · cases h
              · omega
/-! ### Feed -/
abbrev Cm := Int × List UInt8 × List UInt8 × Bool
def wiG : Nat → List UInt8 → List Cm × Option (List UInt8)
  | 0, s => ([], some s)
  | f + 1, s => match wiO s with
    | .more => ([], some s)
    | .bad st => ([(st, [], [], false)], none)
    | .done h b k n => if k = true then ((200, h, b, true) :: (wiG f (s.drop n)).1, (wiG f (s.drop n)).2) else ([(200, h, b, false)], none)
def wiR (s : List UInt8) : List Cm × Option (List UInt8) := wiG (s.length + 1) s
theorem wiG_fuel : ∀ (f g : Nat) (s : List UInt8), s.length < f → s.length < g → wiG f s = wiG g s
  | 0, _, _, h, _ => by omega
  | _ + 1, 0, _, _, h => by omega
  | f + 1, g + 1, s, hf, hg => by
    unfold wiG
    cases hw : wiO s with
    | more => rfl
    | bad st => rfl
    | done h b k n =>
      have := wiO_done hw
      simp only
      rw [wiG_fuel f g (s.drop n) (by rw [List.length_drop]; omega) (by rw [List.length_drop]; omega)]
theorem wiR_more {s : List UInt8} (h : wiO s = .more) : wiR s = ([], some s) := by
  unfold wiR wiG
  rw [h]
theorem wiR_bad {s : List UInt8} {st : Int} (h : wiO s = .bad st) : wiR s = ([(st, [], [], false)], none) := by
  unfold wiR wiG
  rw [h]
theorem wiR_done {s host b : List UInt8} {n : Nat} (h : wiO s = .done host b true n) : wiR s = ((200, host, b, true) :: (wiR (s.drop n)).1, (wiR (s.drop n)).2) := by
  have := wiO_done h
  rw [wiR, wiG, h]
  simp only [if_true]
  rw [wiG_fuel s.length ((s.drop n).length + 1) (s.drop n) (by rw [List.length_drop]; omega) (by omega)]
  rfl
theorem wiR_last {s host b : List UInt8} {n : Nat} (h : wiO s = .done host b false n) : wiR s = ([(200, host, b, false)], none) := by
  unfold wiR wiG
  rw [h]
  rfl
theorem wiR_rest : ∀ (N : Nat) (s : List UInt8), s.length ≤ N → ∀ r, (wiR s).2 = some r → wiO r = .more := by
  intro N
  induction N with
  | zero =>
    intro s hs r h
    cases hw : wiO s with
    | more => rw [wiR_more hw] at h; injection h with h; rw [← h]; exact hw
    | bad st => rw [wiR_bad hw] at h; cases h
    | done host b k n => have := wiO_done hw; omega
  | succ N ih =>
    intro s hs r h
    cases hw : wiO s with
    | more => rw [wiR_more hw] at h; injection h with h; rw [← h]; exact hw
    | bad st => rw [wiR_bad hw] at h; cases h
    | done host b k n =>
      have := wiO_done hw
      cases k with
      | true =>
        rw [wiR_done hw] at h
        exact ih (s.drop n) (by rw [List.length_drop]; omega) r h
      | false => rw [wiR_last hw] at h; cases h
/-- HOW THE BYTES ARE PARTED COUNTS FOR NOTHING. -/
theorem wiR_app (t : List UInt8) : ∀ (N : Nat) (s : List UInt8), s.length ≤ N → wiR (s ++ t) = match (wiR s).2 with
    | none => wiR s
    | some r => ((wiR s).1 ++ (wiR (r ++ t)).1, (wiR (r ++ t)).2) := by
  intro N
  induction N with
  | zero =>
    intro s hs
    cases hw : wiO s with
    | more => rw [wiR_more hw]; rfl
    | bad st =>
      rw [wiR_bad hw]
      exact wiR_bad (by rw [wiO_app t (by rw [hw]; intro h; cases h), hw])
    | done host b k n => have := wiO_done hw; omega
  | succ N ih =>
    intro s hs
    cases hw : wiO s with
    | more => rw [wiR_more hw]; rfl
    | bad st =>
      rw [wiR_bad hw]
      exact wiR_bad (by rw [wiO_app t (by rw [hw]; intro h; cases h), hw])
    | done host b k n =>
      have hb := wiO_done hw
      have hw2 : wiO (s ++ t) = .done host b k n := by rw [wiO_app t (by rw [hw]; intro h; cases h), hw]
      cases k with
      | true =>
        rw [wiR_done hw, wiR_done hw2, List.drop_append_of_le_length hb.2, ih (s.drop n) (by rw [List.length_drop]; omega)]
        cases hx : (wiR (s.drop n)).2 with
        | none =>
          simp only
          rw [hx]
        | some r => simp
      | false => rw [wiR_last hw, wiR_last hw2]
end Go.Proofs.YthgmgmbjjjnhnaaGreatDoor
