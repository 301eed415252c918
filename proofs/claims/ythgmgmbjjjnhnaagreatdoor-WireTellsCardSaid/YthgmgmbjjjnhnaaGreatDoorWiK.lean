/- The document's Same; how the bytes are parted counts for nothing: the plain law. PRINTED BY PROGRAM (gen_wis.py). -/
import Derived.Test.YthgmgmbjjjnhnaaGreatDoorWiJ
import Derived.Laws.StructEq
namespace Go.Proofs.YthgmgmbjjjnhnaaGreatDoor
open Go.RowKit

theorem IsCames.ret {v : Value} {l : List Cm} {w w' : World} (h : IsCames v l w) (hb : Below w.heap.size w w') : IsCames v l w' := IsRow.ret h hb
theorem IsCames.form {v : Value} {l : List Cm} {w : World} (h : IsCames v l w) : ∃ a c, v = .slice a l.length c := by
  obtain ⟨_, a, c, h, _⟩ := h
  exact ⟨a, c, h⟩
theorem cmsV_at : ∀ (l : List Cm) (k : Nat) (h : k < l.length), (cmsV l)[k * 4]? = some (.int .i64 l[k].1) ∧ (cmsV l)[k * 4 + 1]? = some (.string ⟨l[k].2.1.toArray⟩) ∧ (cmsV l)[k * 4 + 2]? = some (.string ⟨l[k].2.2.1.toArray⟩) ∧ (cmsV l)[k * 4 + 3]? = some (.bool l[k].2.2.2)
  | [], _, h => by simp at h
  | c :: l, 0, _ => ⟨rfl, rfl, rfl, rfl⟩
  | c :: l, k + 1, h => by
    obtain ⟨i1, i2, i3, i4⟩ := cmsV_at l k (by simpa using h)
    have e1 : (k + 1) * 4 = k * 4 + 4 := by omega
    rw [e1]
    exact ⟨i1, i2, i3, i4⟩
theorem IsCames.cell {v : Value} {l : List Cm} {w : World} (h : IsCames v l w) {k : Nat} (hk : k < l.length) : ∃ b off cap, v = .slice (some ⟨b, off, none⟩) l.length cap ∧ b < w.heap.size ∧
    w.cell? ⟨b, off + k * 4, none⟩ = some (.int .i64 l[k].1) ∧ w.cell? ⟨b, off + k * 4 + 1, none⟩ = some (.string ⟨l[k].2.1.toArray⟩) ∧ w.cell? ⟨b, off + k * 4 + 2, none⟩ = some (.string ⟨l[k].2.2.1.toArray⟩) ∧ w.cell? ⟨b, off + k * 4 + 3, none⟩ = some (.bool l[k].2.2.2) := by
  obtain ⟨hl, a, cap, rfl, _, hc⟩ := h
  rcases hc with h0 | ⟨b, off, rfl, h1, h2⟩
  · omega
  · have hl2 := cmsV_len l
    obtain ⟨c1, c2, c3, c4⟩ := cmsV_at l k hk
    have d1 := h2 (k * 4) (by omega)
    have d2 := h2 (k * 4 + 1) (by omega)
    have d3 := h2 (k * 4 + 2) (by omega)
    have d4 := h2 (k * 4 + 3) (by omega)
    rw [List.getElem?_eq_getElem (by omega)] at c1 c2 c3 c4
    refine ⟨b, off, cap, rfl, h1, d1.trans c1, ?_, ?_, ?_⟩
    · rw [Nat.add_assoc]
      exact d2.trans c2
    · rw [Nat.add_assoc]
      exact d3.trans c3
    · rw [Nat.add_assoc]
      exact d4.trans c4
set_option maxHeartbeats 4000000 in
set_option maxRecDepth 100000 in
/-- One list, twice. -/
theorem r17_Same (u v : Value) (l : List Cm) (w : World) (hu : IsCames u l w) (hv : IsCames v l w) (hl : l.length ≤ 1000000) : Calls Tryz.prog 18 #[u, v] w (Ret w (.bool true)) := by
  obtain ⟨ua, uc, rfl⟩ := hu.form
  obtain ⟨va, vc, rfl⟩ := hv.form
  obtain ⟨n, hn⟩ : ∃ n, l.length = n := ⟨_, rfl⟩
  have HN := Lib.hid hn
  have HU := Lib.hid hu
  have HV := Lib.hid hv
  rw [hn] at HU HV hl ⊢
  have HU2 : Hid (IsCames (.slice ua n uc) l w) := HU
  have HV2 : Hid (IsCames (.slice va n vc) l w) := HV
  clear hu hv HU HV hn
  go_enter Tryz.func18, Tryz.ntmps18
  go_wp2_with fail
  go_loopw [5] (fun i wr => ∃ k j : Nat, k ≤ n ∧ i = .int .i64 k ∧ wr = w.drewN j) (fun i _ => n - (intOf i).toNat)
  case atStart => exact ⟨0, 0, Nat.zero_le _, rfl, rfl⟩
  case round =>
    obtain ⟨k, j, hk, rfl, rfl⟩ := hrel
    by_cases hlt : k < n
    · have hx : k < l.length := by have := HN.out; omega
      obtain ⟨b1, o1, cap1, hs1, hb1, c1, c2, c3, c4⟩ := HU2.out.cell hx
      obtain ⟨b2, o2, cap2, hs2, hb2, d1, d2, d3, d4⟩ := HV2.out.cell hx
      have ha1 : ua = some ⟨b1, o1, none⟩ := by injection hs1
      have ha2 : va = some ⟨b2, o2, none⟩ := by injection hs2
      subst ha1 ha2
      obtain ⟨c, hc⟩ : ∃ c, l[k] = c := ⟨_, rfl⟩
      rw [hc] at c1 c2 c3 c4 d1 d2 d3 d4
      obtain ⟨st, ho, bd, kp⟩ := c
      simp only at c1 c2 c3 c4 d1 d2 d3 d4
      obtain ⟨HH, hHH⟩ : ∃ Y : ByteArray, ⟨ho.toArray⟩ = Y := ⟨_, rfl⟩
      obtain ⟨BB, hBB⟩ : ∃ Y : ByteArray, ⟨bd.toArray⟩ = Y := ⟨_, rfl⟩
      rw [hHH] at c2 d2
      rw [hBB] at c3 d3
      have g1 : (k : Int) < n := by omega
      have g2 : (0 : Int) ≤ (k : Int) := by omega
      clear hc hHH hBB hs1 hs2 hx
      go_wp2_with fail
      go_quiet (fail)
      go_wp2_with fail
      go_roundw
      case rel => exact ⟨k + 1, _, by omega, by go_num, rfl⟩
      case measure => simp [intOf]; omega
    · go_wp2_with fail
      go_ret
      exact ⟨rfl, below_drewN _ _⟩
/-! ### The plain law -/
theorem fdT_off {X D : List UInt8} (h : wiCk X true = 0) (hD : D.length ≤ 16384) : fdT X true D = ((X, true), [], 0) := by
  unfold fdT
  rw [h, if_neg (by decide), if_neg (by omega), if_pos rfl]
theorem fdT_on {X D : List UInt8} (h : wiCk X false = 0) (hD : D.length ≤ 16384) : fdT X false D = match (wiR (X ++ D)).2 with
    | none => (([], true), (wiR (X ++ D)).1, 0)
    | some t => ((t, false), (wiR (X ++ D)).1, 0) := by
  unfold fdT
  rw [h, if_neg (by decide), if_neg (by omega), if_neg (by decide)]
  cases (wiR (X ++ D)).snd <;> rfl
theorem fdT_err {X D : List UInt8} {off : Bool} (hD : D.length ≤ 16384) (h : (fdT X off D).2.2 ≠ 0) : fdT X off D = (([], false), [], wiCk X off) ∧ wiCk X off ≠ 0 := by
  by_cases h1 : wiCk X off ≠ 0
  · refine ⟨?_, h1⟩
    unfold fdT
    rw [if_pos h1]
  · exfalso
    have h0 : wiCk X off = 0 := by omega
    cases off with
    | true => rw [fdT_off h0 hD] at h; exact h rfl
    | false =>
      rw [fdT_on h0 hD] at h
      cases hr : (wiR (X ++ D)).2 <;> rw [hr] at h <;> exact h rfl
theorem fdT_ck {X D : List UInt8} {off : Bool} (h : (fdT X off D).2.2 = 0) : wiCk X off = 0 := by
  by_cases h1 : wiCk X off ≠ 0
  · unfold fdT at h
    rw [if_pos h1] at h
    exact h
  · omega
theorem ck_off : wiCk [] true = 0 := by decide +kernel
theorem ck_more {t : List UInt8} (h : wiO t = .more) : wiCk t false = 0 := by
  unfold wiCk
  rw [wiM_iff.2 h]
  rfl
theorem split_plain {X A B : List UInt8} {off : Bool} (hA : A.length ≤ 8000) (hB : B.length ≤ 8000) (h0 : (fdT X off A).2.2 = 0) :
    (fdT (fdT X off A).1.1 (fdT X off A).1.2 B).2.2 = 0 ∧ (fdT X off (A ++ B)).2.2 = 0 ∧ (fdT (fdT X off A).1.1 (fdT X off A).1.2 B).1 = (fdT X off (A ++ B)).1 ∧ (fdT X off A).2.1 ++ (fdT (fdT X off A).1.1 (fdT X off A).1.2 B).2.1 = (fdT X off (A ++ B)).2.1 ∧ wiCk (fdT X off (A ++ B)).1.1 (fdT X off (A ++ B)).1.2 = 0 ∧ (fdT X off (A ++ B)).1.1.length ≤ 16384 ∧ (fdT X off A).1.1.length ≤ 16384 := by
  have hc := fdT_ck h0
  have hAB : (A ++ B).length ≤ 16384 := by rw [List.length_append]; omega
  cases off with
  | true =>
    have hX : X = [] := by
      unfold wiCk at hc
      split at hc
      · rename_i h
        simpa using h
      · cases hc
    subst hX
    rw [fdT_off hc (by omega), fdT_off hc hAB]
    refine ⟨?_, rfl, ?_, ?_, ck_off, by simp, by simp⟩
    · rw [fdT_off ck_off (by omega)]
    · rw [fdT_off ck_off (by omega)]
    · rw [fdT_off ck_off (by omega)]
      rfl
  | false =>
    have happ := wiR_app B (X ++ A).length (X ++ A) (Nat.le_refl _)
    rw [List.append_assoc] at happ
    rw [fdT_on hc (by omega), fdT_on hc hAB, happ]
    cases hr : (wiR (X ++ A)).2 with
    | none =>
      simp only [hr]
      rw [fdT_off ck_off (by omega)]
      exact ⟨by first | rfl | trivial, by first | rfl | trivial, by first | rfl | trivial, by simp, ck_off, by simp, by simp⟩
    | some t =>
      have ht := wiR_rest (X ++ A).length (X ++ A) (Nat.le_refl _) t hr
      have hl := wiO_more ht
      simp only
      rw [fdT_on (ck_more ht) (by omega)]
      cases hr2 : (wiR (t ++ B)).2 with
      | none => exact ⟨rfl, rfl, rfl, rfl, ck_off, by simp, by show t.length ≤ 16384; omega⟩
      | some t2 =>
        have ht2 := wiR_rest (t ++ B).length (t ++ B) (Nat.le_refl _) t2 hr2
        have hl2 := wiO_more ht2
        exact ⟨rfl, rfl, rfl, rfl, ck_more ht2, by show t2.length ≤ 16384; omega, by show t.length ≤ 16384; omega⟩
theorem wiR_len : ∀ (N : Nat) (s : List UInt8), s.length ≤ N → (wiR s).1.length ≤ s.length := by
  intro N
  induction N with
  | zero =>
    intro s hs
    cases hw : wiO s with
    | more => rw [wiR_more hw]; simp
    | bad st =>
      rw [wiR_bad hw]
      cases s with
      | nil => rw [wiO_nil] at hw; cases hw
      | cons a l => simp at hs
    | done host b k n => have := wiO_done hw; omega
  | succ N ih =>
    intro s hs
    cases hw : wiO s with
    | more => rw [wiR_more hw]; simp
    | bad st =>
      rw [wiR_bad hw]
      cases s with
      | nil => rw [wiO_nil] at hw; cases hw
      | cons a l => simp
    | done host b k n =>
      have := wiO_done hw
      cases k with
      | true =>
        rw [wiR_done hw]
        have h2 := ih (s.drop n) (by rw [List.length_drop]; omega)
        rw [List.length_drop] at h2
        simp only [List.length_cons]
        omega
      | false =>
        rw [wiR_last hw]
        simp
        omega
theorem fdT_len {X D : List UInt8} {off : Bool} : (fdT X off D).2.1.length ≤ X.length + D.length := by
  unfold fdT
  split
  · simp
  · split
    · simp
    · split
      · simp
      · have := wiR_len (X ++ D).length (X ++ D) (Nat.le_refl _)
        rw [List.length_append] at this
        split <;> exact this
end Go.Proofs.YthgmgmbjjjnhnaaGreatDoor
