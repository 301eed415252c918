/- The document's Parse for header fields, and SamePairs: walks. -/
import Derived.Test.YtnfgpcccmbblcaaDoorHdC
namespace Go.Proofs.YtnfgpcccmbblcaaDoor
open Go.RowKit

/-- What Parse answers. -/
def HdIs (l : List UInt8) (w : World) (e : Ending) (w' : World) : Prop := ∃ v, e = .returned (.tuple #[v, .int .i64 (hdE l)]) ∧ IsPairs v (hdV l) w' ∧ Below w.heap.size w w'
set_option maxHeartbeats 4000000 in
theorem r14_Parse (s : ByteArray) (w : World) (hs : s.size ≤ 1000000) : Calls Tryd.prog 14 #[.string s] w (HdIs s.data.toList w) := by
  by_cases h1 : 16384 < s.size
  · have hE : hdE s.data.toList = 4 := by unfold hdE; rw [if_pos (by rw [size_toList]; exact h1)]
    have hV := hdE_bad (l := s.data.toList) (by rw [hE]; decide)
    have HE := Lib.hid (And.intro hE hV)
    have g1 : (16384 : Int) < s.size := by omega
    clear hE hV
    go_enter Tryd.func14, Tryd.ntmps14
    go_wp2_with fail
    go_ret2
    exact ⟨_, by rw [HE.out.1]; rfl, by rw [HE.out.2]; exact IsPairs.nil _, Below.refl _ _⟩
  · have g1 : ¬ (16384 : Int) < s.size := by omega
    have zl : ¬ 16384 < s.data.toList.length := by rw [size_toList]; exact h1
    have AH := Lib.hid (r14_All s w hs)
    have hdef : hdE s.data.toList = match hdA s.data.toList with | none => 140 | some ps => if 32 < ps.length then 4 else 0 := by
      unfold hdE
      rw [if_neg zl]
      cases hdA s.data.toList <;> rfl
    have HD := Lib.hid hdef
    clear hdef zl
    go_enter Tryd.func14, Tryd.ntmps14
    go_wp2_with fail
    refine (AH.out).mono ?_
    rintro e w1 (⟨v, fs, ha, rfl, iv, hb1⟩ | ⟨ha, rfl, hb1⟩)
    · obtain ⟨a, cap, rfl⟩ := iv.form
      have hd := HD.out
      rw [ha] at hd
      simp only at hd
      have hlen := hdA_len ha
      rw [size_toList] at hlen
      obtain ⟨n, hn⟩ : ∃ n, fs.length = n := ⟨_, rfl⟩
      have HN := Lib.hid hn
      have IV := Lib.hid iv
      rw [hn] at hd hlen ⊢
      by_cases h32 : 32 < n
      · rw [if_pos h32] at hd
        have hV := hdE_bad (l := s.data.toList) (by rw [hd]; decide)
        have HE := Lib.hid (And.intro hd hV)
        have g2 : (32 : Int) < n := by omega
        clear hd hV ha hn iv
        go_wp2_with fail
        go_ret2
        exact ⟨_, by rw [HE.out.1]; rfl, by rw [HE.out.2]; exact IsPairs.nil _, hb1⟩
      · rw [if_neg h32] at hd
        have hV : hdV s.data.toList = fs := by unfold hdV; rw [if_pos hd, ha]; rfl
        have HE := Lib.hid (And.intro hd hV)
        have g2 : ¬ (32 : Int) < n := by omega
        clear hd hV ha hn iv
        go_wp2_with fail
        go_ret2
        refine ⟨_, by rw [HE.out.1]; rfl, ?_, hb1⟩
        rw [HE.out.2]
        have h := IV.out
        rw [HN.out] at h
        exact h
    · have hd := HD.out
      rw [ha] at hd
      simp only at hd
      have hV := hdE_bad (l := s.data.toList) (by rw [hd]; decide)
      have HE := Lib.hid (And.intro hd hV)
      clear hd hV ha
      go_wp2_with fail
      go_ret2
      exact ⟨_, by rw [HE.out.1]; rfl, by rw [HE.out.2]; exact IsPairs.nil _, hb1⟩
theorem bytes_ne {a b : List UInt8} (h : a ≠ b) : ((⟨a.toArray⟩ : ByteArray).toList == (⟨b.toArray⟩ : ByteArray).toList) = false := by
  rw [eqb_bytes]
  exact decide_eq_false h
set_option maxHeartbeats 8000000 in
theorem r9_Same (va vb : Value) (ps qs : List Pr) (w : World) (ha : IsPairs va ps w) (hb : IsPairs vb qs w) (hl : ps.length ≤ 1000000) : Calls Tryd.prog 15 #[va, vb] w (Ret w (.bool (decide (ps = qs)))) := by
  by_cases hn : ps.length = qs.length
  · obtain ⟨a, ca, rfl⟩ := ha.form
    obtain ⟨b, cb, rfl⟩ := hb.form
    rw [← hn] at hb ⊢
    obtain ⟨n, hnn⟩ : ∃ n, ps.length = n := ⟨_, rfl⟩
    have HN := Lib.hid hnn
    have HN2 : Hid (qs.length = n) := Lib.hid (hn.symm.trans hnn)
    have HA := Lib.hid ha
    have HB := Lib.hid hb
    rw [hnn] at HA HB hl ⊢
    have HLA : Hid (IsPairs (.slice a n ca) ps w) := HA
    have HLB : Hid (IsPairs (.slice b n cb) qs w) := HB
    obtain ⟨D, hD⟩ : ∃ D, decide (ps = qs) = D := ⟨_, rfl⟩
    rw [hD]
    have HD := Lib.hid hD
    have e0 : ((n : Int) != n) = false := by simp
    clear ha hb hn hnn HA HB hD
    go_enter Tryd.func15, Tryd.ntmps15
    go_wp2_with fail
    go_loopw [5] (fun i wr => ∃ k m : Nat, k ≤ n ∧ i = .int .i64 k ∧ ps.take k = qs.take k ∧ wr = w.drewN m) (fun i _ => n - (intOf i).toNat)
    case atStart => exact ⟨0, 0, Nat.zero_le _, rfl, rfl, rfl⟩
    case round =>
      obtain ⟨k, mm, hk, rfl, htk, rfl⟩ := hrel
      have HTK := Lib.hid htk
      clear htk
      by_cases hlt : k < n
      · have hx : k < ps.length := by have := HN.out; omega
        have hy : k < qs.length := by have := HN2.out; omega
        obtain ⟨b1, o1, cap1, hs1, _, c1, c2⟩ := HLA.out.cell hx
        obtain ⟨b2, o2, cap2, hs2, _, c3, c4⟩ := HLB.out.cell hy
        have ha1 : a = some ⟨b1, o1, none⟩ := by injection hs1
        have hb1 : b = some ⟨b2, o2, none⟩ := by injection hs2
        subst ha1
        subst hb1
        obtain ⟨X1, hX1⟩ : ∃ X : ByteArray, ⟨ps[k].1.toArray⟩ = X := ⟨_, rfl⟩
        obtain ⟨X2, hX2⟩ : ∃ X : ByteArray, ⟨ps[k].2.toArray⟩ = X := ⟨_, rfl⟩
        obtain ⟨Y1, hY1⟩ : ∃ X : ByteArray, ⟨qs[k].1.toArray⟩ = X := ⟨_, rfl⟩
        obtain ⟨Y2, hY2⟩ : ∃ X : ByteArray, ⟨qs[k].2.toArray⟩ = X := ⟨_, rfl⟩
        rw [hX1] at c1
        rw [hX2] at c2
        rw [hY1] at c3
        rw [hY2] at c4
        have g1 : (k : Int) < n := by omega
        have g2 : (0 : Int) ≤ (k : Int) := by omega
        by_cases hq : ps[k] = qs[k]
        · have r1 : X1 = Y1 := by rw [← hX1, ← hY1, hq]
          have r2 : X2 = Y2 := by rw [← hX2, ← hY2, hq]
          subst r1
          subst r2
          have ht2 : ps.take (k + 1) = qs.take (k + 1) := by
            rw [List.take_succ_eq_append_getElem hx, List.take_succ_eq_append_getElem hy, HTK.out, hq]
          have HT2 := Lib.hid ht2
          clear hX1 hX2 hY1 hY2 hq ht2 hs1 hs2 hx hy
          go_wp2_with fail
          go_quiet (fail)
          go_wp2_with fail
          go_roundw
          case rel => exact ⟨k + 1, _, by omega, by go_num, HT2.out, rfl⟩
          case measure => simp [intOf]; omega
        · have hDf : D = false := by
            rw [← HD.out]
            refine decide_eq_false fun e => hq ?_
            subst e
            rfl
          subst hDf
          by_cases h1 : ps[k].1 = qs[k].1
          · have r1 : X1 = Y1 := by rw [← hX1, ← hY1, h1]
            subst r1
            have e1 : (X2.toList == Y2.toList) = false := by
              rw [← hX2, ← hY2]
              exact bytes_ne fun e => hq (Prod.ext h1 e)
            clear hX1 hX2 hY1 hY2 hq h1 hs1 hs2 hx hy
            go_wp2_with fail
            go_quiet (fail)
            go_wp2_with fail
            go_ret
            exact ⟨rfl, (below_drewN w mm).trans ((below_drewN (w.drewN mm) _).mono (Nat.le_refl _))⟩
          · have e1 : (X1.toList == Y1.toList) = false := by
              rw [← hX1, ← hY1]
              exact bytes_ne h1
            clear hX1 hX2 hY1 hY2 hq h1 hs1 hs2 hx hy
            go_wp2_with fail
            go_quiet (fail)
            go_wp2_with fail
            go_ret
            exact ⟨rfl, (below_drewN w mm).trans ((below_drewN (w.drewN mm) _).mono (Nat.le_refl _))⟩
      · have hDt : D = true := by
          rw [← HD.out]
          refine decide_eq_true ?_
          have h := HTK.out
          rw [List.take_of_length_le (by have := HN.out; omega), List.take_of_length_le (by have := HN2.out; omega)] at h
          exact h
        subst hDt
        go_wp2_with fail
        go_ret
        exact ⟨rfl, below_drewN _ _⟩
  · have hD : decide (ps = qs) = false := decide_eq_false fun e => hn (by rw [e])
    rw [hD]
    obtain ⟨a, ca, rfl⟩ := ha.form
    obtain ⟨b, cb, rfl⟩ := hb.form
    obtain ⟨n, hnn⟩ : ∃ n, ps.length = n := ⟨_, rfl⟩
    obtain ⟨m, hmm⟩ : ∃ n, qs.length = n := ⟨_, rfl⟩
    rw [hnn, hmm] at hn
    rw [hnn] at hl ⊢
    rw [hmm]
    have e0 : ((n : Int) != m) = true := by simp; omega
    have e1 : ¬ (n : Int) = m := by omega
    clear ha hb hnn hmm hD hn
    go_enter Tryd.func15, Tryd.ntmps15
    go_wp2_with fail
    go_ret
    exact ⟨rfl, Below.refl _ _⟩
end Go.Proofs.YtnfgpcccmbblcaaDoor
