/- head.Write. -/
import Derived.Test.YtnfgpcccmbblcaaDoorHdWb
import Derived.Test.YtnfgpcccmbblcaaDoorBldW
namespace Go.Proofs.YtnfgpcccmbblcaaDoor
open Go.RowKit

theorem wr_line (out : List UInt8) (X Y : ByteArray) : Lib.byteCells out ++ Lib.strCells (((X ++ ⟨#[58, 32]⟩) ++ Y) ++ ⟨#[13, 10]⟩) = Lib.byteCells (out ++ hdL (X.data.toList, Y.data.toList)) := by
  rw [Lib.strCells_eq, app_data, app_data, app_data]
  simp [Lib.byteCells, hdL]
theorem wr_line_size (X Y : ByteArray) : (((X ++ ⟨#[58, 32]⟩) ++ Y) ++ ⟨#[13, 10]⟩ : ByteArray).size = X.size + Y.size + 4 := by
  rw [← size_toList, app_data, app_data, app_data]
  simp only [List.length_append, size_toList]
  show X.size + 2 + Y.size + 2 = _
  omega
set_option maxHeartbeats 8000000 in
set_option maxRecDepth 100000 in
theorem hd_Write (v : Value) (ps : List Pr) (w : World) (hl : ps.length ≤ 1000) (hz : ∀ p ∈ ps, p.1.length ≤ 100000 ∧ p.2.length ≤ 100000) (hv : IsPairs v ps w) : Calls Tryd.prog 41 #[v] w (Ret w (wrT ps)) := by
  have C0 := has_prs v ps w (by omega) (fun p hp => by have := hz p hp; omega) hv
  unfold wrT
  by_cases ha : ps.all hmay = true
  · rw [ha] at C0
    have C := Lib.hid C0
    have hvf := hv.form
    obtain ⟨a, ca, rfl⟩ := hvf
    by_cases h32 : 32 < ps.length
    · have e1 : wrE ps = 4 := by unfold wrE; rw [if_pos ha, if_pos h32]
      have e2 : wrS ps = [] := by unfold wrS; rw [if_neg (by rw [e1]; decide)]
      rw [e1, e2]
      obtain ⟨m, hm⟩ : ∃ m, ps.length = m := ⟨_, rfl⟩
      rw [hm] at h32 C ⊢
      have g1 : (32 : Int) < m := by omega
      clear C0 hl hz hv ha e1 e2 hm
      go_enter Tryd.func41, Tryd.ntmps41
      go_wp2_with fail
      refine C.out.mono ?_
      rintro e w1 ⟨rfl, hb1⟩
      go_wp2_with fail
      go_ret2
      exact ⟨rfl, hb1⟩
    · obtain ⟨e1, e2⟩ := wrE_of ha (by omega)
      rw [e1, e2]
      obtain ⟨m, hm⟩ : ∃ m, ps.length = m := ⟨_, rfl⟩
      have HV := Lib.hid hv
      have HN := Lib.hid hm
      have HZ := Lib.hid hz
      rw [hm] at h32 hl C HV ⊢
      have HW : Hid (IsPairs (.slice a m ca) ps w) := HV
      have g1 : ¬ (32 : Int) < m := by omega
      have z32 : m ≤ 32 := by omega
      clear C0 hl hz hv ha e1 e2 hm HV h32
      go_enter Tryd.func41, Tryd.ntmps41
      go_wp2_with fail
      refine C.out.mono ?_
      rintro e w1 ⟨rfl, hb1⟩
      go_wp2_with fail
      go_loopw [18] (fun i wr => ∃ k : Nat, k ≤ m ∧ i = .int .i64 k ∧ IsB w1.heap.size w1.heap.size (Lib.byteCells (hdW (ps.take k))) wr ∧ (hdW (ps.take k)).length ≤ 300000 * k ∧ Below w1.heap.size w1 wr ∧ w1.heap.size < wr.heap.size) (fun i _ => m - (intOf i).toNat)
      case atStart => exact ⟨0, Nat.zero_le _, rfl, Lib.fresh_isBuilder _ _ _, by simp [hdW], by go_grown, by simp⟩
      case round =>
        obtain ⟨k, hk, rfl, hB, hlen, hBw, hbs⟩ := hrel
        by_cases hlt : k < m
        · have hx : k < ps.length := by have := HN.out; omega
          obtain ⟨b1, o1, cap1, hs1, hb0, c1, c2⟩ := (HW.out.ret (hb1.trans (hBw.mono hb1.size))).cell hx
          have ha1 : a = some ⟨b1, o1, none⟩ := by injection hs1
          subst ha1
          have hzk := HZ.out ps[k] (List.getElem_mem hx)
          have htk : hdW (ps.take (k + 1)) = hdW (ps.take k) ++ hdL ps[k] := by rw [List.take_succ_eq_append_getElem hx, hdW_snoc]
          obtain ⟨P, hP⟩ : ∃ P, ps[k] = P := ⟨_, rfl⟩
          rw [hP] at c1 c2 hzk htk
          obtain ⟨p1, p2⟩ := P
          obtain ⟨X, hX⟩ : ∃ X : ByteArray, ⟨p1.toArray⟩ = X := ⟨_, rfl⟩
          obtain ⟨Y, hY⟩ : ∃ X : ByteArray, ⟨p2.toArray⟩ = X := ⟨_, rfl⟩
          have hXl : X.data.toList = p1 := by rw [← hX]
          have hYl : Y.data.toList = p2 := by rw [← hY]
          simp only [hX, hY] at c1 c2
          have zX : X.size ≤ 100000 := by rw [← size_toList, hXl]; exact hzk.1
          have zY : Y.size ≤ 100000 := by rw [← size_toList, hYl]; exact hzk.2
          have hline := wr_line (hdW (ps.take k)) X Y
          have hls := wr_line_size X Y
          rw [hXl, hYl, ← htk] at hline
          have hl2 : (hdW (ps.take (k + 1))).length ≤ 300000 * (k + 1) := by
            rw [htk, List.length_append, hdL_len]
            have h1 := hzk.1
            have h2 := hzk.2
            simp only at h1 h2 ⊢
            omega
          obtain ⟨out, hout⟩ : ∃ out, hdW (ps.take k) = out := ⟨_, rfl⟩
          rw [hout] at hB hlen hline
          have HB := Lib.hid (hB.below ((Below.refl _ wr).alloc (Nat.le_refl _) (.cells #[.string X, .string Y] 52)))
          have HBW := Lib.hid (hBw.alloc (Nat.le_of_lt hbs) (.cells #[.string X, .string Y] 52))
          have HL := Lib.hid hline
          have HLS := Lib.hid hls
          have HL2 := Lib.hid hl2
          have g2 : (k : Int) < m := by omega
          clear hB hline hls hl2 hBw hP hX hY hXl hYl hzk htk hout hs1 hx
          go_wp2_with fail
          refine (bl_WriteString w1.heap.size w1.heap.size (Lib.byteCells out) _ _ HB.out (by rw [Lib.byteCells_length, HLS.out]; omega) (by simp; omega)).mono ?_
          rintro e w2 ⟨rfl, hB2, hb2⟩
          have hB3 : IsB w1.heap.size w1.heap.size (Lib.byteCells (hdW (ps.take (k + 1)))) w2 := .inr (HL.out ▸ hB2)
          have hb3 : Below w1.heap.size w1 w2 := HBW.out.trans hb2
          have hsz2 : w1.heap.size < w2.heap.size := by
            have h2 := hb2.size
            simp at h2
            omega
          have HB3 := Lib.hid hB3
          have Hb3 := Lib.hid hb3
          clear hB2 hB3 hb2 hb3 c1 c2
          go_wp2_with fail
          go_roundw
          case rel => exact ⟨k + 1, by omega, by go_num, HB3.out, HL2.out, Hb3.out, hsz2⟩
          case measure => simp [intOf]; omega
        · have hfull : ps.take k = ps := List.take_of_length_le (by have := HN.out; omega)
          rw [hfull] at hB hlen
          obtain ⟨out, hout⟩ : ∃ out, hdW ps = out := ⟨_, rfl⟩
          rw [hout] at hB hlen
          have HOUT := Lib.hid hout
          have HB := Lib.hid hB
          have HBW := Lib.hid hBw
          clear hB hBw hout hfull
          go_wp2_with fail
          refine (Tryd.Builder_String_any w1.heap.size w1.heap.size out wr HB.out (by omega)).mono ?_
          rintro e w2 ⟨rfl, hb2⟩
          go_wp2_with fail
          go_ret2
          exact ⟨by rw [HOUT.out]; rfl, hb1.trans ((HBW.out.trans hb2).mono hb1.size)⟩
  · have ha' : ps.all hmay = false := by simpa using ha
    have e1 : wrE ps = 8 := by unfold wrE; rw [if_neg ha]
    have e2 : wrS ps = [] := by unfold wrS; rw [if_neg (by rw [e1]; decide)]
    rw [ha'] at C0
    have C := Lib.hid C0
    rw [e1, e2]
    clear C0 hl hz hv ha ha' e1 e2
    go_enter Tryd.func41, Tryd.ntmps41
    go_wp2_with fail
    refine C.out.mono ?_
    rintro e w1 ⟨rfl, hb1⟩
    go_wp2_with fail
    go_ret2
    exact ⟨rfl, hb1⟩
end Go.Proofs.YtnfgpcccmbblcaaDoor
