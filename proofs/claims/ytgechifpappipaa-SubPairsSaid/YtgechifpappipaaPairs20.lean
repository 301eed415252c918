/- The law SubPairs: two accounts agree how they stand to each other. PRINTED BY PROGRAM (gen_pairs20.py). -/
import Derived.Test.YtgechifpappipaaSubF
import Derived.Test.YtgechifpappipaaAlive20
namespace Go.Proofs.Ytgechifpappipaa
open Go.RowKit
attribute [local go_sem ↓] Go.wp_at_zero Go.wp_at_succ

/-- Both accounts' states lie in block B, each the other's mirror. -/
def Two (wr : World) (B : Nat) (p q r t : Bool) : Prop :=
  (wr.cell? ⟨B, 0, none⟩ = some (.bool p) ∧ wr.cell? ⟨B, 1, none⟩ = some (.bool q) ∧ wr.cell? ⟨B, 2, none⟩ = some (.bool r) ∧ wr.cell? ⟨B, 3, none⟩ = some (.bool t) ∧
   wr.cell? ⟨B, 4, none⟩ = some (.bool r) ∧ wr.cell? ⟨B, 5, none⟩ = some (.bool t) ∧ wr.cell? ⟨B, 6, none⟩ = some (.bool p) ∧ wr.cell? ⟨B, 7, none⟩ = some (.bool q)) ∧
  (∀ j, wr.frozen? ⟨B, j, none⟩ = false) ∧ (p && q || r && t) = false

theorem quiet_send (a b c d : Bool) (k : Int) (h1 : 1 ≤ k) (h2 : k ≤ 4) (h : sgo c d k = false) : m1 a k = a ∧ m2 a b k = b ∧ n1 c d k = c ∧ n2 d k = d := by
  obtain rfl | rfl | rfl | rfl : k = 1 ∨ k = 2 ∨ k = 3 ∨ k = 4 := by omega
  all_goals revert h; cases c <;> cases d <;> simp [m1, m2, n1, n2, sgo]
theorem may_send2 (a b c d : Bool) (k : Int) (ho : (c && d || a && b) = false) (h1 : 1 ≤ k) (h2 : k ≤ 4) : (n1 a b k && n2 b k || m1 c k && m2 c d k) = false := by
  obtain rfl | rfl | rfl | rfl : k = 1 ∨ k = 2 ∨ k = 3 ∨ k = 4 := by omega
  all_goals revert ho; cases a <;> cases b <;> cases c <;> cases d <;> simp [m1, m2, n1, n2]

set_option maxRecDepth 100000 in
set_option maxHeartbeats 40000000 in
theorem pairs_walk (b off len cap : Nat) (zs : List Int) (w : World) (hlen : len ≤ 200) (hb : b < w.heap.size) (hcell : ∀ i, i < len → w.cell? ⟨b, off + i, none⟩ = some (.int .u8 (zs.getD i 0))) (hz : ∀ i, 0 ≤ zs.getD i 0 ∧ zs.getD i 0 ≤ 255) :
    Calls Try.prog 3 #[.slice (some ⟨b, off, none⟩) len cap] w (Ret w (.bool true)) := by
  have HC := Lib.hid hcell
  have HZ := Lib.hid hz
  clear hcell hz
  go_enter Try.func3, Try.ntmps3
  go_wp2_with fail
  refine (alive20 _).mono ?_
  rintro e w1 ⟨rfl, hb1⟩
  obtain ⟨hc1, hf1, hz1, hB1⟩ := bfacts (w := w) hb1 (by go_grown)
  go_wp2_with fail
  go_loopw [5] (fun i wr => ∃ (k : Nat) (p q r t : Bool), k ≤ len ∧ i = .int .i64 k ∧ Two wr w1.heap.size p q r t ∧ w1.heap.size < wr.heap.size ∧ Below w.heap.size w wr) (fun i _ => len - (intOf i).toNat)
  case atStart => exact ⟨0, false, false, false, false, Nat.zero_le _, rfl, ⟨by simp [go_sem], by simp [go_sem], rfl⟩, by simp, by go_grown⟩
  case round =>
    obtain ⟨k, p, q, r, t, hk, rfl, ⟨⟨c0, c1, c2, c3, c4, c5, c6, c7⟩, hfz, ho⟩, hB2, hBw⟩ := hrel
    have HO := Lib.hid ho
    have HO2 : Hid ((r && t || p && q) = false) := by rw [Bool.or_comm]; exact ho
    clear ho
    by_cases hlt : k < len
    · have hc := HC.out k hlt
      have hzk := HZ.out k
      obtain ⟨z, hze⟩ : ∃ z, zs.getD k 0 = z := ⟨_, rfl⟩
      rw [hze] at hc hzk
      obtain ⟨hz0, hz9⟩ := hzk
      have hcr : wr.cell? ⟨b, off + k, none⟩ = some (.int .u8 z) := (hBw.cell (p := ⟨b, off + k, none⟩) hb).trans hc
      have hcw := hc
      clear hze hc
      have hlt' : (k : Int) < (len : Int) := by omega
      obtain ⟨kk, hkk⟩ : ∃ kk, kk = z % 4 + 1 := ⟨_, rfl⟩
      have k1 : 1 ≤ kk := by omega
      have k4 : kk ≤ 4 := by omega
      have e1 : IntKind.u8.wrap (z % 4 + 1) = kk := by rw [IntKind.wrap_u8]; omega
      have e2 : z % 4 + 1 = kk := hkk.symm
      have e3 : z.tmod 4 = z % 4 := Int.tmod_eq_emod_of_nonneg hz0
      have e4 : IntKind.u8.wrap (z % 4) = z % 4 := by rw [IntKind.wrap_u8]; omega
      have e5 : IntKind.u8.wrap kk = kk := by rw [IntKind.wrap_u8]; omega
      have hbr : b < wr.heap.size := Nat.lt_of_lt_of_le hb hBw.size
      have i0 : IntKind.i64.wrap (0 : Int) = 0 := by decide
      have i1 : IntKind.i64.wrap (1 : Int) = 1 := by decide
      clear hkk
      obtain hw | hw : z / 4 % 2 = 0 ∨ z / 4 % 2 = 1 := by omega
      · skip
        go_upto_region 9 with fail
        go_cut [6, 7, 8, 9] (fun s6 s7 s8 s9 wx => s6 = .int .i64 0 ∧ s8 = .bool (sgo r t kk) ∧ s9 = .int .i64 0 ∧ ∃ G : Nat, s7 = .pointer (some ⟨G, 0, none⟩) ∧ w1.heap.size < G ∧ G < wx.heap.size ∧ wx.cell? ⟨G, 0, none⟩ = some (.bool (m1 p kk)) ∧ wx.cell? ⟨G, 1, none⟩ = some (.bool (m2 p q kk)) ∧ wx.cell? ⟨G, 2, none⟩ = some (.bool (n1 r t kk)) ∧ wx.cell? ⟨G, 3, none⟩ = some (.bool (n2 t kk)) ∧ Two wx w1.heap.size p q r t ∧ Below w.heap.size w wx)
        case first =>
          go_region_held3 (fun w' => w'.cell? ⟨b, off + k, none⟩ = some (.int .u8 z) ∧ w'.cell? ⟨w1.heap.size, 0, none⟩ = some (.bool p) ∧ w'.cell? ⟨w1.heap.size, 1, none⟩ = some (.bool q) ∧ w'.cell? ⟨w1.heap.size, 2, none⟩ = some (.bool r) ∧ w'.cell? ⟨w1.heap.size, 3, none⟩ = some (.bool t)) (simp (maxDischargeDepth := 9) [go_sem, World.cell?_alloc_some, *])
            (first
              | (go_at_call 9; refine (sub_Send_F _ _ _ _ _ HO.out (by omega) (by omega) _).mono ?_; rintro e w2 ⟨rfl, hb2⟩; obtain ⟨hc2, hf2, hz2, hB3⟩ := bfactsD (w := w) hb2 (by go_grown); (try simp only [World.size_alloc] at hz2); have zz2 : w1.heap.size < w2.heap.size := (by omega)))
          all_goals
            go_wp2_with fail
            go_meet
            refine ⟨rfl, rfl, rfl, _, rfl, ?_, ?_, ?_⟩
            · first | omega | (simp; omega)
            · first | omega | (simp; omega) | simp
            · refine ⟨?_, ?_, ?_, ?_, ⟨⟨?_, ?_, ?_, ?_, ?_, ?_, ?_, ?_⟩, ?_, HO.out⟩, ?_⟩
              all_goals first | (simp (maxDischargeDepth := 9) [go_sem, World.cell?_alloc_some, *]; done) | go_grown
        case rest =>
          clear c0 c1 c2 c3 c4 c5 c6 c7 hfz hcr
          obtain ⟨rfl, rfl, rfl, G, rfl, hG, hG2, g0, g1, g2, g3, ⟨⟨c0, c1, c2, c3, c4, c5, c6, c7⟩, hfz, _⟩, hBx⟩ := hcut
          have hGb : b < G := by have := hBw.size; have := hB1.size; omega
          have hbx := Nat.lt_trans hGb hG2
          have hwx := Nat.lt_trans hG hG2
          have hcx := (hBx.cell (p := ⟨b, off + k, none⟩) hb).trans hcw
          cases hgo : sgo r t kk
          · -- NOT PASSED ON: the state is as it was
            obtain ⟨q0, q1, q2, q3⟩ := quiet_send p q r t kk k1 k4 hgo
            rw [q0] at g0; rw [q1] at g1; rw [q2] at g2; rw [q3] at g3
            clear q0 q1 q2 q3 hgo
            go_wp2_with fail
            go_roundw
            case rel => exact ⟨k + 1, p, q, r, t, by omega, by go_num, ⟨by simp (maxDischargeDepth := 9) [go_sem, *], by simp [go_sem, hfz], HO.out⟩, by simpa using hwx, by go_grown⟩
            case measure => simp [intOf]; omega
          · -- PASSED ON
            clear hgo
            by_cases hbk : kk = 1 ∧ p = true
            · obtain ⟨rfl, rfl⟩ := hbk
              obtain rfl : q = false := by have := HO.out; revert this; cases q <;> cases r <;> cases t <;> simp
              simp only [m1, m2, n1, n2] at g0 g1 g2 g3
              simp at g0 g1 g2 g3
              have HO3 : Hid ((r && t || true && false) = false) := by have := HO.out; revert this; cases r <;> cases t <;> simp [Hid]
              have HO4 : Hid ((true && false || r && t) = false) := by have := HO.out; revert this; cases r <;> cases t <;> simp [Hid]
              go_upto_region 14 with fail
              go_cut [10, 11, 12, 13] (fun s10 s11 s12 s13 wy => s11 = .bool (!(true || false)) ∧ s12 = .int .u8 2 ∧ s13 = .int .i64 0 ∧ ∃ G2 : Nat, s10 = .pointer (some ⟨G2, 0, none⟩) ∧ w1.heap.size < G2 ∧ G2 < wy.heap.size ∧ wy.cell? ⟨G2, 0, none⟩ = some (.bool r) ∧ wy.cell? ⟨G2, 1, none⟩ = some (.bool t) ∧ wy.cell? ⟨G2, 2, none⟩ = some (.bool true) ∧ wy.cell? ⟨G2, 3, none⟩ = some (.bool false) ∧ wy.cell? ⟨w1.heap.size, 0, none⟩ = some (.bool true) ∧ wy.cell? ⟨w1.heap.size, 1, none⟩ = some (.bool false) ∧ wy.cell? ⟨w1.heap.size, 2, none⟩ = some (.bool r) ∧ wy.cell? ⟨w1.heap.size, 3, none⟩ = some (.bool t) ∧ wy.cell? ⟨w1.heap.size, 4, none⟩ = some (.bool r) ∧ wy.cell? ⟨w1.heap.size, 5, none⟩ = some (.bool t) ∧ wy.cell? ⟨w1.heap.size, 6, none⟩ = some (.bool true) ∧ wy.cell? ⟨w1.heap.size, 7, none⟩ = some (.bool false) ∧ (∀ j, wy.frozen? ⟨w1.heap.size, j, none⟩ = false) ∧ Below w.heap.size w wy)
              case first =>
                go_region_held3 (fun w' => w'.cell? ⟨b, off + k, none⟩ = some (.int .u8 z) ∧ w'.cell? ⟨w1.heap.size, 4, none⟩ = some (.bool r) ∧ w'.cell? ⟨w1.heap.size, 5, none⟩ = some (.bool t) ∧ w'.cell? ⟨w1.heap.size, 6, none⟩ = some (.bool true) ∧ w'.cell? ⟨w1.heap.size, 7, none⟩ = some (.bool false)) (simp (maxDischargeDepth := 9) [go_sem, World.cell?_alloc_some, *])
                  (first
                    | (go_at_call 10; refine (sub_Take1t _ _ _ HO3.out _).mono ?_; rintro e w3 ⟨rfl, hb3⟩; obtain ⟨hc3, hf3, hz3, hB5⟩ := bfactsD (w := w) hb3 (by go_grown); (try simp only [World.size_alloc, World.size_setCell] at hz3); have zz3 : w1.heap.size < w3.heap.size := (by omega)))
                all_goals
                  go_wp2_with fail
                  go_meet
                  refine ⟨rfl, rfl, rfl, _, rfl, ?_, ?_, ?_⟩
                  · first | omega | (simp; omega)
                  · first | omega | (simp; omega) | simp
                  · refine ⟨?_, ?_, ?_, ?_, ?_, ?_, ?_, ?_, ?_, ?_, ?_, ?_, ?_, ?_⟩
                    all_goals first | (simp (maxDischargeDepth := 9) [go_sem, World.cell?_alloc_some, *]; done) | go_grown
              case rest =>
                obtain ⟨rfl, rfl, rfl, G2, rfl, hG3, hG4, h0, h1, h2, h3, d0, d1, d2, d3, d4, d5, d6, d7, hfy, hBy⟩ := hcut
                have hwy := Nat.lt_trans hG3 hG4
                go_wp2_with fail
                refine (sub_Take2 _ _ _ _ HO4.out _).mono ?_
                rintro e w4 ⟨rfl, hb4⟩
                obtain ⟨hc4, hf4, hz4, hB6⟩ := bfacts (w := w) hb4 (by go_grown)
                (try simp only [World.size_setCell] at hz4)
                have zz4 : w1.heap.size < w4.heap.size := (by omega)
                go_wp2_with fail
                go_roundw
                case rel => exact ⟨k + 1, true, false, r, t, by omega, by go_num, ⟨by simp (maxDischargeDepth := 9) [go_sem, *], by simp (maxDischargeDepth := 9) [go_sem, *], HO4.out⟩, by simp; omega, by go_grown⟩
                case measure => simp [intOf]; omega
            · have hbk' : kk = 1 → p = false := fun h => by cases p <;> simp_all
              have HBK := Lib.hid hbk'
              clear hbk hbk'
              go_upto_region 14 with fail
              go_cut [10, 11, 12, 13] (fun s10 s11 s12 s13 wy => s11 = .bool (ttold r t p q kk) ∧ s12 = .int .u8 0 ∧ s13 = .int .i64 0 ∧ ∃ G2 : Nat, s10 = .pointer (some ⟨G2, 0, none⟩) ∧ w1.heap.size < G2 ∧ G2 < wy.heap.size ∧ wy.cell? ⟨G2, 0, none⟩ = some (.bool (n1 r t kk)) ∧ wy.cell? ⟨G2, 1, none⟩ = some (.bool (n2 t kk)) ∧ wy.cell? ⟨G2, 2, none⟩ = some (.bool (m1 p kk)) ∧ wy.cell? ⟨G2, 3, none⟩ = some (.bool (m2 p q kk)) ∧ wy.cell? ⟨w1.heap.size, 0, none⟩ = some (.bool (m1 p kk)) ∧ wy.cell? ⟨w1.heap.size, 1, none⟩ = some (.bool (m2 p q kk)) ∧ wy.cell? ⟨w1.heap.size, 2, none⟩ = some (.bool (n1 r t kk)) ∧ wy.cell? ⟨w1.heap.size, 3, none⟩ = some (.bool (n2 t kk)) ∧ wy.cell? ⟨w1.heap.size, 4, none⟩ = some (.bool r) ∧ wy.cell? ⟨w1.heap.size, 5, none⟩ = some (.bool t) ∧ wy.cell? ⟨w1.heap.size, 6, none⟩ = some (.bool p) ∧ wy.cell? ⟨w1.heap.size, 7, none⟩ = some (.bool q) ∧ (∀ j, wy.frozen? ⟨w1.heap.size, j, none⟩ = false) ∧ Below w.heap.size w wy)
              case first =>
                go_region_held3 (fun w' => w'.cell? ⟨b, off + k, none⟩ = some (.int .u8 z) ∧ w'.cell? ⟨w1.heap.size, 4, none⟩ = some (.bool r) ∧ w'.cell? ⟨w1.heap.size, 5, none⟩ = some (.bool t) ∧ w'.cell? ⟨w1.heap.size, 6, none⟩ = some (.bool p) ∧ w'.cell? ⟨w1.heap.size, 7, none⟩ = some (.bool q)) (simp (maxDischargeDepth := 9) [go_sem, World.cell?_alloc_some, *])
                  (first
                    | (go_at_call 10; refine (sub_Take_F _ _ _ _ _ HO2.out (by omega) (by omega) HBK.out _).mono ?_; rintro e w3 ⟨rfl, hb3⟩; obtain ⟨hc3, hf3, hz3, hB5⟩ := bfactsD (w := w) hb3 (by go_grown); (try simp only [World.size_alloc, World.size_setCell] at hz3); have zz3 : w1.heap.size < w3.heap.size := (by omega)))
                all_goals
                  go_wp2_with fail
                  go_meet
                  refine ⟨rfl, rfl, rfl, _, rfl, ?_, ?_, ?_⟩
                  · first | omega | (simp; omega)
                  · first | omega | (simp; omega) | simp
                  · refine ⟨?_, ?_, ?_, ?_, ?_, ?_, ?_, ?_, ?_, ?_, ?_, ?_, ?_, ?_⟩
                    all_goals first | (simp (maxDischargeDepth := 9) [go_sem, World.cell?_alloc_some, *]; done) | go_grown
              case rest =>
                obtain ⟨rfl, rfl, rfl, G2, rfl, hG3, hG4, h0, h1, h2, h3, d0, d1, d2, d3, d4, d5, d6, d7, hfy, hBy⟩ := hcut
                have hwy := Nat.lt_trans hG3 hG4
                go_wp2_with fail
                go_roundw
                case rel => exact ⟨k + 1, m1 p kk, m2 p q kk, n1 r t kk, n2 t kk, by omega, by go_num, ⟨by simp (maxDischargeDepth := 9) [go_sem, *], by simp [go_sem, hfy], may_send p q r t kk HO.out k1 k4⟩, by simp; omega, by go_grown⟩
                case measure => simp [intOf]; omega
      · skip
        go_upto_region 9 with fail
        go_cut [6, 7, 8, 9] (fun s6 s7 s8 s9 wx => s6 = .int .i64 1 ∧ s8 = .bool (sgo p q kk) ∧ s9 = .int .i64 0 ∧ ∃ G : Nat, s7 = .pointer (some ⟨G, 0, none⟩) ∧ w1.heap.size < G ∧ G < wx.heap.size ∧ wx.cell? ⟨G, 0, none⟩ = some (.bool (m1 r kk)) ∧ wx.cell? ⟨G, 1, none⟩ = some (.bool (m2 r t kk)) ∧ wx.cell? ⟨G, 2, none⟩ = some (.bool (n1 p q kk)) ∧ wx.cell? ⟨G, 3, none⟩ = some (.bool (n2 q kk)) ∧ Two wx w1.heap.size p q r t ∧ Below w.heap.size w wx)
        case first =>
          go_region_held3 (fun w' => w'.cell? ⟨b, off + k, none⟩ = some (.int .u8 z) ∧ w'.cell? ⟨w1.heap.size, 4, none⟩ = some (.bool r) ∧ w'.cell? ⟨w1.heap.size, 5, none⟩ = some (.bool t) ∧ w'.cell? ⟨w1.heap.size, 6, none⟩ = some (.bool p) ∧ w'.cell? ⟨w1.heap.size, 7, none⟩ = some (.bool q)) (simp (maxDischargeDepth := 9) [go_sem, World.cell?_alloc_some, *])
            (first
              | (go_at_call 9; refine (sub_Send_F _ _ _ _ _ HO2.out (by omega) (by omega) _).mono ?_; rintro e w2 ⟨rfl, hb2⟩; obtain ⟨hc2, hf2, hz2, hB3⟩ := bfactsD (w := w) hb2 (by go_grown); (try simp only [World.size_alloc] at hz2); have zz2 : w1.heap.size < w2.heap.size := (by omega)))
          all_goals
            go_wp2_with fail
            go_meet
            refine ⟨rfl, rfl, rfl, _, rfl, ?_, ?_, ?_⟩
            · first | omega | (simp; omega)
            · first | omega | (simp; omega) | simp
            · refine ⟨?_, ?_, ?_, ?_, ⟨⟨?_, ?_, ?_, ?_, ?_, ?_, ?_, ?_⟩, ?_, HO.out⟩, ?_⟩
              all_goals first | (simp (maxDischargeDepth := 9) [go_sem, World.cell?_alloc_some, *]; done) | go_grown
        case rest =>
          clear c0 c1 c2 c3 c4 c5 c6 c7 hfz hcr
          obtain ⟨rfl, rfl, rfl, G, rfl, hG, hG2, g0, g1, g2, g3, ⟨⟨c0, c1, c2, c3, c4, c5, c6, c7⟩, hfz, _⟩, hBx⟩ := hcut
          have hGb : b < G := by have := hBw.size; have := hB1.size; omega
          have hbx := Nat.lt_trans hGb hG2
          have hwx := Nat.lt_trans hG hG2
          have hcx := (hBx.cell (p := ⟨b, off + k, none⟩) hb).trans hcw
          cases hgo : sgo p q kk
          · -- NOT PASSED ON: the state is as it was
            obtain ⟨q0, q1, q2, q3⟩ := quiet_send r t p q kk k1 k4 hgo
            rw [q0] at g0; rw [q1] at g1; rw [q2] at g2; rw [q3] at g3
            clear q0 q1 q2 q3 hgo
            go_wp2_with fail
            go_roundw
            case rel => exact ⟨k + 1, p, q, r, t, by omega, by go_num, ⟨by simp (maxDischargeDepth := 9) [go_sem, *], by simp [go_sem, hfz], HO.out⟩, by simpa using hwx, by go_grown⟩
            case measure => simp [intOf]; omega
          · -- PASSED ON
            clear hgo
            by_cases hbk : kk = 1 ∧ r = true
            · obtain ⟨rfl, rfl⟩ := hbk
              obtain rfl : t = false := by have := HO.out; revert this; cases t <;> cases p <;> cases q <;> simp
              simp only [m1, m2, n1, n2] at g0 g1 g2 g3
              simp at g0 g1 g2 g3
              have HO3 : Hid ((p && q || true && false) = false) := by have := HO.out; revert this; cases p <;> cases q <;> simp [Hid]
              have HO4 : Hid ((true && false || p && q) = false) := by have := HO.out; revert this; cases p <;> cases q <;> simp [Hid]
              go_upto_region 14 with fail
              go_cut [10, 11, 12, 13] (fun s10 s11 s12 s13 wy => s11 = .bool (!(true || false)) ∧ s12 = .int .u8 2 ∧ s13 = .int .i64 0 ∧ ∃ G2 : Nat, s10 = .pointer (some ⟨G2, 0, none⟩) ∧ w1.heap.size < G2 ∧ G2 < wy.heap.size ∧ wy.cell? ⟨G2, 0, none⟩ = some (.bool p) ∧ wy.cell? ⟨G2, 1, none⟩ = some (.bool q) ∧ wy.cell? ⟨G2, 2, none⟩ = some (.bool true) ∧ wy.cell? ⟨G2, 3, none⟩ = some (.bool false) ∧ wy.cell? ⟨w1.heap.size, 4, none⟩ = some (.bool true) ∧ wy.cell? ⟨w1.heap.size, 5, none⟩ = some (.bool false) ∧ wy.cell? ⟨w1.heap.size, 6, none⟩ = some (.bool p) ∧ wy.cell? ⟨w1.heap.size, 7, none⟩ = some (.bool q) ∧ wy.cell? ⟨w1.heap.size, 0, none⟩ = some (.bool p) ∧ wy.cell? ⟨w1.heap.size, 1, none⟩ = some (.bool q) ∧ wy.cell? ⟨w1.heap.size, 2, none⟩ = some (.bool true) ∧ wy.cell? ⟨w1.heap.size, 3, none⟩ = some (.bool false) ∧ (∀ j, wy.frozen? ⟨w1.heap.size, j, none⟩ = false) ∧ Below w.heap.size w wy)
              case first =>
                go_region_held3 (fun w' => w'.cell? ⟨b, off + k, none⟩ = some (.int .u8 z) ∧ w'.cell? ⟨w1.heap.size, 0, none⟩ = some (.bool p) ∧ w'.cell? ⟨w1.heap.size, 1, none⟩ = some (.bool q) ∧ w'.cell? ⟨w1.heap.size, 2, none⟩ = some (.bool true) ∧ w'.cell? ⟨w1.heap.size, 3, none⟩ = some (.bool false)) (simp (maxDischargeDepth := 9) [go_sem, World.cell?_alloc_some, *])
                  (first
                    | (go_at_call 10; refine (sub_Take1t _ _ _ HO3.out _).mono ?_; rintro e w3 ⟨rfl, hb3⟩; obtain ⟨hc3, hf3, hz3, hB5⟩ := bfactsD (w := w) hb3 (by go_grown); (try simp only [World.size_alloc, World.size_setCell] at hz3); have zz3 : w1.heap.size < w3.heap.size := (by omega)))
                all_goals
                  go_wp2_with fail
                  go_meet
                  refine ⟨rfl, rfl, rfl, _, rfl, ?_, ?_, ?_⟩
                  · first | omega | (simp; omega)
                  · first | omega | (simp; omega) | simp
                  · refine ⟨?_, ?_, ?_, ?_, ?_, ?_, ?_, ?_, ?_, ?_, ?_, ?_, ?_, ?_⟩
                    all_goals first | (simp (maxDischargeDepth := 9) [go_sem, World.cell?_alloc_some, *]; done) | go_grown
              case rest =>
                obtain ⟨rfl, rfl, rfl, G2, rfl, hG3, hG4, h0, h1, h2, h3, d0, d1, d2, d3, d4, d5, d6, d7, hfy, hBy⟩ := hcut
                have hwy := Nat.lt_trans hG3 hG4
                go_wp2_with fail
                refine (sub_Take2 _ _ _ _ HO4.out _).mono ?_
                rintro e w4 ⟨rfl, hb4⟩
                obtain ⟨hc4, hf4, hz4, hB6⟩ := bfacts (w := w) hb4 (by go_grown)
                (try simp only [World.size_setCell] at hz4)
                have zz4 : w1.heap.size < w4.heap.size := (by omega)
                go_wp2_with fail
                go_roundw
                case rel => exact ⟨k + 1, p, q, true, false, by omega, by go_num, ⟨by simp (maxDischargeDepth := 9) [go_sem, *], by simp (maxDischargeDepth := 9) [go_sem, *], HO3.out⟩, by simp; omega, by go_grown⟩
                case measure => simp [intOf]; omega
            · have hbk' : kk = 1 → r = false := fun h => by cases r <;> simp_all
              have HBK := Lib.hid hbk'
              clear hbk hbk'
              go_upto_region 14 with fail
              go_cut [10, 11, 12, 13] (fun s10 s11 s12 s13 wy => s11 = .bool (ttold p q r t kk) ∧ s12 = .int .u8 0 ∧ s13 = .int .i64 0 ∧ ∃ G2 : Nat, s10 = .pointer (some ⟨G2, 0, none⟩) ∧ w1.heap.size < G2 ∧ G2 < wy.heap.size ∧ wy.cell? ⟨G2, 0, none⟩ = some (.bool (n1 p q kk)) ∧ wy.cell? ⟨G2, 1, none⟩ = some (.bool (n2 q kk)) ∧ wy.cell? ⟨G2, 2, none⟩ = some (.bool (m1 r kk)) ∧ wy.cell? ⟨G2, 3, none⟩ = some (.bool (m2 r t kk)) ∧ wy.cell? ⟨w1.heap.size, 4, none⟩ = some (.bool (m1 r kk)) ∧ wy.cell? ⟨w1.heap.size, 5, none⟩ = some (.bool (m2 r t kk)) ∧ wy.cell? ⟨w1.heap.size, 6, none⟩ = some (.bool (n1 p q kk)) ∧ wy.cell? ⟨w1.heap.size, 7, none⟩ = some (.bool (n2 q kk)) ∧ wy.cell? ⟨w1.heap.size, 0, none⟩ = some (.bool p) ∧ wy.cell? ⟨w1.heap.size, 1, none⟩ = some (.bool q) ∧ wy.cell? ⟨w1.heap.size, 2, none⟩ = some (.bool r) ∧ wy.cell? ⟨w1.heap.size, 3, none⟩ = some (.bool t) ∧ (∀ j, wy.frozen? ⟨w1.heap.size, j, none⟩ = false) ∧ Below w.heap.size w wy)
              case first =>
                go_region_held3 (fun w' => w'.cell? ⟨b, off + k, none⟩ = some (.int .u8 z) ∧ w'.cell? ⟨w1.heap.size, 0, none⟩ = some (.bool p) ∧ w'.cell? ⟨w1.heap.size, 1, none⟩ = some (.bool q) ∧ w'.cell? ⟨w1.heap.size, 2, none⟩ = some (.bool r) ∧ w'.cell? ⟨w1.heap.size, 3, none⟩ = some (.bool t)) (simp (maxDischargeDepth := 9) [go_sem, World.cell?_alloc_some, *])
                  (first
                    | (go_at_call 10; refine (sub_Take_F _ _ _ _ _ HO.out (by omega) (by omega) HBK.out _).mono ?_; rintro e w3 ⟨rfl, hb3⟩; obtain ⟨hc3, hf3, hz3, hB5⟩ := bfactsD (w := w) hb3 (by go_grown); (try simp only [World.size_alloc, World.size_setCell] at hz3); have zz3 : w1.heap.size < w3.heap.size := (by omega)))
                all_goals
                  go_wp2_with fail
                  go_meet
                  refine ⟨rfl, rfl, rfl, _, rfl, ?_, ?_, ?_⟩
                  · first | omega | (simp; omega)
                  · first | omega | (simp; omega) | simp
                  · refine ⟨?_, ?_, ?_, ?_, ?_, ?_, ?_, ?_, ?_, ?_, ?_, ?_, ?_, ?_⟩
                    all_goals first | (simp (maxDischargeDepth := 9) [go_sem, World.cell?_alloc_some, *]; done) | go_grown
              case rest =>
                obtain ⟨rfl, rfl, rfl, G2, rfl, hG3, hG4, h0, h1, h2, h3, d0, d1, d2, d3, d4, d5, d6, d7, hfy, hBy⟩ := hcut
                have hwy := Nat.lt_trans hG3 hG4
                go_wp2_with fail
                go_roundw
                case rel => exact ⟨k + 1, n1 p q kk, n2 q kk, m1 r kk, m2 r t kk, by omega, by go_num, ⟨by simp (maxDischargeDepth := 9) [go_sem, *], by simp [go_sem, hfy], may_send2 p q r t kk HO2.out k1 k4⟩, by simp; omega, by go_grown⟩
                case measure => simp [intOf]; omega
    · obtain rfl : k = len := by omega
      have hwr := hB2
      go_wp2_with fail
      refine (sub_Check _ _ _ _ _).mono ?_
      rw [HO.out]
      rintro e w2 ⟨rfl, hb2⟩
      obtain ⟨hc2, hf2, hz2, hB3⟩ := bfacts (w := w) hb2 (by go_grown)
      have zz2 : w1.heap.size < w2.heap.size := (by omega)
      go_wp2_with fail
      refine (sub_Check _ _ _ _ _).mono ?_
      rw [HO2.out]
      rintro e w3 ⟨rfl, hb3⟩
      obtain ⟨hc3, hf3, hz3, hB4⟩ := bfacts (w := w) hb3 (by go_grown)
      go_wp2_with fail
      go_ret
      exact ⟨rfl, by go_grown⟩

set_option maxRecDepth 100000 in
set_option maxHeartbeats 4000000 in
/-- An empty list, or more than 200. -/
theorem pairs_many (a : Option Addr) (len cap : Nat) (w : World) (h : 200 < len) (hl : len ≤ 140737488351232) : Calls Try.prog 3 #[.slice a len cap] w (Ret w (.bool true)) := by
  have h1 : (200 : Int) < (len : Int) := by omega
  go_enter Try.func3, Try.ntmps3
  go_wp2_with fail
  refine (alive20 _).mono ?_
  rintro e w1 ⟨rfl, hb1⟩
  obtain ⟨hc1, hf1, hz1, hB1⟩ := bfacts (w := w) hb1 (by go_grown)
  go_wp2_with fail
  go_ret
  exact ⟨rfl, by go_grown⟩
set_option maxRecDepth 100000 in
set_option maxHeartbeats 4000000 in
theorem pairs_none (a : Option Addr) (cap : Nat) (w : World) : Calls Try.prog 3 #[.slice a 0 cap] w (Ret w (.bool true)) := by
  go_enter Try.func3, Try.ntmps3
  go_wp2_with fail
  refine (alive20 _).mono ?_
  rintro e w1 ⟨rfl, hb1⟩
  obtain ⟨hc1, hf1, hz1, hB1⟩ := bfacts (w := w) hb1 (by go_grown)
  go_wp2_with fail
  refine wp_loop_rounds 1 ?_
  rw [rounds_succ]
  go_wp2_with fail
  refine (sub_Check _ _ _ _ _).mono ?_
  rintro e w2 ⟨rfl, hb2⟩
  obtain ⟨hc2, hf2, hz2, hB3⟩ := bfacts (w := w) hb2 (by go_grown)
  simp only [World.size_alloc] at hz2
  have zz2 : w1.heap.size < w2.heap.size := (by omega)
  go_wp2_with fail
  refine (sub_Check _ _ _ _ _).mono ?_
  rintro e w3 ⟨rfl, hb3⟩
  obtain ⟨hc3, hf3, hz3, hB4⟩ := bfacts (w := w) hb3 (by go_grown)
  go_wp2_with fail
  go_ret
  exact ⟨rfl, by go_grown⟩
end Go.Proofs.Ytgechifpappipaa
