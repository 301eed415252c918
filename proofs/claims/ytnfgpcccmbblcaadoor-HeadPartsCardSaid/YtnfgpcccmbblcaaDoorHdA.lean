/- Lists of pairs; the document's answers for header fields, first part: walks. -/
import Derived.Test.YtnfgpcccmbblcaaDoorHdP
import Derived.Test.YtnfgpcccmbblcaaDoorRws
import Derived.Test.YtnfgpcccmbblcaaDoorAsE
import Derived.Deep.RegionHeld3
namespace Go.Proofs.YtnfgpcccmbblcaaDoor
open Go.RowKit

abbrev prC (p : Pr) : List Value := [.string ⟨p.1.toArray⟩, .string ⟨p.2.toArray⟩]
def prV (ps : List Pr) : List Value := ps.flatMap prC
theorem prV_cons (p : Pr) (ps : List Pr) : prV (p :: ps) = prC p ++ prV ps := rfl
theorem prV_len (ps : List Pr) : (prV ps).length = ps.length * 2 := by
  induction ps with
  | nil => rfl
  | cons p ps ih => rw [prV_cons, List.length_append, ih]; simp; omega
theorem prV_app (ps qs : List Pr) : prV (ps ++ qs) = prV ps ++ prV qs := by simp [prV]
theorem prV_one (ps : List Pr) : ∀ u ∈ prV ps, u.oneCell' = true := by
  intro u hu
  unfold prV at hu
  obtain ⟨p, _, hp⟩ := List.mem_flatMap.1 hu
  simp only [List.mem_cons, List.not_mem_nil, or_false] at hp
  rcases hp with rfl | rfl <;> rfl
theorem prV_at : ∀ (ps : List Pr) (k : Nat) (h : k < ps.length), (prV ps)[k * 2]? = some (.string ⟨ps[k].1.toArray⟩) ∧ (prV ps)[k * 2 + 1]? = some (.string ⟨ps[k].2.toArray⟩)
  | [], k, h => by simp at h
  | p :: ps, 0, _ => ⟨rfl, rfl⟩
  | p :: ps, k + 1, h => by
    obtain ⟨i1, i2⟩ := prV_at ps k (by simpa using h)
    have e1 : (k + 1) * 2 = k * 2 + 2 := by omega
    rw [e1, prV_cons]
    exact ⟨i1, i2⟩
/-- A slice that reads as a list of pairs. -/
def IsPairs (v : Value) (ps : List Pr) (w : World) : Prop := IsRow 2 v ps.length (prV ps) w
theorem IsPairs.ret {v : Value} {ps : List Pr} {w w' : World} (h : IsPairs v ps w) (hb : Below w.heap.size w w') : IsPairs v ps w' := IsRow.ret h hb
theorem IsPairs.nil (w : World) : IsPairs (.slice none 0 0) [] w := IsRow.nil 2 w
theorem IsPairs.form {v : Value} {ps : List Pr} {w : World} (h : IsPairs v ps w) : ∃ a cap, v = .slice a ps.length cap := by
  obtain ⟨_, a, cap, h, _⟩ := h
  exact ⟨a, cap, h⟩
theorem IsPairs.cell {v : Value} {ps : List Pr} {w : World} (h : IsPairs v ps w) {k : Nat} (hk : k < ps.length) : ∃ b off cap, v = .slice (some ⟨b, off, none⟩) ps.length cap ∧ b < w.heap.size ∧
    w.cell? ⟨b, off + k * 2, none⟩ = some (.string ⟨ps[k].1.toArray⟩) ∧ w.cell? ⟨b, off + k * 2 + 1, none⟩ = some (.string ⟨ps[k].2.toArray⟩) := by
  obtain ⟨hl, a, cap, rfl, _, hc⟩ := h
  rcases hc with h0 | ⟨b, off, rfl, h1, h2⟩
  · omega
  · have hl2 := prV_len ps
    obtain ⟨c1, c2⟩ := prV_at ps k hk
    have d1 := h2 (k * 2) (by omega)
    have d2 := h2 (k * 2 + 1) (by omega)
    rw [List.getElem?_eq_getElem (by omega)] at c1 c2
    refine ⟨b, off, cap, rfl, h1, d1.trans c1, ?_⟩
    rw [Nat.add_assoc]
    exact d2.trans c2
theorem vinfo_pair : (Tryd.prog.info? 52).map (fun i => (i.zero, i.size, i.bytes)) = some (some (.agg #[.string ⟨#[]⟩, .string ⟨#[]⟩]), 2, 32) := by kernel_rfl
/-- What stands ahead of the first colon, and behind it. -/
def ptA (l : List UInt8) : List UInt8 := if l.contains 58 then cA 58 l else []
def ptR (l : List UInt8) : List UInt8 := if l.contains 58 then cR 58 l else l
set_option maxHeartbeats 4000000 in
theorem r9_Parts (s : ByteArray) (w : World) (hs : s.size ≤ 1000000) : Calls Tryd.prog 85 #[.string s] w fun e w' => e = .returned (.tuple #[.string ⟨(ptA s.data.toList).toArray⟩, .string ⟨(ptR s.data.toList).toArray⟩, .bool (s.data.toList.contains 58)]) ∧ Below w.heap.size w w' := by
  obtain ⟨x, hx⟩ : ∃ x : ByteArray, ⟨(ptA s.data.toList).toArray⟩ = x := ⟨_, rfl⟩
  obtain ⟨y, hy⟩ : ∃ x : ByteArray, ⟨(ptR s.data.toList).toArray⟩ = x := ⟨_, rfl⟩
  obtain ⟨b, hb⟩ : ∃ x, s.data.toList.contains 58 = x := ⟨_, rfl⟩
  have hxl : x.data.toList = ptA s.data.toList := by rw [← hx]
  have hyl : y.data.toList = ptR s.data.toList := by rw [← hy]
  rw [hx, hy, hb]
  unfold ptA at hxl
  unfold ptR at hyl
  rw [hb] at hxl hyl
  have HX := Lib.hid hxl
  have HY := Lib.hid hyl
  have HB := Lib.hid hb
  clear hx hy hb hxl hyl
  go_enter Tryd.func85, Tryd.ntmps85
  go_wp2_with fail
  go_loop [5] (fun i => ∃ k : Nat, k ≤ s.size ∧ i = .int .i64 k ∧ (s.data.toList.take k).contains 58 = false) (fun i => s.size - (intOf i).toNat)
  case atStart => exact ⟨0, Nat.zero_le _, rfl, rfl⟩
  case round =>
    obtain ⟨k, hk, rfl, hno⟩ := hrel
    by_cases hlt : k < s.size
    · have hsn : (s.data.toList.take (k + 1)).contains 58 = (s[k] == 58) := by
        rw [take_snoc s k hlt, List.contains_append, hno, Bool.false_or, List.contains_cons, List.contains_nil, Bool.or_false]
        exact beq_comm_u8 _ _
      have hbe := u8_beq s[k] 58
      rw [show ((UInt8.toNat 58 : Nat) : Int) = 58 from rfl] at hbe
      by_cases hc : s[k] = 58
      · have hsplit : s.data.toList = s.data.toList.take k ++ 58 :: s.data.toList.drop (k + 1) := by
          have h1 := drop_cons s k hlt
          rw [hc] at h1
          rw [← h1, List.take_append_drop]
        have hne : ∀ d ∈ s.data.toList.take k, d ≠ 58 := by
          intro d hd he
          subst he
          rw [Bool.eq_false_iff] at hno
          exact hno (List.contains_iff_mem.2 hd)
        obtain ⟨c1, c2⟩ := cA_of 58 (s.data.toList.drop (k + 1)) (s.data.toList.take k) hne
        rw [← hsplit] at c1 c2
        have hbt : b = true := by
          rw [← HB.out, hsplit, List.contains_iff_mem]
          simp
        subst hbt
        have hx2 : x = s.extract 0 k := str_ext (by rw [HX.out, if_pos rfl, c1, ext_data]; rfl)
        have hy2 : y = s.extract (k + 1) s.size := str_ext (by rw [HY.out, if_pos rfl, c2, ext_tail])
        have HX2 := Lib.hid hx2
        have HY2 := Lib.hid hy2
        have e1 : ((s[k].toNat : Int) == 58) = true := by rw [hbe, hc]; rfl
        have g1 : (k : Int) < s.size := by omega
        have g2 : (0 : Int) ≤ (k : Int) := by omega
        have g3 : (k : Int) ≤ s.size := by omega
        have g4 : (k : Int) + 1 ≤ s.size := by omega
        have g5 : (0 : Int) ≤ (k : Int) + 1 := by omega
        have g6 : ((k : Int) + 1).toNat = k + 1 := by omega
        have g7 : IntKind.i64.wrap ((k : Int) + 1) = (k : Int) + 1 := IntWalk.i64_in _ (by omega)
        clear hsn hbe hc hsplit hne c1 c2 hx2 hy2 hno HX HY
        go_wp2_with fail
        go_quiet (fail)
        go_wp2_with fail
        go_ret3
        rw [HX2.out, HY2.out]
        exact ⟨rfl, below_drewN _ _⟩
      · have e1 : ((s[k].toNat : Int) == 58) = false := by rw [hbe]; simpa using hc
        rw [show (s[k] == 58) = false by simpa using hc] at hsn
        have HS := Lib.hid hsn
        clear hsn hbe hc hno
        go_wp2_with fail
        go_round
        case rel => exact ⟨k + 1, by omega, by go_num, HS.out⟩
        case measure => simp [intOf]; omega
    · have hbf : b = false := by
        rw [← HB.out]
        rw [List.take_of_length_le (by rw [size_toList]; omega)] at hno
        exact hno
      subst hbf
      have hx2 : x = ⟨#[]⟩ := str_ext (by rw [HX.out]; rfl)
      have hy2 : y = s := str_ext (by rw [HY.out]; rfl)
      subst hx2
      subst hy2
      clear hno HX HY HB
      go_wp2_with fail
      go_ret3
      exact ⟨rfl, Below.refl _ _⟩
/-- What Line answers. -/
def lnX (l : List UInt8) : List UInt8 := match crA l with | some (x, _) => x | none => []
def lnR (l : List UInt8) : List UInt8 := match crA l with | some (_, r) => r | none => []
def lnB (l : List UInt8) : Bool := (crA l).isSome
theorem crA_short {l : List UInt8} (h : l.length ≤ 1) : crA l = none := by
  match l, h with
  | [], _ => rfl
  | [_], _ => rfl
set_option maxHeartbeats 4000000 in
theorem r14_Line (s : ByteArray) (w : World) (hs : s.size ≤ 1000000) : Calls Tryd.prog 93 #[.string s] w fun e w' => e = .returned (.tuple #[.string ⟨(lnX s.data.toList).toArray⟩, .string ⟨(lnR s.data.toList).toArray⟩, .bool (lnB s.data.toList)]) ∧ Below w.heap.size w w' := by
  have hform : (crA s.data.toList = none → lnX s.data.toList = [] ∧ lnR s.data.toList = [] ∧ lnB s.data.toList = false) ∧ (∀ x r, crA s.data.toList = some (x, r) → lnX s.data.toList = x ∧ lnR s.data.toList = r ∧ lnB s.data.toList = true) := by
    refine ⟨fun h => ?_, fun x r h => ?_⟩
    · unfold lnX lnR lnB; rw [h]; exact ⟨rfl, rfl, rfl⟩
    · unfold lnX lnR lnB; rw [h]; exact ⟨rfl, rfl, rfl⟩
  obtain ⟨x, hx⟩ : ∃ x : ByteArray, ⟨(lnX s.data.toList).toArray⟩ = x := ⟨_, rfl⟩
  obtain ⟨y, hy⟩ : ∃ x : ByteArray, ⟨(lnR s.data.toList).toArray⟩ = x := ⟨_, rfl⟩
  obtain ⟨b, hb⟩ : ∃ x, lnB s.data.toList = x := ⟨_, rfl⟩
  have hxl : x.data.toList = lnX s.data.toList := by rw [← hx]
  have hyl : y.data.toList = lnR s.data.toList := by rw [← hy]
  rw [hx, hy, hb]
  rw [← hxl, ← hyl, hb] at hform
  have HF := Lib.hid hform
  clear hx hy hb hxl hyl hform
  go_enter Tryd.func93, Tryd.ntmps93
  go_wp2_with fail
  go_loop [5] (fun i => ∃ k : Nat, k ≤ s.size ∧ i = .int .i64 k ∧ crA s.data.toList = (crA (s.data.toList.drop k)).map (fun z => (s.data.toList.take k ++ z.1, z.2))) (fun i => s.size - (intOf i).toNat)
  case atStart =>
    refine ⟨0, Nat.zero_le _, rfl, ?_⟩
    rw [List.drop_zero, List.take_zero]
    cases crA s.data.toList <;> rfl
  case round =>
    obtain ⟨k, hk, rfl, hcr⟩ := hrel
    by_cases hlt : k + 1 < s.size
    · have hk0 : k < s.size := by omega
      have d1 := drop_cons s k hk0
      have d2 := drop_cons s (k + 1) hlt
      have hb1 := u8_beq s[k] 13
      rw [show ((UInt8.toNat 13 : Nat) : Int) = 13 from rfl] at hb1
      have hb2 := u8_beq s[k + 1] 10
      rw [show ((UInt8.toNat 10 : Nat) : Int) = 10 from rfl] at hb2
      have g1 : (k : Int) + 1 < s.size := by omega
      have g2 : (k : Int) < s.size := by omega
      have g6 : ((k : Int) + 1).toNat = k + 1 := by omega
      have g7 : IntKind.i64.wrap ((k : Int) + 1) = (k : Int) + 1 := IntWalk.i64_in _ (by omega)
      have g8 : (0 : Int) ≤ (k : Int) + 1 := by omega
      by_cases hc : s[k] = 13 ∧ s[k + 1] = 10
      · have hh : crA (s.data.toList.drop k) = some ([], s.data.toList.drop (k + 2)) := by
          rw [d1, d2, hc.1, hc.2]
          simp only [crA]
          rw [if_pos (by simp)]
        rw [hh] at hcr
        obtain ⟨i1, i2, i3⟩ := HF.out.2 _ _ hcr
        subst i3
        have hx2 : x = s.extract 0 k := str_ext (by rw [i1, ext_data, List.append_nil]; rfl)
        have hy2 : y = s.extract (k + 2) s.size := str_ext (by rw [i2, ext_tail])
        have HX2 := Lib.hid hx2
        have HY2 := Lib.hid hy2
        have e1 : ((s[k].toNat : Int) == 13) = true := by rw [hb1, hc.1]; rfl
        have e2 : ((s[k + 1].toNat : Int) == 10) = true := by rw [hb2, hc.2]; rfl
        have g9 : (k : Int) + 2 ≤ s.size := by omega
        have g10 : (0 : Int) ≤ (k : Int) + 2 := by omega
        have g11 : ((k : Int) + 2).toNat = k + 2 := by omega
        have g12 : IntKind.i64.wrap ((k : Int) + 2) = (k : Int) + 2 := IntWalk.i64_in _ (by omega)
        have g13 : (k : Int) ≤ s.size := by omega
        clear hcr hh d1 d2 hb1 hb2 hc i1 i2 hx2 hy2 HF
        go_wp2_with fail
        go_quiet (fail)
        go_wp2_with fail
        go_ret3
        rw [HX2.out, HY2.out]
        exact ⟨rfl, below_drewN _ _⟩
      · have hh : crA s.data.toList = (crA (s.data.toList.drop (k + 1))).map (fun z => (s.data.toList.take (k + 1) ++ z.1, z.2)) := by
          rw [hcr, d1, d2]
          simp only [crA]
          rw [if_neg hc, ← d2, Option.map_map]
          congr 1
          funext z
          rw [take_snoc s k hk0]
          simp
        have HH := Lib.hid hh
        by_cases h13 : s[k] = 13
        · have e1 : ((s[k].toNat : Int) == 13) = true := by rw [hb1, h13]; rfl
          have e2 : ((s[k + 1].toNat : Int) == 10) = false := by
            rw [hb2]
            have : ¬ s[k + 1] = 10 := fun e => hc ⟨h13, e⟩
            simpa using this
          clear hcr hh d1 d2 hb1 hb2 hc h13
          go_wp2_with fail
          go_round
          case rel => exact ⟨k + 1, by omega, by go_num, HH.out⟩
          case measure => simp [intOf]; omega
        · have e1 : ((s[k].toNat : Int) == 13) = false := by rw [hb1]; simpa using h13
          clear hcr hh d1 d2 hb1 hb2 hc h13
          go_wp2_with fail
          go_round
          case rel => exact ⟨k + 1, by omega, by go_num, HH.out⟩
          case measure => simp [intOf]; omega
    · have hnone : crA (s.data.toList.drop k) = none := crA_short (by rw [List.length_drop, size_toList]; omega)
      rw [hnone] at hcr
      obtain ⟨i1, i2, i3⟩ := HF.out.1 hcr
      subst i3
      have hx2 : x = ⟨#[]⟩ := str_ext (by rw [i1])
      have hy2 : y = ⟨#[]⟩ := str_ext (by rw [i2])
      subst hx2
      subst hy2
      have g1 : (s.size : Int) ≤ (k : Int) + 1 := by omega
      have g7 : IntKind.i64.wrap ((k : Int) + 1) = (k : Int) + 1 := IntWalk.i64_in _ (by omega)
      clear hcr hnone i1 i2 HF
      go_wp2_with fail
      go_ret3
      exact ⟨rfl, Below.refl _ _⟩
end Go.Proofs.YtnfgpcccmbblcaaDoor
