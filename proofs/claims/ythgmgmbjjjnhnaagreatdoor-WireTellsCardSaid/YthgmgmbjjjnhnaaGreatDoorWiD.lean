/- wire.steps and wire.One. PRINTED BY PROGRAM (gen_wid.py). -/
import Derived.Test.YthgmgmbjjjnhnaaGreatDoorWiC
namespace Go.Proofs.YthgmgmbjjjnhnaaGreatDoor
open Go.RowKit

abbrev stepsL : List Value := [.string ⟨#[104, 101, 97, 100]⟩, .func (.func 69) #[] #[], .string ⟨#[108, 105, 110, 101]⟩, .func (.func 70) #[] #[], .string ⟨#[102, 105, 101, 108, 100, 115]⟩, .func (.func 71) #[] #[], .string ⟨#[108, 101, 110, 103, 116, 104]⟩, .func (.func 72) #[] #[], .string ⟨#[99, 104, 117, 110, 107, 115]⟩, .func (.func 73) #[] #[]]
theorem wi_steps (w : World) : Calls Tryz.prog 34 #[] w fun e w' => e = .returned (.slice (some ⟨w.heap.size, 0, none⟩) 5 5) ∧ w' = w.alloc (.cells #[.string ⟨#[104, 101, 97, 100]⟩, .func (.func 69) #[] #[], .string ⟨#[108, 105, 110, 101]⟩, .func (.func 70) #[] #[], .string ⟨#[102, 105, 101, 108, 100, 115]⟩, .func (.func 71) #[] #[], .string ⟨#[108, 101, 110, 103, 116, 104]⟩, .func (.func 72) #[] #[], .string ⟨#[99, 104, 117, 110, 107, 115]⟩, .func (.func 73) #[] #[]] 77) := by
  go_enter Tryz.func34, Tryz.ntmps34
  go_wp2_with fail
  go_ret
  exact ⟨rfl, rfl⟩
/-- What came, in four cells of its own. -/
structure CmAt (L : Nat) (a b c d : Value) (w : World) : Prop where
  lt : L < w.heap.size
  c0 : w.cell? ⟨L, 0, none⟩ = some a
  c1 : w.cell? ⟨L, 1, none⟩ = some b
  c2 : w.cell? ⟨L, 2, none⟩ = some c
  c3 : w.cell? ⟨L, 3, none⟩ = some d
  f0 : w.frozen? ⟨L, 0, none⟩ = false
  f1 : w.frozen? ⟨L, 1, none⟩ = false
  f2 : w.frozen? ⟨L, 2, none⟩ = false
  f3 : w.frozen? ⟨L, 3, none⟩ = false
theorem CmAt.ret2 {L B : Nat} {a b c d : Value} {w w' : World} (h : CmAt L a b c d w) (hL : L < B) (hb : Below B w w') : CmAt L a b c d w' := by
  obtain ⟨h0, h1, h2, h3, h4, h5, h6, h7, h8⟩ := h
  have q : ∀ o, w'.cell? ⟨L, o, none⟩ = w.cell? ⟨L, o, none⟩ := fun o => hb.cell (p := ⟨L, o, none⟩) hL
  have r : ∀ o, w'.frozen? ⟨L, o, none⟩ = w.frozen? ⟨L, o, none⟩ := fun o => hb.frozen (p := ⟨L, o, none⟩) hL
  exact ⟨Nat.lt_of_lt_of_le h0 hb.size, (q _).trans h1, (q _).trans h2, (q _).trans h3, (q _).trans h4, (r _).trans h5, (r _).trans h6, (r _).trans h7, (r _).trans h8⟩
theorem CmAt.ret' {L : Nat} {a b c d : Value} {w w' : World} (h : CmAt L a b c d w) (hb : Below w.heap.size w w') : CmAt L a b c d w' := h.ret2 h.lt hb
theorem CmAt.new (w : World) (a b c d : Value) : CmAt w.heap.size a b c d (w.alloc (.cells #[a, b, c, d] 40)) := by constructor <;> simp
theorem vat_kp {A L : Nat} {cs : List Value} {w w' : World} (h : VAt A 0 cs w) (hk : Kp L w w') (hne : A ≠ L) : VAt A 0 cs w' :=
  ⟨Nat.lt_of_lt_of_le h.1 hk.1.size, fun j hj => (World.cell?_of_block (hk.2 A h.1 hne)).trans (h.2 j hj)⟩
abbrev cm0 : Value := .agg #[.int .i64 0, .string ⟨#[]⟩, .string ⟨#[]⟩, .bool false]
abbrev cmV (c : Cm) : Value := .agg #[.int .i64 c.1, .string ⟨c.2.1.toArray⟩, .string ⟨c.2.2.1.toArray⟩, .bool c.2.2.2]
/-- What One answers. -/
def oneV (s : List UInt8) : Value := match wiO s with
  | .more => .tuple #[cm0, .int .i64 0, .bool true]
  | .bad st => .tuple #[.agg #[.int .i64 st, .string ⟨#[]⟩, .string ⟨#[]⟩, .bool false], .int .i64 s.length, .bool false]
  | .done h b k n => .tuple #[.agg #[.int .i64 200, .string ⟨h.toArray⟩, .string ⟨b.toArray⟩, .bool k], .int .i64 n, .bool false]
theorem oneV_more {s : ByteArray} (h : wiO s.data.toList = .more) : oneV s.data.toList = .tuple #[cm0, .int .i64 0, .bool true] := by unfold oneV; rw [h]
theorem oneV_bad {s : ByteArray} {st : Int} (h : wiO s.data.toList = .bad st) : oneV s.data.toList = .tuple #[.agg #[.int .i64 st, .string ⟨#[]⟩, .string ⟨#[]⟩, .bool false], .int .i64 s.size, .bool false] := by unfold oneV; rw [h, ← size_toList]
theorem oneV_done {s H B : ByteArray} {k : Bool} {n : Nat} (h : wiO s.data.toList = .done H.data.toList B.data.toList k n) : oneV s.data.toList = .tuple #[.agg #[.int .i64 200, .string H, .string B, .bool k], .int .i64 n, .bool false] := by unfold oneV; rw [h]
set_option maxHeartbeats 16000000 in
set_option maxRecDepth 100000 in
theorem wi_One (s : ByteArray) (w : World) (hs : s.size ≤ 1000000) (hm : ML w) : Calls Tryz.prog 16 #[.string s] w (Ret w (oneV s.data.toList)) := by
  have hg := hm.1
  have HM := Lib.hid hm
  have u0 := (UAt.new (w.alloc (.cells #[.int .i64 0, .string ⟨#[]⟩, .string ⟨#[]⟩, .bool false] 40)) (.string s) (.string ⟨#[]⟩) (.int .i64 0) (.slice none 0 0) (.int .u8 0) (.int .i64 0) (.int .i64 0) (.string ⟨#[]⟩) (.string ⟨#[]⟩) (.bool false) (.int .i64 0) (.bool false)).ret' ((Below.refl _ _).alloc (Nat.le_refl _) (.cells #[.string ⟨#[104, 101, 97, 100]⟩, .func (.func 69) #[] #[], .string ⟨#[108, 105, 110, 101]⟩, .func (.func 70) #[] #[], .string ⟨#[102, 105, 101, 108, 100, 115]⟩, .func (.func 71) #[] #[], .string ⟨#[108, 101, 110, 103, 116, 104]⟩, .func (.func 72) #[] #[], .string ⟨#[99, 104, 117, 110, 107, 115]⟩, .func (.func 73) #[] #[]] 77))
  have c0 := ((CmAt.new w (.int .i64 0) (.string ⟨#[]⟩) (.string ⟨#[]⟩) (.bool false)).ret' ((Below.refl _ _).alloc (Nat.le_refl _) (.cells #[.string s, .string ⟨#[]⟩, .int .i64 0, .slice none 0 0, .int .u8 0, .int .i64 0, .int .i64 0, .string ⟨#[]⟩, .string ⟨#[]⟩, .bool false, .int .i64 0, .bool false] 72))).ret' ((Below.refl _ _).alloc (Nat.le_refl _) (.cells #[.string ⟨#[104, 101, 97, 100]⟩, .func (.func 69) #[] #[], .string ⟨#[108, 105, 110, 101]⟩, .func (.func 70) #[] #[], .string ⟨#[102, 105, 101, 108, 100, 115]⟩, .func (.func 71) #[] #[], .string ⟨#[108, 101, 110, 103, 116, 104]⟩, .func (.func 72) #[] #[], .string ⟨#[99, 104, 117, 110, 107, 115]⟩, .func (.func 73) #[] #[]] 77))
  have q0 := (((Below.refl w.heap.size w).alloc (Nat.le_refl _) (.cells #[.int .i64 0, .string ⟨#[]⟩, .string ⟨#[]⟩, .bool false] 40)).alloc (by simp) (.cells #[.string s, .string ⟨#[]⟩, .int .i64 0, .slice none 0 0, .int .u8 0, .int .i64 0, .int .i64 0, .string ⟨#[]⟩, .string ⟨#[]⟩, .bool false, .int .i64 0, .bool false] 72)).alloc (by simp <;> omega) (.cells #[.string ⟨#[104, 101, 97, 100]⟩, .func (.func 69) #[] #[], .string ⟨#[108, 105, 110, 101]⟩, .func (.func 70) #[] #[], .string ⟨#[102, 105, 101, 108, 100, 115]⟩, .func (.func 71) #[] #[], .string ⟨#[108, 101, 110, 103, 116, 104]⟩, .func (.func 72) #[] #[], .string ⟨#[99, 104, 117, 110, 107, 115]⟩, .func (.func 73) #[] #[]] 77)
  rw [World.size_alloc] at u0
  have a0 : VAt (w.heap.size + 1 + 1) 0 stepsL (((w.alloc (.cells #[.int .i64 0, .string ⟨#[]⟩, .string ⟨#[]⟩, .bool false] 40)).alloc (.cells #[.string s, .string ⟨#[]⟩, .int .i64 0, .slice none 0 0, .int .u8 0, .int .i64 0, .int .i64 0, .string ⟨#[]⟩, .string ⟨#[]⟩, .bool false, .int .i64 0, .bool false] 72)).alloc (.cells #[.string ⟨#[104, 101, 97, 100]⟩, .func (.func 69) #[] #[], .string ⟨#[108, 105, 110, 101]⟩, .func (.func 70) #[] #[], .string ⟨#[102, 105, 101, 108, 100, 115]⟩, .func (.func 71) #[] #[], .string ⟨#[108, 101, 110, 103, 116, 104]⟩, .func (.func 72) #[] #[], .string ⟨#[99, 104, 117, 110, 107, 115]⟩, .func (.func 73) #[] #[]] 77)) := by
    refine ⟨by simp, fun j hj => ?_⟩
    have hsz : ((w.alloc (.cells #[.int .i64 0, .string ⟨#[]⟩, .string ⟨#[]⟩, .bool false] 40)).alloc (.cells #[.string s, .string ⟨#[]⟩, .int .i64 0, .slice none 0 0, .int .u8 0, .int .i64 0, .int .i64 0, .string ⟨#[]⟩, .string ⟨#[]⟩, .bool false, .int .i64 0, .bool false] 72)).heap.size = w.heap.size + 1 + 1 := by simp
    rw [← hsz, Nat.zero_add, World.cell?_alloc_new]
    simp only [List.length_cons, List.length_nil] at hj
    match j, hj with
    | 0, _ => rfl
    | 1, _ => rfl
    | 2, _ => rfl
    | 3, _ => rfl
    | 4, _ => rfl
    | 5, _ => rfl
    | 6, _ => rfl
    | 7, _ => rfl
    | 8, _ => rfl
    | 9, _ => rfl
  have U0 := Lib.hid u0
  have C0 := Lib.hid c0
  have A0 := Lib.hid a0
  clear u0 c0 a0
  obtain ⟨O, hO⟩ : ∃ O, oneV s.data.toList = O := ⟨_, rfl⟩
  rw [hO]
  have HOV := Lib.hid hO
  clear hO
  go_enter Tryz.func16, Tryz.ntmps16
  go_wp2_with fail
  refine (wi_steps _).mono ?_
  rintro e w1 ⟨rfl, rfl⟩
  go_wp2_with fail
  go_loopw [14] (fun i wr => ∃ j : Nat, j ≤ 5 ∧ i = .int .i64 j ∧ ∃ (h : ByteArray) (a k n : Int) (host body : ByteArray) (keep : Bool) (used : Int), UC (w.heap.size + 1) s h a k n host body keep used false wr ∧ WIs s.data.toList j h a k n host body keep used ∧ Below w.heap.size w wr ∧ CmAt w.heap.size (.int .i64 0) (.string ⟨#[]⟩) (.string ⟨#[]⟩) (.bool false) wr ∧ VAt (w.heap.size + 1 + 1) 0 stepsL wr) (fun i _ => 5 - (intOf i).toNat)
  case atStart => exact ⟨0, by decide, rfl, ⟨#[]⟩, 0, 0, 0, ⟨#[]⟩, ⟨#[]⟩, false, 0, U0.out, ⟨rfl, rfl, rfl, rfl, rfl, rfl, rfl, rfl⟩, q0, C0.out, A0.out⟩
  case round =>
    clear U0 C0 A0 q0
    obtain ⟨j, hj, rfl, h, a, k, n, host, body, keep, used, hu, hW, hB, hc, hv⟩ := hrel
    have HU := Lib.hid hu
    have HC := Lib.hid hc
    have HV := Lib.hid hv
    have hsB := hB.size
    clear hu hc hv
    match j, hj with
    | 0, _ =>
      have v0 := HV.out.2 0 (by decide)
      have v1 := HV.out.2 1 (by decide)
      have k0 : wr.cell? ⟨w.heap.size + 1 + 1, 0, none⟩ = some (.string ⟨#[104, 101, 97, 100]⟩) := v0
      have k1 : wr.cell? ⟨w.heap.size + 1 + 1, 1, none⟩ = some (.func (.func 69) #[] #[]) := v1
      clear v0 v1
      have al := (Below.refl wr.heap.size wr).alloc (Nat.le_refl _) (.cells #[.string ⟨#[104, 101, 97, 100]⟩, .func (.func 69) #[] #[]] 77)
      have ST := Lib.hid (wi_cut (w.heap.size + 1) s h a k n host body keep used _ hs (HM.out.ret (hB.trans (al.mono hB.size))) (by omega) (HU.out.ret' al) hW)
      have HVa := Lib.hid (HV.out.ret al)
      have HCa := Lib.hid (HC.out.ret' al)
      have qa := hB.trans (al.mono hB.size)
      have hAl := HVa.out.1
      have hCl := HC.out.lt
      go_wp2_with fail
      refine ST.out.mono ?_
      rintro e w2 ⟨st, h', a', k', n', host', body', keep', used', more, rfl, hu, hk, hz⟩
      have hk1 := hk.1
      have q2 := hB.trans (al.mono hB.size) |>.trans (hk.1.mono (by omega))
      have HC2 := Lib.hid (HCa.out.ret2 (by omega) hk.1)
      have HV2 : Hid (VAt (w.heap.size + 1 + 1) 0 stepsL w2) := Lib.hid (vat_kp HVa.out hk (by omega))
      have HU2 := Lib.hid hu
      have hLl := hu.lt
      clear al ST HVa HCa hk hk1 k0 k1 HC HV HU hW
      obtain ⟨lt, d0, d1, d2, d3, d4, d5, d6, d7, d8, d9, d10, d11, g0, g1, g2, g3, g4, g5, g6, g7, g8, g9, g10, g11⟩ := hu
      obtain ⟨lt2, b0, b1, b2, b3, x0, x1, x2, x3⟩ := HC2.out
      rcases hz with ⟨rfl, hO⟩ | ⟨rfl, hne, hO⟩ | ⟨rfl, rfl, hW2⟩
      · have HO := Lib.hid hO
        clear hO
        go_wp2_with fail
        refine bodyPost_ret (v := .tuple #[cm0, .int .i64 0, .bool true]) (by simp (maxDischargeDepth := 9) [results, Tryz.results16, go_sem, *]) rfl ⟨by rw [← HOV.out, oneV_more HO.out], ?_⟩
        repeat (first | with_reducible exact q2 | with_reducible refine Below.drew ?_ | with_reducible refine Below.setCell ?_ (by first | omega | (simp <;> omega)) _ | with_reducible refine Below.alloc ?_ (by first | omega | (simp <;> omega)) _)
      · have HO := Lib.hid hO
        have e1 : (st == 200) = false := by rw [beq_eq_false_iff_ne]; exact hne
        have e2 : (st != 200) = true := by rw [bne_iff_ne]; exact hne
        clear hO
        go_wp2_with fail
        refine bodyPost_ret (v := .tuple #[.agg #[.int .i64 st, .string ⟨#[]⟩, .string ⟨#[]⟩, .bool false], .int .i64 s.size, .bool false]) (by simp (maxDischargeDepth := 9) [results, Tryz.results16, go_sem, *]) rfl ⟨by rw [← HOV.out, oneV_bad HO.out], ?_⟩
        repeat (first | with_reducible exact q2 | with_reducible refine Below.drew ?_ | with_reducible refine Below.setCell ?_ (by first | omega | (simp <;> omega)) _ | with_reducible refine Below.alloc ?_ (by first | omega | (simp <;> omega)) _)
      · have HW2 := Lib.hid hW2
        clear hW2
        go_wp2_with fail
        go_roundw
        case rel => exact ⟨1, by decide, by go_num, h', a', k', n', host', body', keep', used', HU2.out, HW2.out, q2, HC2.out, HV2.out⟩
        case measure => simp [intOf]
    | 1, _ =>
      have v0 := HV.out.2 2 (by decide)
      have v1 := HV.out.2 3 (by decide)
      have k0 : wr.cell? ⟨w.heap.size + 1 + 1, 2, none⟩ = some (.string ⟨#[108, 105, 110, 101]⟩) := v0
      have k1 : wr.cell? ⟨w.heap.size + 1 + 1, 3, none⟩ = some (.func (.func 70) #[] #[]) := v1
      clear v0 v1
      have al := (Below.refl wr.heap.size wr).alloc (Nat.le_refl _) (.cells #[.string ⟨#[108, 105, 110, 101]⟩, .func (.func 70) #[] #[]] 77)
      have ST := Lib.hid (wi_first (w.heap.size + 1) s h a k n host body keep used _ hs (HM.out.ret (hB.trans (al.mono hB.size))) (by omega) (HU.out.ret' al) hW)
      have HVa := Lib.hid (HV.out.ret al)
      have HCa := Lib.hid (HC.out.ret' al)
      have qa := hB.trans (al.mono hB.size)
      have hAl := HVa.out.1
      have hCl := HC.out.lt
      go_wp2_with fail
      refine ST.out.mono ?_
      rintro e w2 ⟨st, h', a', k', n', host', body', keep', used', more, rfl, hu, hk, hz⟩
      have hk1 := hk.1
      have q2 := hB.trans (al.mono hB.size) |>.trans (hk.1.mono (by omega))
      have HC2 := Lib.hid (HCa.out.ret2 (by omega) hk.1)
      have HV2 : Hid (VAt (w.heap.size + 1 + 1) 0 stepsL w2) := Lib.hid (vat_kp HVa.out hk (by omega))
      have HU2 := Lib.hid hu
      have hLl := hu.lt
      clear al ST HVa HCa hk hk1 k0 k1 HC HV HU hW
      obtain ⟨lt, d0, d1, d2, d3, d4, d5, d6, d7, d8, d9, d10, d11, g0, g1, g2, g3, g4, g5, g6, g7, g8, g9, g10, g11⟩ := hu
      obtain ⟨lt2, b0, b1, b2, b3, x0, x1, x2, x3⟩ := HC2.out
      rcases hz with ⟨rfl, hO⟩ | ⟨rfl, hne, hO⟩ | ⟨rfl, rfl, hW2⟩
      · have HO := Lib.hid hO
        clear hO
        go_wp2_with fail
        refine bodyPost_ret (v := .tuple #[cm0, .int .i64 0, .bool true]) (by simp (maxDischargeDepth := 9) [results, Tryz.results16, go_sem, *]) rfl ⟨by rw [← HOV.out, oneV_more HO.out], ?_⟩
        repeat (first | with_reducible exact q2 | with_reducible refine Below.drew ?_ | with_reducible refine Below.setCell ?_ (by first | omega | (simp <;> omega)) _ | with_reducible refine Below.alloc ?_ (by first | omega | (simp <;> omega)) _)
      · have HO := Lib.hid hO
        have e1 : (st == 200) = false := by rw [beq_eq_false_iff_ne]; exact hne
        have e2 : (st != 200) = true := by rw [bne_iff_ne]; exact hne
        clear hO
        go_wp2_with fail
        refine bodyPost_ret (v := .tuple #[.agg #[.int .i64 st, .string ⟨#[]⟩, .string ⟨#[]⟩, .bool false], .int .i64 s.size, .bool false]) (by simp (maxDischargeDepth := 9) [results, Tryz.results16, go_sem, *]) rfl ⟨by rw [← HOV.out, oneV_bad HO.out], ?_⟩
        repeat (first | with_reducible exact q2 | with_reducible refine Below.drew ?_ | with_reducible refine Below.setCell ?_ (by first | omega | (simp <;> omega)) _ | with_reducible refine Below.alloc ?_ (by first | omega | (simp <;> omega)) _)
      · have HW2 := Lib.hid hW2
        clear hW2
        go_wp2_with fail
        go_roundw
        case rel => exact ⟨2, by decide, by go_num, h', a', k', n', host', body', keep', used', HU2.out, HW2.out, q2, HC2.out, HV2.out⟩
        case measure => simp [intOf]
    | 2, _ =>
      have v0 := HV.out.2 4 (by decide)
      have v1 := HV.out.2 5 (by decide)
      have k0 : wr.cell? ⟨w.heap.size + 1 + 1, 4, none⟩ = some (.string ⟨#[102, 105, 101, 108, 100, 115]⟩) := v0
      have k1 : wr.cell? ⟨w.heap.size + 1 + 1, 5, none⟩ = some (.func (.func 71) #[] #[]) := v1
      clear v0 v1
      have al := (Below.refl wr.heap.size wr).alloc (Nat.le_refl _) (.cells #[.string ⟨#[102, 105, 101, 108, 100, 115]⟩, .func (.func 71) #[] #[]] 77)
      have ST := Lib.hid (wi_others (w.heap.size + 1) s h a k n host body keep used _ hs (HM.out.ret (hB.trans (al.mono hB.size))) (by omega) (HU.out.ret' al) hW)
      have HVa := Lib.hid (HV.out.ret al)
      have HCa := Lib.hid (HC.out.ret' al)
      have qa := hB.trans (al.mono hB.size)
      have hAl := HVa.out.1
      have hCl := HC.out.lt
      go_wp2_with fail
      refine ST.out.mono ?_
      rintro e w2 ⟨st, h', a', k', n', host', body', keep', used', more, rfl, hu, hk, hz⟩
      have hk1 := hk.1
      have q2 := hB.trans (al.mono hB.size) |>.trans (hk.1.mono (by omega))
      have HC2 := Lib.hid (HCa.out.ret2 (by omega) hk.1)
      have HV2 : Hid (VAt (w.heap.size + 1 + 1) 0 stepsL w2) := Lib.hid (vat_kp HVa.out hk (by omega))
      have HU2 := Lib.hid hu
      have hLl := hu.lt
      clear al ST HVa HCa hk hk1 k0 k1 HC HV HU hW
      obtain ⟨lt, d0, d1, d2, d3, d4, d5, d6, d7, d8, d9, d10, d11, g0, g1, g2, g3, g4, g5, g6, g7, g8, g9, g10, g11⟩ := hu
      obtain ⟨lt2, b0, b1, b2, b3, x0, x1, x2, x3⟩ := HC2.out
      rcases hz with ⟨rfl, hO⟩ | ⟨rfl, hne, hO⟩ | ⟨rfl, rfl, hW2⟩
      · have HO := Lib.hid hO
        clear hO
        go_wp2_with fail
        refine bodyPost_ret (v := .tuple #[cm0, .int .i64 0, .bool true]) (by simp (maxDischargeDepth := 9) [results, Tryz.results16, go_sem, *]) rfl ⟨by rw [← HOV.out, oneV_more HO.out], ?_⟩
        repeat (first | with_reducible exact q2 | with_reducible refine Below.drew ?_ | with_reducible refine Below.setCell ?_ (by first | omega | (simp <;> omega)) _ | with_reducible refine Below.alloc ?_ (by first | omega | (simp <;> omega)) _)
      · have HO := Lib.hid hO
        have e1 : (st == 200) = false := by rw [beq_eq_false_iff_ne]; exact hne
        have e2 : (st != 200) = true := by rw [bne_iff_ne]; exact hne
        clear hO
        go_wp2_with fail
        refine bodyPost_ret (v := .tuple #[.agg #[.int .i64 st, .string ⟨#[]⟩, .string ⟨#[]⟩, .bool false], .int .i64 s.size, .bool false]) (by simp (maxDischargeDepth := 9) [results, Tryz.results16, go_sem, *]) rfl ⟨by rw [← HOV.out, oneV_bad HO.out], ?_⟩
        repeat (first | with_reducible exact q2 | with_reducible refine Below.drew ?_ | with_reducible refine Below.setCell ?_ (by first | omega | (simp <;> omega)) _ | with_reducible refine Below.alloc ?_ (by first | omega | (simp <;> omega)) _)
      · have HW2 := Lib.hid hW2
        clear hW2
        go_wp2_with fail
        go_roundw
        case rel => exact ⟨3, by decide, by go_num, h', a', k', n', host', body', keep', used', HU2.out, HW2.out, q2, HC2.out, HV2.out⟩
        case measure => simp [intOf]
    | 3, _ =>
      have v0 := HV.out.2 6 (by decide)
      have v1 := HV.out.2 7 (by decide)
      have k0 : wr.cell? ⟨w.heap.size + 1 + 1, 6, none⟩ = some (.string ⟨#[108, 101, 110, 103, 116, 104]⟩) := v0
      have k1 : wr.cell? ⟨w.heap.size + 1 + 1, 7, none⟩ = some (.func (.func 72) #[] #[]) := v1
      clear v0 v1
      have al := (Below.refl wr.heap.size wr).alloc (Nat.le_refl _) (.cells #[.string ⟨#[108, 101, 110, 103, 116, 104]⟩, .func (.func 72) #[] #[]] 77)
      have ST := Lib.hid (wi_counted (w.heap.size + 1) s h a k n host body keep used _ hs (HM.out.ret (hB.trans (al.mono hB.size))) (by omega) (HU.out.ret' al) hW)
      have HVa := Lib.hid (HV.out.ret al)
      have HCa := Lib.hid (HC.out.ret' al)
      have qa := hB.trans (al.mono hB.size)
      have hAl := HVa.out.1
      have hCl := HC.out.lt
      go_wp2_with fail
      refine ST.out.mono ?_
      rintro e w2 ⟨st, h', a', k', n', host', body', keep', used', more, rfl, hu, hk, hz⟩
      have hk1 := hk.1
      have q2 := hB.trans (al.mono hB.size) |>.trans (hk.1.mono (by omega))
      have HC2 := Lib.hid (HCa.out.ret2 (by omega) hk.1)
      have HV2 : Hid (VAt (w.heap.size + 1 + 1) 0 stepsL w2) := Lib.hid (vat_kp HVa.out hk (by omega))
      have HU2 := Lib.hid hu
      have hLl := hu.lt
      clear al ST HVa HCa hk hk1 k0 k1 HC HV HU hW
      obtain ⟨lt, d0, d1, d2, d3, d4, d5, d6, d7, d8, d9, d10, d11, g0, g1, g2, g3, g4, g5, g6, g7, g8, g9, g10, g11⟩ := hu
      obtain ⟨lt2, b0, b1, b2, b3, x0, x1, x2, x3⟩ := HC2.out
      rcases hz with ⟨rfl, hO⟩ | ⟨rfl, hne, hO⟩ | ⟨rfl, rfl, hW2⟩
      · have HO := Lib.hid hO
        clear hO
        go_wp2_with fail
        refine bodyPost_ret (v := .tuple #[cm0, .int .i64 0, .bool true]) (by simp (maxDischargeDepth := 9) [results, Tryz.results16, go_sem, *]) rfl ⟨by rw [← HOV.out, oneV_more HO.out], ?_⟩
        repeat (first | with_reducible exact q2 | with_reducible refine Below.drew ?_ | with_reducible refine Below.setCell ?_ (by first | omega | (simp <;> omega)) _ | with_reducible refine Below.alloc ?_ (by first | omega | (simp <;> omega)) _)
      · have HO := Lib.hid hO
        have e1 : (st == 200) = false := by rw [beq_eq_false_iff_ne]; exact hne
        have e2 : (st != 200) = true := by rw [bne_iff_ne]; exact hne
        clear hO
        go_wp2_with fail
        refine bodyPost_ret (v := .tuple #[.agg #[.int .i64 st, .string ⟨#[]⟩, .string ⟨#[]⟩, .bool false], .int .i64 s.size, .bool false]) (by simp (maxDischargeDepth := 9) [results, Tryz.results16, go_sem, *]) rfl ⟨by rw [← HOV.out, oneV_bad HO.out], ?_⟩
        repeat (first | with_reducible exact q2 | with_reducible refine Below.drew ?_ | with_reducible refine Below.setCell ?_ (by first | omega | (simp <;> omega)) _ | with_reducible refine Below.alloc ?_ (by first | omega | (simp <;> omega)) _)
      · have HW2 := Lib.hid hW2
        clear hW2
        go_wp2_with fail
        go_roundw
        case rel => exact ⟨4, by decide, by go_num, h', a', k', n', host', body', keep', used', HU2.out, HW2.out, q2, HC2.out, HV2.out⟩
        case measure => simp [intOf]
    | 4, _ =>
      have v0 := HV.out.2 8 (by decide)
      have v1 := HV.out.2 9 (by decide)
      have k0 : wr.cell? ⟨w.heap.size + 1 + 1, 8, none⟩ = some (.string ⟨#[99, 104, 117, 110, 107, 115]⟩) := v0
      have k1 : wr.cell? ⟨w.heap.size + 1 + 1, 9, none⟩ = some (.func (.func 73) #[] #[]) := v1
      clear v0 v1
      have al := (Below.refl wr.heap.size wr).alloc (Nat.le_refl _) (.cells #[.string ⟨#[99, 104, 117, 110, 107, 115]⟩, .func (.func 73) #[] #[]] 77)
      have ST := Lib.hid (wi_parted (w.heap.size + 1) s h a k n host body keep used _ hs (HM.out.ret (hB.trans (al.mono hB.size))) (by omega) (HU.out.ret' al) hW)
      have HVa := Lib.hid (HV.out.ret al)
      have HCa := Lib.hid (HC.out.ret' al)
      have qa := hB.trans (al.mono hB.size)
      have hAl := HVa.out.1
      have hCl := HC.out.lt
      go_wp2_with fail
      refine ST.out.mono ?_
      rintro e w2 ⟨st, h', a', k', n', host', body', keep', used', more, rfl, hu, hk, hz⟩
      have hk1 := hk.1
      have q2 := hB.trans (al.mono hB.size) |>.trans (hk.1.mono (by omega))
      have HC2 := Lib.hid (HCa.out.ret2 (by omega) hk.1)
      have HV2 : Hid (VAt (w.heap.size + 1 + 1) 0 stepsL w2) := Lib.hid (vat_kp HVa.out hk (by omega))
      have HU2 := Lib.hid hu
      have hLl := hu.lt
      clear al ST HVa HCa hk hk1 k0 k1 HC HV HU hW
      obtain ⟨lt, d0, d1, d2, d3, d4, d5, d6, d7, d8, d9, d10, d11, g0, g1, g2, g3, g4, g5, g6, g7, g8, g9, g10, g11⟩ := hu
      obtain ⟨lt2, b0, b1, b2, b3, x0, x1, x2, x3⟩ := HC2.out
      rcases hz with ⟨rfl, hO⟩ | ⟨rfl, hne, hO⟩ | ⟨rfl, rfl, hW2⟩
      · have HO := Lib.hid hO
        clear hO
        go_wp2_with fail
        refine bodyPost_ret (v := .tuple #[cm0, .int .i64 0, .bool true]) (by simp (maxDischargeDepth := 9) [results, Tryz.results16, go_sem, *]) rfl ⟨by rw [← HOV.out, oneV_more HO.out], ?_⟩
        repeat (first | with_reducible exact q2 | with_reducible refine Below.drew ?_ | with_reducible refine Below.setCell ?_ (by first | omega | (simp <;> omega)) _ | with_reducible refine Below.alloc ?_ (by first | omega | (simp <;> omega)) _)
      · have HO := Lib.hid hO
        have e1 : (st == 200) = false := by rw [beq_eq_false_iff_ne]; exact hne
        have e2 : (st != 200) = true := by rw [bne_iff_ne]; exact hne
        clear hO
        go_wp2_with fail
        refine bodyPost_ret (v := .tuple #[.agg #[.int .i64 st, .string ⟨#[]⟩, .string ⟨#[]⟩, .bool false], .int .i64 s.size, .bool false]) (by simp (maxDischargeDepth := 9) [results, Tryz.results16, go_sem, *]) rfl ⟨by rw [← HOV.out, oneV_bad HO.out], ?_⟩
        repeat (first | with_reducible exact q2 | with_reducible refine Below.drew ?_ | with_reducible refine Below.setCell ?_ (by first | omega | (simp <;> omega)) _ | with_reducible refine Below.alloc ?_ (by first | omega | (simp <;> omega)) _)
      · have HW2 := Lib.hid hW2
        clear hW2
        go_wp2_with fail
        go_roundw
        case rel => exact ⟨5, by decide, by go_num, h', a', k', n', host', body', keep', used', HU2.out, HW2.out, q2, HC2.out, HV2.out⟩
        case measure => simp [intOf]
    | 5, _ =>
      obtain ⟨u, hu1, hO⟩ := hW
      subst hu1
      have HO := Lib.hid hO
      clear hO
      obtain ⟨lt, d0, d1, d2, d3, d4, d5, d6, d7, d8, d9, d10, d11, g0, g1, g2, g3, g4, g5, g6, g7, g8, g9, g10, g11⟩ := HU.out
      obtain ⟨lt2, b0, b1, b2, b3, x0, x1, x2, x3⟩ := HC.out
      have q2 := hB.setCell (p := ⟨w.heap.size + 1, 6, none⟩) (by show w.heap.size ≤ w.heap.size + 1; omega) (.int .i64 200)
      go_wp2_with fail
      go_region_held3 (fun w' => w'.cell? ⟨w.heap.size + 1, 6, none⟩ = some (.int .i64 200) ∧ w'.cell? ⟨w.heap.size + 1, 7, none⟩ = some (.string host) ∧ w'.cell? ⟨w.heap.size + 1, 8, none⟩ = some (.string body) ∧ w'.cell? ⟨w.heap.size + 1, 9, none⟩ = some (.bool keep) ∧ w'.cell? ⟨w.heap.size + 1, 10, none⟩ = some (.int .i64 u)) (first | (simp (maxDischargeDepth := 9) [go_sem, *])) (fail)
      go_wp2_with fail
      refine bodyPost_ret (v := .tuple #[.agg #[.int .i64 200, .string host, .string body, .bool keep], .int .i64 u, .bool false]) (by simp (maxDischargeDepth := 9) [results, Tryz.results16, go_sem, *]) rfl ⟨by rw [← HOV.out, oneV_done HO.out], ?_⟩
      repeat (first | with_reducible exact q2 | with_reducible refine Below.drew ?_ | with_reducible refine Below.setCell ?_ (by first | omega | (simp <;> omega)) _ | with_reducible refine Below.alloc ?_ (by first | omega | (simp <;> omega)) _)
end Go.Proofs.YthgmgmbjjjnhnaaGreatDoor
