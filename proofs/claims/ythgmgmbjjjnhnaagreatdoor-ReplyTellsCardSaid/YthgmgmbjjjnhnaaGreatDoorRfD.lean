/- The document's One, Read, Write of a reply. PRINTED BY PROGRAM (gen_rfd.py). -/
import Derived.Test.YthgmgmbjjjnhnaaGreatDoorRfC
namespace Go.Proofs.YthgmgmbjjjnhnaaGreatDoor
open Go.RowKit

theorem fnd_here {l : List Int} {p : Int → Bool} {j : Nat} (hj : j < l.length) (h : (l.take j).find? p = none) (hp : p l[j] = true) : l.find? p = some l[j] := by
  conv => lhs; rw [← List.take_append_drop j l]
  rw [List.find?_append, h, List.drop_eq_getElem_cons hj, List.find?_cons, hp]
  rfl
theorem fnd_next {l : List Int} {p : Int → Bool} {j : Nat} (hj : j < l.length) (h : (l.take j).find? p = none) (hp : p l[j] = false) : (l.take (j + 1)).find? p = none := by
  rw [List.take_succ_eq_append_getElem hj, List.find?_append, h, List.find?_cons, hp]
  rfl
/-- What One answers: what it tells beside 'false' counts for nothing. -/
def OnIs (l : List UInt8) (w : World) (e : Ending) (w' : World) : Prop :=
  ∃ (st : Int) (B : ByteArray) (k : Bool), e = .returned (.tuple #[rpV st B k, .bool (refR l).isSome]) ∧ (∀ x, refR l = some x → x = (st, B.data.toList, k)) ∧ Below w.heap.size w w'
abbrev codesV : List Value := codes6.map (Value.int .i64)
set_option maxHeartbeats 8000000 in
set_option maxRecDepth 100000 in
theorem r18_One (s : ByteArray) (w : World) (hs : s.size ≤ 100000) : Calls Tryz.prog 33 #[.string s] w (OnIs s.data.toList w) := by
  have q0 : Below w.heap.size w ((w.alloc (.cells #[.int .i64 0, .string ⟨#[]⟩, .bool false] 23)).alloc (.cells #[.int .i64 400, .int .i64 403, .int .i64 404, .int .i64 405, .int .i64 413, .int .i64 505] 3)) := ((Below.refl w.heap.size w).alloc (Nat.le_refl _) _).alloc (by simp) _
  have C0 : RpAt w.heap.size (.int .i64 0) (.string ⟨#[]⟩) (.bool false) ((w.alloc (.cells #[.int .i64 0, .string ⟨#[]⟩, .bool false] 23)).alloc (.cells #[.int .i64 400, .int .i64 403, .int .i64 404, .int .i64 405, .int .i64 413, .int .i64 505] 3)) := (RpAt.new w (.int .i64 0) (.string ⟨#[]⟩) (.bool false)).ret ((Below.refl _ _).alloc (Nat.le_refl _) _)
  have A0 : VAt (w.heap.size + 1) 0 codesV ((w.alloc (.cells #[.int .i64 0, .string ⟨#[]⟩, .bool false] 23)).alloc (.cells #[.int .i64 400, .int .i64 403, .int .i64 404, .int .i64 405, .int .i64 413, .int .i64 505] 3)) := by
    refine ⟨by simp, fun j hj => ?_⟩
    have hsz : (w.alloc (.cells #[.int .i64 0, .string ⟨#[]⟩, .bool false] 23)).heap.size = w.heap.size + 1 := by simp
    rw [← hsz, Nat.zero_add, World.cell?_alloc_new]
    rw [List.length_map] at hj
    have hj6 : j < 6 := hj
    match j, hj6 with
    | 0, _ => rfl
    | 1, _ => rfl
    | 2, _ => rfl
    | 3, _ => rfl
    | 4, _ => rfl
    | 5, _ => rfl
  have HC0 := Lib.hid C0
  have HA0 := Lib.hid A0
  have WL := Lib.hid fun w => r18_well s w hs
  have hdef : refR s.data.toList = match codes6.find? (fun c => (rpT c [] false).isPrefixOf s.data.toList) with
    | some c => some (c, [], false)
    | none => (refW s.data.toList).map fun x => (200, x.1, x.2) := rfl
  have HDEF := Lib.hid hdef
  clear C0 A0 hdef
  go_enter Tryz.func33, Tryz.ntmps33
  go_wp2_with fail
  go_loopw [5] (fun i wr => ∃ j : Nat, j ≤ 6 ∧ i = .int .i64 j ∧ (codes6.take j).find? (fun c => (rpT c [] false).isPrefixOf s.data.toList) = none ∧ Below w.heap.size w wr ∧ RpAt w.heap.size (.int .i64 0) (.string ⟨#[]⟩) (.bool false) wr ∧ VAt (w.heap.size + 1) 0 codesV wr) (fun i _ => 6 - (intOf i).toNat)
  case atStart => exact ⟨0, by decide, rfl, rfl, q0, HC0.out, HA0.out⟩
  case round =>
    obtain ⟨j, hj, rfl, hno, hB, hc, hv⟩ := hrel
    clear q0 HC0 HA0
    by_cases hlt : j < 6
    · have hx : j < codes6.length := hlt
      have c1 := hv.2 j (by rw [List.length_map]; exact hx)
      rw [Nat.zero_add, List.getElem_map] at c1
      have hcm : codes6[j] ∈ codes6 := List.getElem_mem hx
      have hft := fnd_here hx hno
      have hfn := fnd_next hx hno
      obtain ⟨c, hcj⟩ : ∃ c, codes6[j] = c := ⟨_, rfl⟩
      rw [hcj] at c1 hcm hft hfn
      have hcb : 0 ≤ c ∧ c ≤ 999 := by
        unfold codes6 at hcm
        simp only [List.mem_cons, List.not_mem_nil, or_false] at hcm
        omega
      have X0 : ∀ w, Calls Tryz.prog 30 #[rpV c ⟨#[]⟩ false] w (Ret w (.string ⟨(rpT c [] false).toArray⟩)) := fun w => r18_Text c ⟨#[]⟩ false w hcb.1 hcb.2 (by decide)
      obtain ⟨Y, hY⟩ : ∃ Y : ByteArray, ⟨(rpT c [] false).toArray⟩ = Y := ⟨_, rfl⟩
      have hYl : Y.data.toList = rpT c [] false := by rw [← hY]
      rw [hY] at X0
      have Y0 := fun w => r18_begins s Y w
      rw [hYl] at Y0
      have HX := Lib.hid X0
      have HC := Lib.hid hc
      have HV := Lib.hid hv
      have al := (Below.refl wr.heap.size wr).alloc (Nat.le_refl _) (.cells #[.int .i64 c, .string ⟨#[]⟩, .bool false] 23)
      have KC := Lib.hid (hc.ret al)
      have KV := Lib.hid (hv.ret al)
      have q1 := hB.trans (al.mono hB.size)
      have g1 : (j : Int) < 6 := by omega
      have g2 : (0 : Int) ≤ (j : Int) := by omega
      have KT := Lib.hid (RpAt.new wr (.int .i64 c) (.string ⟨#[]⟩) (.bool false))
      clear X0 hY hYl hcj hcm hno hc hv al hx hcb
      cases hp : (rpT c [] false).isPrefixOf s.data.toList with
      | true =>
        have hR : refR s.data.toList = some (c, [], false) := by rw [HDEF.out, hft hp]
        have HR := Lib.hid hR
        rw [hp] at Y0
        have HY := Lib.hid Y0
        clear Y0 hp hR hft hfn
        go_wp2_with fail
        refine (HX.out _).mono ?_
        rintro e w2 ⟨rfl, hb⟩
        have q2 := q1.trans (hb.mono q1.size)
        obtain ⟨y0, y1, y2, y3, y4, y5, y6⟩ := KC.out.ret hb
        obtain ⟨z0, z1, z2, z3, z4, z5, z6⟩ := KT.out.ret hb
        clear hb
        go_wp2_with fail
        refine (HY.out _).mono ?_
        rintro e w3 ⟨rfl, rfl⟩
        go_wp2_with fail
        refine bodyPost_ret (v := .tuple #[rpV c ⟨#[]⟩ false, .bool true]) (by simp (maxDischargeDepth := 9) [results, Tryz.results33, go_sem, *]) rfl ⟨c, ⟨#[]⟩, false, by rw [HR.out]; rfl, fun x h => (by rw [HR.out] at h; injection h with h; exact h.symm), ?_⟩
        repeat (first | with_reducible exact q2 | with_reducible refine Below.drew ?_ | with_reducible refine Below.setCell ?_ (by first | omega | (simp <;> omega)) _ | with_reducible refine Below.alloc ?_ (by first | omega | (simp <;> omega)) _)
      | false =>
        have HN := Lib.hid (hfn hp)
        rw [hp] at Y0
        have HY := Lib.hid Y0
        clear Y0 hp hft hfn
        go_wp2_with fail
        refine (HX.out _).mono ?_
        rintro e w2 ⟨rfl, hb⟩
        have q2 := q1.trans (hb.mono q1.size)
        have HC2 := Lib.hid (KC.out.ret hb)
        have HV2 := Lib.hid (KV.out.ret hb)
        clear hb
        go_wp2_with fail
        refine (HY.out _).mono ?_
        rintro e w3 ⟨rfl, rfl⟩
        go_wp2_with fail
        go_roundw
        case rel => exact ⟨j + 1, by omega, by go_num, HN.out, q2, HC2.out, HV2.out⟩
        case measure => simp [intOf]; omega
    · obtain rfl : j = 6 := by omega
      have hfull : codes6.find? (fun c => (rpT c [] false).isPrefixOf s.data.toList) = none := hno
      have hR : refR s.data.toList = (refW s.data.toList).map fun x => (200, x.1, x.2) := by rw [HDEF.out, hfull]
      have HR := Lib.hid hR
      have HC := Lib.hid hc
      clear hno hfull hR hc hv hlt
      go_wp2_with fail
      refine (WL.out _).mono ?_
      rintro e w2 ⟨st, B, k, rfl, hx, hb⟩
      have q2 := hB.trans (hb.mono hB.size)
      have HXX := Lib.hid hx
      obtain ⟨O, hO⟩ : ∃ O, (refW s.data.toList).isSome = O := ⟨_, rfl⟩
      have HOO : Hid ((refR s.data.toList).isSome = O) := Lib.hid (by rw [HR.out, Option.isSome_map, hO])
      rw [hO]
      obtain ⟨y0, y1, y2, y3, y4, y5, y6⟩ := HC.out.ret hb
      clear hb hx hO
      go_wp2_with fail
      refine bodyPost_ret (v := .tuple #[rpV st B k, .bool O]) (by simp (maxDischargeDepth := 9) [results, Tryz.results33, go_sem, *]) rfl ⟨st, B, k, by rw [HOO.out], fun x h => (by rw [HR.out] at h; obtain ⟨y, h1, h2⟩ := Option.map_eq_some_iff.1 h; obtain ⟨a, b, c⟩ := HXX.out y.1 y.2 h1; rw [← h2, a, b, c]), ?_⟩
      repeat (first | with_reducible exact q2 | with_reducible refine Below.drew ?_ | with_reducible refine Below.setCell ?_ (by first | omega | (simp <;> omega)) _ | with_reducible refine Below.alloc ?_ (by first | omega | (simp <;> omega)) _)
set_option maxHeartbeats 8000000 in
set_option maxRecDepth 100000 in
theorem r18_Read (s : ByteArray) (w : World) (hs : s.size ≤ 100000) : Calls Tryz.prog 11 #[.string s] w (Ret w (rdV (rpR s.data.toList))) := by
  have q0 := (Below.refl w.heap.size w).alloc (Nat.le_refl _) (.cells #[.int .i64 0, .string ⟨#[]⟩, .bool false] 23)
  have C0 := Lib.hid (RpAt.new w (.int .i64 0) (.string ⟨#[]⟩) (.bool false))
  have ON := Lib.hid fun w => r18_One s w hs
  have hRE := ref_eq s.data.toList
  cases hr : rpR s.data.toList with
  | none =>
    have HR := Lib.hid (hRE.trans hr)
    clear hRE hr
    go_enter Tryz.func11, Tryz.ntmps11
    go_wp2_with fail
    refine (ON.out _).mono ?_
    rintro e w1 ⟨st, B, k, rfl, hx, hb⟩
    rw [HR.out]
    have q1 := q0.trans (hb.mono q0.size)
    obtain ⟨y0, y1, y2, y3, y4, y5, y6⟩ := C0.out.ret hb
    clear hb hx
    go_wp2_with fail
    refine bodyPost_ret (v := .tuple #[rp0, .int .i64 0, .int .i64 180]) (by simp (maxDischargeDepth := 9) [results, Tryz.results11, go_sem, *]) rfl ⟨rfl, ?_⟩
    repeat (first | with_reducible exact q1 | with_reducible refine Below.drew ?_ | with_reducible refine Below.setCell ?_ (by first | omega | (simp <;> omega)) _ | with_reducible refine Below.alloc ?_ (by first | omega | (simp <;> omega)) _)
  | some x =>
    obtain ⟨c, b, kk⟩ := x
    have HR := Lib.hid (hRE.trans hr)
    have hmay := (rp_some hr).1
    have hsm := may_small hmay
    have hcd := rpMay_code hmay
    have hcb : 0 ≤ c ∧ c ≤ 999 := by
      unfold codes at hcd
      simp only [List.mem_cons, List.not_mem_nil, or_false] at hcd
      omega
    obtain ⟨B, hB⟩ : ∃ X : ByteArray, ⟨b.toArray⟩ = X := ⟨_, rfl⟩
    have hBl : B.data.toList = b := by rw [← hB]
    have zB : B.size ≤ 100000 := by rw [← size_toList, hBl]; omega
    have X0 := fun w => r18_Text c B kk w hcb.1 hcb.2 zB
    obtain ⟨Y, hY⟩ : ∃ Y : ByteArray, ⟨(rpT c B.data.toList kk).toArray⟩ = Y := ⟨_, rfl⟩
    have hYl : Y.size = (rpT c b kk).length := by rw [← size_toList, ← hY, hBl]
    rw [hY] at X0
    have XH := Lib.hid X0
    unfold rdV
    simp only [hB]
    rw [← hYl]
    have HB := Lib.hid hBl
    clear X0 hY hYl hBl hB hmay hsm hcd hcb hRE hr
    go_enter Tryz.func11, Tryz.ntmps11
    go_wp2_with fail
    refine (ON.out _).mono ?_
    rintro e w1 ⟨st, B', k, rfl, hx, hb⟩
    have hx2 := hx _ HR.out
    injection hx2 with e1 e2
    injection e2 with e2 e3
    have e4 : B' = B := str_ext (by rw [HB.out, e2])
    subst e1 e3 e4
    rw [HR.out]
    have q1 := q0.trans (hb.mono q0.size)
    have al := (Below.refl w1.heap.size w1).alloc (Nat.le_refl _) (.cells #[.int .i64 c, .string B', .bool kk] 23)
    have q2 := q1.trans (al.mono q1.size)
    have KC := Lib.hid ((C0.out.ret hb).ret al)
    have KT := Lib.hid (RpAt.new w1 (.int .i64 c) (.string B') (.bool kk))
    have hlt := (C0.out.ret hb).lt
    have hn1 : ¬ w1.heap.size = w.heap.size := by omega
    have hn2 : ¬ w.heap.size = w1.heap.size := by omega
    clear hb hx al e2
    obtain ⟨y0, y1, y2, y3, y4, y5, y6⟩ := KC.out
    obtain ⟨z0, z1, z2, z3, z4, z5, z6⟩ := KT.out
    go_wp2_with fail
    go_region_held3 (fun w' => w'.cell? ⟨w1.heap.size, 0, none⟩ = some (.int .i64 c) ∧ w'.cell? ⟨w1.heap.size, 1, none⟩ = some (.string B') ∧ w'.cell? ⟨w1.heap.size, 2, none⟩ = some (.bool kk)) (first | exact ⟨z1, z2, z3⟩ | (simp (maxDischargeDepth := 9) [go_sem, *])) (first | (go_at_call 30; refine (XH.out _).mono ?_; rintro e w5 ⟨rfl, hb5⟩; have b5 := bf_drew hb5; have q5 := q2.trans (b5.mono q2.size); clear y0 y1 y2 y3 y4 y5 y6 z0 z1 z2 z3 z4 z5 z6; obtain ⟨y0, y1, y2, y3, y4, y5, y6⟩ := KC.out.ret b5; obtain ⟨z0, z1, z2, z3, z4, z5, z6⟩ := KT.out.ret b5))
    go_wp2_with fail
    refine bodyPost_ret (v := .tuple #[rpV c B' kk, .int .i64 Y.size, .int .i64 0]) (by simp (maxDischargeDepth := 9) [results, Tryz.results11, go_sem, *]) rfl ⟨rfl, ?_⟩
    repeat (first | with_reducible exact q5 | with_reducible refine Below.drew ?_ | with_reducible refine Below.setCell ?_ (by first | omega | (simp <;> omega)) _ | with_reducible refine Below.alloc ?_ (by first | omega | (simp <;> omega)) _)
set_option maxHeartbeats 8000000 in
theorem r18_Write (st : Int) (B : ByteArray) (k : Bool) (w : World) (hz : B.size ≤ 100000) : Calls Tryz.prog 9 #[rpV st B k] w (Ret w (wpW st B.data.toList k)) := by
  have q0 := (Below.refl w.heap.size w).alloc (Nat.le_refl _) (.cells #[.int .i64 st, .string B, .bool k] 23)
  have A0 := Lib.hid (RpAt.new w (.int .i64 st) (.string B) (.bool k))
  have M0 := fun w => r18_May st B k w (by omega)
  unfold wpW
  cases hm : rpMay st B.data.toList k with
  | false =>
    rw [hm] at M0
    have MH := Lib.hid M0
    clear M0 hm
    obtain ⟨y0, y1, y2, y3, y4, y5, y6⟩ := A0.out
    go_enter Tryz.func9, Tryz.ntmps9
    go_wp2_with fail
    refine (MH.out _).mono ?_
    rintro e w1 ⟨rfl, hb⟩
    have q1 := q0.trans (hb.mono q0.size)
    go_wp2_with fail
    go_ret2
    exact ⟨rfl, q1⟩
  | true =>
    have hcd := rpMay_code hm
    have hcb : 0 ≤ st ∧ st ≤ 999 := by
      unfold codes at hcd
      simp only [List.mem_cons, List.not_mem_nil, or_false] at hcd
      omega
    have X0 := fun w => r18_Text st B k w hcb.1 hcb.2 hz
    rw [hm] at M0
    have MH := Lib.hid M0
    rw [if_pos rfl]
    obtain ⟨Y, hY⟩ : ∃ Y : ByteArray, ⟨(rpT st B.data.toList k).toArray⟩ = Y := ⟨_, rfl⟩
    rw [hY] at X0 ⊢
    have XH := Lib.hid X0
    clear M0 hm X0 hY hcd
    obtain ⟨y0, y1, y2, y3, y4, y5, y6⟩ := A0.out
    go_enter Tryz.func9, Tryz.ntmps9
    go_wp2_with fail
    refine (MH.out _).mono ?_
    rintro e w1 ⟨rfl, hb⟩
    have q1 := q0.trans (hb.mono q0.size)
    clear y0 y1 y2 y3 y4 y5 y6
    obtain ⟨y0, y1, y2, y3, y4, y5, y6⟩ := A0.out.ret hb
    clear hb
    go_wp2_with fail
    refine (XH.out _).mono ?_
    rintro e w2 ⟨rfl, hb⟩
    have q2 := q1.trans (hb.mono q1.size)
    go_wp2_with fail
    go_ret2
    exact ⟨rfl, q2⟩
end Go.Proofs.YthgmgmbjjjnhnaaGreatDoor
