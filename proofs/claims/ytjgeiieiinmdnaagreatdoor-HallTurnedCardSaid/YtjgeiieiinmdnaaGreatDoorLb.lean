/- HsA, HsB, HsC, HsD: put together by mergetpl.py. -/
import Derived.Test.YtjgeiieiinmdnaaGreatDoorLa
import Derived.Test.YtjgeiieiinmdnaaGreatDoorGa
import Derived.Test.YtjgeiieiinmdnaaGreatDoorKk
namespace Go.Proofs.YtjgeiieiinmdnaaGreatDoor
open Go.RowKit Go.Lib

abbrev ndG (p : NdI) : Value := .agg #[.int .u8 p.1.1, .string ⟨p.1.2.1.toArray⟩, .string ⟨p.1.2.2.1.toArray⟩, ndV p, .string ⟨p.1.2.2.2.2.1.toArray⟩, .int .i64 p.1.2.2.2.2.2]
abbrev atG (a : At) : Value := .agg #[.string ⟨a.1.toArray⟩, .string ⟨a.2.1.toArray⟩, .string ⟨a.2.2.toArray⟩]
/-- A function's value that answers q of each of these, from now on. -/
def PredL {α : Type} (val : α → Value) (f : Value) (q : α → Bool) (M : List α) (w : World) : Prop := ∃ g lb, f = .func (.func g) #[] lb ∧ (∀ args w, (callFunc g args).run Tryz.prog w = .ok (.enter g args) w) ∧ ∀ p ∈ M, ∀ W, Below w.heap.size w W → Calls Tryz.prog g (#[val p] ++ lb) W (Ret W (.bool (q p)))
/-- the place of the first; below 0: there is none. -/
def idxG {α : Type} (q : α → Bool) (L : List α) : Int := match L.findIdx? q with
 | some i => i
 | none => -1
theorem idxG_at {α : Type} {q : α → Bool} {L : List α} {k : Nat} (hk : k < L.length) (hn : (L.take k).any q = false) (h : q L[k] = true) : idxG q L = k := by
 unfold idxG
 have : L.findIdx? q = some k := by
  rw [List.findIdx?_eq_some_iff_getElem]
  refine ⟨hk, h, fun j hj => ?_⟩
  have := List.any_eq_false.1 hn (L[j]'(by omega)) (by
   rw [List.mem_iff_getElem]
   exact ⟨j, by rw [List.length_take]; omega, by rw [List.getElem_take]⟩)
  simpa using this
 rw [this]
theorem idxG_none {α : Type} {q : α → Bool} {L : List α} (h : L.any q = false) : idxG q L = -1 := by
 unfold idxG
 have : L.findIdx? q = none := by
  rw [List.findIdx?_eq_none_iff]
  intro x hx
  have := List.any_eq_false.1 h x hx
  simpa using this
 rw [this]
theorem idxG_any {α : Type} (q : α → Bool) (L : List α) : decide (0 ≤ idxG q L) = L.any q := by
 cases h : L.any q with
 | false => rw [idxG_none h]; rfl
 | true =>
  unfold idxG
  cases hf : L.findIdx? q with
  | none =>
   rw [List.findIdx?_eq_none_iff] at hf
   obtain ⟨x, hx, hq⟩ := List.any_eq_true.1 h
   rw [hf x hx] at hq
   cases hq
  | some i => exact decide_eq_true (Int.natCast_nonneg i)
set_option maxHeartbeats 2000000 in
set_option maxRecDepth 100000 in
theorem sl_Index_ac (v f : Value) (q : AcI → Bool) (M : List AcI) (w : World) (hv : IsL acY v M w) (hM : M.length ≤ 100000) (hf : PredL (fun x : AcI => x.v) f q M w) :
  Calls Tryz.prog 105 #[v, f] w (Ret w (.int .i64 (idxG q M))) := by
 obtain ⟨a, cap, hfo, -⟩ := hv.form
 obtain ⟨g, lb, rfl, eg, hg⟩ := hf
 obtain ⟨O, hO⟩ : ∃ O, idxG q M = O := ⟨_, rfl⟩
 obtain ⟨L, hL⟩ : ∃ L, M.length = L := ⟨_, rfl⟩
 rw [hL] at hfo hM
 rw [hO]
 subst hfo
 have HO := Lib.hid hO
 have HL := Lib.hid hL
 have HV := Lib.hid hv
 have HG := Lib.hid hg
 clear hO hL hv hg
 go_enter Tryz.func105, Tryz.ntmps105
 go_wp2_with fail
 go_loopw [8] (fun i wx => ∃ k : Nat, k ≤ L ∧ i = .int .i64 k ∧ (M.take k).any q = false ∧ Below w.heap.size w wx) (fun i _ => L - (intOf i).toNat)
 case atStart => exact ⟨0, Nat.zero_le _, rfl, rfl, Below.refl _ _⟩
 case round =>
  obtain ⟨k, hk, rfl, hany, hbw⟩ := hrel
  have hsz := hbw.size
  by_cases hlt : k < L
  ·have hkM : k < M.length := by rw [HL.out]; exact hlt
   obtain ⟨x, hx⟩ : ∃ x, M[k] = x := ⟨_, rfl⟩
   obtain ⟨b, off, cp, hf, -, hc⟩ := (HV.out.ret hbw).cells (k := k) (x := x) (by rw [List.getElem?_eq_getElem hkM, hx])
   rw [HL.out] at hf
   simp only [Value.slice.injEq, true_and] at hf
   obtain ⟨rfl, rfl⟩ := hf
   have hsn : (M.take (k + 1)).any q = q x := by
    rw [List.take_succ_eq_append_getElem hkM, List.any_append, hany, hx]
    simp
   have hat : q x = true → O = k := fun h => by rw [← HO.out]; exact idxG_at hkM hany (by rw [hx]; exact h)
   have hcall := HG.out x (by rw [← hx]; exact List.getElem_mem hkM) wr hbw
   have c0 : wr.cell? ⟨b, off + k * 3, none⟩ = some (.string ⟨x.j.toArray⟩) := hc wr (Below.refl _ _) 0 _ rfl
   have c1 : wr.cell? ⟨b, off + k * 3 + 1, none⟩ = some (x.iv) := hc wr (Below.refl _ _) 1 _ rfl
   have c2 : wr.cell? ⟨b, off + k * 3 + 2, none⟩ = some (.int .i64 x.ver) := hc wr (Below.refl _ _) 2 _ rfl
   have CH := Lib.hid hcall
   obtain ⟨y, hy⟩ : ∃ y, q x = y := ⟨_, rfl⟩
   rw [hy] at hsn hat CH
   have HS := Lib.hid hsn
   have HA := Lib.hid hat
   clear hc hsn hat hcall hx hy hany hkM
   cases y with
   | true =>
    have := HA.out (by first | exact rfl | exact trivial)
    subst this
    go_wp2_with (go_at_fn g; refine CH.out.mono ?_; rintro e w1 ⟨rfl, hb⟩)
    go_wp2_with fail
    go_ret
    exact ⟨rfl, hbw.trans (hb.mono hsz)⟩
   | false =>
    go_wp2_with (go_at_fn g; refine CH.out.mono ?_; rintro e w1 ⟨rfl, hb⟩)
    have hb2 := hbw.trans (hb.mono hsz)
    clear hb
    go_wp2_with fail
    go_roundw
    case rel => exact ⟨k + 1, by omega, by go_num, HS.out, hb2⟩
    case measure => simp [intOf]; omega
  ·have he : M.take k = M := List.take_of_length_le (by rw [HL.out]; omega)
   rw [he] at hany
   have : O = -1 := by rw [← HO.out]; exact idxG_none hany
   subst this
   clear he hany
   go_wp2_with fail
   go_ret
   exact ⟨rfl, hbw⟩
set_option maxHeartbeats 2000000 in
set_option maxRecDepth 100000 in
theorem sl_Index_rs (v f : Value) (q : RsI → Bool) (M : List RsI) (w : World) (hv : IsL rsY v M w) (hM : M.length ≤ 100000) (hf : PredL (fun x : RsI => x.v) f q M w) :
  Calls Tryz.prog 110 #[v, f] w (Ret w (.int .i64 (idxG q M))) := by
 obtain ⟨a, cap, hfo, -⟩ := hv.form
 obtain ⟨g, lb, rfl, eg, hg⟩ := hf
 obtain ⟨O, hO⟩ : ∃ O, idxG q M = O := ⟨_, rfl⟩
 obtain ⟨L, hL⟩ : ∃ L, M.length = L := ⟨_, rfl⟩
 rw [hL] at hfo hM
 rw [hO]
 subst hfo
 have HO := Lib.hid hO
 have HL := Lib.hid hL
 have HV := Lib.hid hv
 have HG := Lib.hid hg
 clear hO hL hv hg
 go_enter Tryz.func110, Tryz.ntmps110
 go_wp2_with fail
 go_loopw [8] (fun i wx => ∃ k : Nat, k ≤ L ∧ i = .int .i64 k ∧ (M.take k).any q = false ∧ Below w.heap.size w wx) (fun i _ => L - (intOf i).toNat)
 case atStart => exact ⟨0, Nat.zero_le _, rfl, rfl, Below.refl _ _⟩
 case round =>
  obtain ⟨k, hk, rfl, hany, hbw⟩ := hrel
  have hsz := hbw.size
  by_cases hlt : k < L
  ·have hkM : k < M.length := by rw [HL.out]; exact hlt
   obtain ⟨x, hx⟩ : ∃ x, M[k] = x := ⟨_, rfl⟩
   obtain ⟨b, off, cp, hf, -, hc⟩ := (HV.out.ret hbw).cells (k := k) (x := x) (by rw [List.getElem?_eq_getElem hkM, hx])
   rw [HL.out] at hf
   simp only [Value.slice.injEq, true_and] at hf
   obtain ⟨rfl, rfl⟩ := hf
   have hsn : (M.take (k + 1)).any q = q x := by
    rw [List.take_succ_eq_append_getElem hkM, List.any_append, hany, hx]
    simp
   have hat : q x = true → O = k := fun h => by rw [← HO.out]; exact idxG_at hkM hany (by rw [hx]; exact h)
   have hcall := HG.out x (by rw [← hx]; exact List.getElem_mem hkM) wr hbw
   have c0 : wr.cell? ⟨b, off + k * 6, none⟩ = some (.string ⟨x.j.toArray⟩) := hc wr (Below.refl _ _) 0 _ rfl
   have c1 : wr.cell? ⟨b, off + k * 6 + 1, none⟩ = some (.bool x.on) := hc wr (Below.refl _ _) 1 _ rfl
   have c2 : wr.cell? ⟨b, off + k * 6 + 2, none⟩ = some (.int .i64 x.pr) := hc wr (Below.refl _ _) 2 _ rfl
   have c3 : wr.cell? ⟨b, off + k * 6 + 3, none⟩ = some (x.lv) := hc wr (Below.refl _ _) 3 _ rfl
   have c4 : wr.cell? ⟨b, off + k * 6 + 4, none⟩ = some (.bool x.ask) := hc wr (Below.refl _ _) 4 _ rfl
   have c5 : wr.cell? ⟨b, off + k * 6 + 5, none⟩ = some (x.sv) := hc wr (Below.refl _ _) 5 _ rfl
   have CH := Lib.hid hcall
   obtain ⟨y, hy⟩ : ∃ y, q x = y := ⟨_, rfl⟩
   rw [hy] at hsn hat CH
   have HS := Lib.hid hsn
   have HA := Lib.hid hat
   clear hc hsn hat hcall hx hy hany hkM
   cases y with
   | true =>
    have := HA.out (by first | exact rfl | exact trivial)
    subst this
    go_wp2_with (go_at_fn g; refine CH.out.mono ?_; rintro e w1 ⟨rfl, hb⟩)
    go_wp2_with fail
    go_ret
    exact ⟨rfl, hbw.trans (hb.mono hsz)⟩
   | false =>
    go_wp2_with (go_at_fn g; refine CH.out.mono ?_; rintro e w1 ⟨rfl, hb⟩)
    have hb2 := hbw.trans (hb.mono hsz)
    clear hb
    go_wp2_with fail
    go_roundw
    case rel => exact ⟨k + 1, by omega, by go_num, HS.out, hb2⟩
    case measure => simp [intOf]; omega
  ·have he : M.take k = M := List.take_of_length_le (by rw [HL.out]; omega)
   rw [he] at hany
   have : O = -1 := by rw [← HO.out]; exact idxG_none hany
   subst this
   clear he hany
   go_wp2_with fail
   go_ret
   exact ⟨rfl, hbw⟩
theorem sl_Has_ac (v f : Value) (q : AcI → Bool) (M : List AcI) (w : World) (hv : IsL acY v M w) (hM : M.length ≤ 100000) (hf : PredL (fun x : AcI => x.v) f q M w) :
  Calls Tryz.prog 78 #[v, f] w (Ret w (.bool (M.any q))) := by
 have CI := sl_Index_ac v f q M w hv hM hf
 obtain ⟨a, cap, rfl, -⟩ := hv.form
 rw [← idxG_any]
 obtain ⟨O, hO⟩ : ∃ O, idxG q M = O := ⟨_, rfl⟩
 rw [hO] at CI ⊢
 have CI := Lib.hid CI
 clear hv hM hf hO
 by_cases h0 : 0 ≤ O
 ·have h1 : decide (0 ≤ O) = true := decide_eq_true h0
  go_enter Tryz.func78, Tryz.ntmps78
  go_wp2_with fail
  refine CI.out.mono ?_
  rintro e w1 ⟨rfl, hb⟩
  go_wp2_with fail
  go_ret
  exact ⟨by first | (rw [h1]; rfl) | simp [h1], hb⟩
 ·have h1 : decide (0 ≤ O) = false := decide_eq_false h0
  go_enter Tryz.func78, Tryz.ntmps78
  go_wp2_with fail
  refine CI.out.mono ?_
  rintro e w1 ⟨rfl, hb⟩
  go_wp2_with fail
  go_ret
  exact ⟨by first | (rw [h1]; rfl) | simp [h1], hb⟩
theorem sl_Has_rs (v f : Value) (q : RsI → Bool) (M : List RsI) (w : World) (hv : IsL rsY v M w) (hM : M.length ≤ 100000) (hf : PredL (fun x : RsI => x.v) f q M w) :
  Calls Tryz.prog 80 #[v, f] w (Ret w (.bool (M.any q))) := by
 have CI := sl_Index_rs v f q M w hv hM hf
 obtain ⟨a, cap, rfl, -⟩ := hv.form
 rw [← idxG_any]
 obtain ⟨O, hO⟩ : ∃ O, idxG q M = O := ⟨_, rfl⟩
 rw [hO] at CI ⊢
 have CI := Lib.hid CI
 clear hv hM hf hO
 by_cases h0 : 0 ≤ O
 ·have h1 : decide (0 ≤ O) = true := decide_eq_true h0
  go_enter Tryz.func80, Tryz.ntmps80
  go_wp2_with fail
  refine CI.out.mono ?_
  rintro e w1 ⟨rfl, hb⟩
  go_wp2_with fail
  go_ret
  exact ⟨by first | (rw [h1]; rfl) | simp [h1], hb⟩
 ·have h1 : decide (0 ≤ O) = false := decide_eq_false h0
  go_enter Tryz.func80, Tryz.ntmps80
  go_wp2_with fail
  refine CI.out.mono ?_
  rintro e w1 ⟨rfl, hb⟩
  go_wp2_with fail
  go_ret
  exact ⟨by first | (rw [h1]; rfl) | simp [h1], hb⟩
end Go.Proofs.YtjgeiieiinmdnaaGreatDoor
namespace Go.Proofs.YtjgeiieiinmdnaaGreatDoor
open Go.RowKit Go.Lib

set_option maxHeartbeats 2000000 in
set_option maxRecDepth 100000 in
theorem sl_Index_tr (v f : Value) (q : TrI → Bool) (M : List TrI) (w : World) (hv : IsL trY v M w) (hM : M.length ≤ 100000) (hf : PredL (fun x : TrI => trV x) f q M w) :
  Calls Tryz.prog 183 #[v, f] w (Ret w (.int .i64 (idxG q M))) := by
 obtain ⟨a, cap, hfo, -⟩ := hv.form
 obtain ⟨g, lb, rfl, eg, hg⟩ := hf
 obtain ⟨O, hO⟩ : ∃ O, idxG q M = O := ⟨_, rfl⟩
 obtain ⟨L, hL⟩ : ∃ L, M.length = L := ⟨_, rfl⟩
 rw [hL] at hfo hM
 rw [hO]
 subst hfo
 have HO := Lib.hid hO
 have HL := Lib.hid hL
 have HV := Lib.hid hv
 have HG := Lib.hid hg
 clear hO hL hv hg
 go_enter Tryz.func183, Tryz.ntmps183
 go_wp2_with fail
 go_loopw [8] (fun i wx => ∃ k : Nat, k ≤ L ∧ i = .int .i64 k ∧ (M.take k).any q = false ∧ Below w.heap.size w wx) (fun i _ => L - (intOf i).toNat)
 case atStart => exact ⟨0, Nat.zero_le _, rfl, rfl, Below.refl _ _⟩
 case round =>
  obtain ⟨k, hk, rfl, hany, hbw⟩ := hrel
  have hsz := hbw.size
  by_cases hlt : k < L
  ·have hkM : k < M.length := by rw [HL.out]; exact hlt
   obtain ⟨x, hx⟩ : ∃ x, M[k] = x := ⟨_, rfl⟩
   obtain ⟨b, off, cp, hf, -, hc⟩ := (HV.out.ret hbw).cells (k := k) (x := x) (by rw [List.getElem?_eq_getElem hkM, hx])
   rw [HL.out] at hf
   simp only [Value.slice.injEq, true_and] at hf
   obtain ⟨rfl, rfl⟩ := hf
   have hsn : (M.take (k + 1)).any q = q x := by
    rw [List.take_succ_eq_append_getElem hkM, List.any_append, hany, hx]
    simp
   have hat : q x = true → O = k := fun h => by rw [← HO.out]; exact idxG_at hkM hany (by rw [hx]; exact h)
   have hcall := HG.out x (by rw [← hx]; exact List.getElem_mem hkM) wr hbw
   have c0 : wr.cell? ⟨b, off + k, none⟩ = some (trV x) := by
    have h := hc wr (Below.refl _ _) 0 _ rfl
    rwa [show off + k * trY.n + 0 = off + k from (by show off + k * 1 + 0 = off + k; omega)] at h
   have CH := Lib.hid hcall
   obtain ⟨y, hy⟩ : ∃ y, q x = y := ⟨_, rfl⟩
   rw [hy] at hsn hat CH
   have HS := Lib.hid hsn
   have HA := Lib.hid hat
   clear hc hsn hat hcall hx hy hany hkM
   cases y with
   | true =>
    have := HA.out (by first | exact rfl | exact trivial)
    subst this
    go_wp2_with (go_at_fn g; refine CH.out.mono ?_; rintro e w1 ⟨rfl, hb⟩)
    go_wp2_with fail
    go_ret
    exact ⟨rfl, hbw.trans (hb.mono hsz)⟩
   | false =>
    go_wp2_with (go_at_fn g; refine CH.out.mono ?_; rintro e w1 ⟨rfl, hb⟩)
    have hb2 := hbw.trans (hb.mono hsz)
    clear hb
    go_wp2_with fail
    go_roundw
    case rel => exact ⟨k + 1, by omega, by go_num, HS.out, hb2⟩
    case measure => simp [intOf]; omega
  ·have he : M.take k = M := List.take_of_length_le (by rw [HL.out]; omega)
   rw [he] at hany
   have : O = -1 := by rw [← HO.out]; exact idxG_none hany
   subst this
   clear he hany
   go_wp2_with fail
   go_ret
   exact ⟨rfl, hbw⟩
set_option maxHeartbeats 2000000 in
set_option maxRecDepth 100000 in
theorem sl_Index_nd (v f : Value) (q : NdI → Bool) (M : List NdI) (w : World) (hv : IsL ndY v M w) (hM : M.length ≤ 100000) (hf : PredL (fun x : NdI => ndG x) f q M w) :
  Calls Tryz.prog 215 #[v, f] w (Ret w (.int .i64 (idxG q M))) := by
 obtain ⟨a, cap, hfo, -⟩ := hv.form
 obtain ⟨g, lb, rfl, eg, hg⟩ := hf
 obtain ⟨O, hO⟩ : ∃ O, idxG q M = O := ⟨_, rfl⟩
 obtain ⟨L, hL⟩ : ∃ L, M.length = L := ⟨_, rfl⟩
 rw [hL] at hfo hM
 rw [hO]
 subst hfo
 have HO := Lib.hid hO
 have HL := Lib.hid hL
 have HV := Lib.hid hv
 have HG := Lib.hid hg
 clear hO hL hv hg
 go_enter Tryz.func215, Tryz.ntmps215
 go_wp2_with fail
 go_loopw [8] (fun i wx => ∃ k : Nat, k ≤ L ∧ i = .int .i64 k ∧ (M.take k).any q = false ∧ Below w.heap.size w wx) (fun i _ => L - (intOf i).toNat)
 case atStart => exact ⟨0, Nat.zero_le _, rfl, rfl, Below.refl _ _⟩
 case round =>
  obtain ⟨k, hk, rfl, hany, hbw⟩ := hrel
  have hsz := hbw.size
  by_cases hlt : k < L
  ·have hkM : k < M.length := by rw [HL.out]; exact hlt
   obtain ⟨x, hx⟩ : ∃ x, M[k] = x := ⟨_, rfl⟩
   obtain ⟨b, off, cp, hf, -, hc⟩ := (HV.out.ret hbw).cells (k := k) (x := x) (by rw [List.getElem?_eq_getElem hkM, hx])
   rw [HL.out] at hf
   simp only [Value.slice.injEq, true_and] at hf
   obtain ⟨rfl, rfl⟩ := hf
   have hsn : (M.take (k + 1)).any q = q x := by
    rw [List.take_succ_eq_append_getElem hkM, List.any_append, hany, hx]
    simp
   have hat : q x = true → O = k := fun h => by rw [← HO.out]; exact idxG_at hkM hany (by rw [hx]; exact h)
   have hcall := HG.out x (by rw [← hx]; exact List.getElem_mem hkM) wr hbw
   have c0 : wr.cell? ⟨b, off + k * 6, none⟩ = some (.int .u8 x.1.1) := hc wr (Below.refl _ _) 0 _ rfl
   have c1 : wr.cell? ⟨b, off + k * 6 + 1, none⟩ = some (.string ⟨x.1.2.1.toArray⟩) := hc wr (Below.refl _ _) 1 _ rfl
   have c2 : wr.cell? ⟨b, off + k * 6 + 2, none⟩ = some (.string ⟨x.1.2.2.1.toArray⟩) := hc wr (Below.refl _ _) 2 _ rfl
   have c3 : wr.cell? ⟨b, off + k * 6 + 3, none⟩ = some (ndV x) := hc wr (Below.refl _ _) 3 _ rfl
   have c4 : wr.cell? ⟨b, off + k * 6 + 4, none⟩ = some (.string ⟨x.1.2.2.2.2.1.toArray⟩) := hc wr (Below.refl _ _) 4 _ rfl
   have c5 : wr.cell? ⟨b, off + k * 6 + 5, none⟩ = some (.int .i64 x.1.2.2.2.2.2) := hc wr (Below.refl _ _) 5 _ rfl
   have CH := Lib.hid hcall
   obtain ⟨y, hy⟩ : ∃ y, q x = y := ⟨_, rfl⟩
   rw [hy] at hsn hat CH
   have HS := Lib.hid hsn
   have HA := Lib.hid hat
   clear hc hsn hat hcall hx hy hany hkM
   cases y with
   | true =>
    have := HA.out (by first | exact rfl | exact trivial)
    subst this
    go_wp2_with (go_at_fn g; refine CH.out.mono ?_; rintro e w1 ⟨rfl, hb⟩)
    go_wp2_with fail
    go_ret
    exact ⟨rfl, hbw.trans (hb.mono hsz)⟩
   | false =>
    go_wp2_with (go_at_fn g; refine CH.out.mono ?_; rintro e w1 ⟨rfl, hb⟩)
    have hb2 := hbw.trans (hb.mono hsz)
    clear hb
    go_wp2_with fail
    go_roundw
    case rel => exact ⟨k + 1, by omega, by go_num, HS.out, hb2⟩
    case measure => simp [intOf]; omega
  ·have he : M.take k = M := List.take_of_length_le (by rw [HL.out]; omega)
   rw [he] at hany
   have : O = -1 := by rw [← HO.out]; exact idxG_none hany
   subst this
   clear he hany
   go_wp2_with fail
   go_ret
   exact ⟨rfl, hbw⟩
set_option maxHeartbeats 2000000 in
set_option maxRecDepth 100000 in
theorem sl_Index_at (v f : Value) (q : At → Bool) (M : List At) (w : World) (hv : IsL atY v M w) (hM : M.length ≤ 100000) (hf : PredL (fun x : At => atG x) f q M w) :
  Calls Tryz.prog 214 #[v, f] w (Ret w (.int .i64 (idxG q M))) := by
 obtain ⟨a, cap, hfo, -⟩ := hv.form
 obtain ⟨g, lb, rfl, eg, hg⟩ := hf
 obtain ⟨O, hO⟩ : ∃ O, idxG q M = O := ⟨_, rfl⟩
 obtain ⟨L, hL⟩ : ∃ L, M.length = L := ⟨_, rfl⟩
 rw [hL] at hfo hM
 rw [hO]
 subst hfo
 have HO := Lib.hid hO
 have HL := Lib.hid hL
 have HV := Lib.hid hv
 have HG := Lib.hid hg
 clear hO hL hv hg
 go_enter Tryz.func214, Tryz.ntmps214
 go_wp2_with fail
 go_loopw [8] (fun i wx => ∃ k : Nat, k ≤ L ∧ i = .int .i64 k ∧ (M.take k).any q = false ∧ Below w.heap.size w wx) (fun i _ => L - (intOf i).toNat)
 case atStart => exact ⟨0, Nat.zero_le _, rfl, rfl, Below.refl _ _⟩
 case round =>
  obtain ⟨k, hk, rfl, hany, hbw⟩ := hrel
  have hsz := hbw.size
  by_cases hlt : k < L
  ·have hkM : k < M.length := by rw [HL.out]; exact hlt
   obtain ⟨x, hx⟩ : ∃ x, M[k] = x := ⟨_, rfl⟩
   obtain ⟨b, off, cp, hf, -, hc⟩ := (HV.out.ret hbw).cells (k := k) (x := x) (by rw [List.getElem?_eq_getElem hkM, hx])
   rw [HL.out] at hf
   simp only [Value.slice.injEq, true_and] at hf
   obtain ⟨rfl, rfl⟩ := hf
   have hsn : (M.take (k + 1)).any q = q x := by
    rw [List.take_succ_eq_append_getElem hkM, List.any_append, hany, hx]
    simp
   have hat : q x = true → O = k := fun h => by rw [← HO.out]; exact idxG_at hkM hany (by rw [hx]; exact h)
   have hcall := HG.out x (by rw [← hx]; exact List.getElem_mem hkM) wr hbw
   have c0 : wr.cell? ⟨b, off + k * 3, none⟩ = some (.string ⟨x.1.toArray⟩) := hc wr (Below.refl _ _) 0 _ rfl
   have c1 : wr.cell? ⟨b, off + k * 3 + 1, none⟩ = some (.string ⟨x.2.1.toArray⟩) := hc wr (Below.refl _ _) 1 _ rfl
   have c2 : wr.cell? ⟨b, off + k * 3 + 2, none⟩ = some (.string ⟨x.2.2.toArray⟩) := hc wr (Below.refl _ _) 2 _ rfl
   have CH := Lib.hid hcall
   obtain ⟨y, hy⟩ : ∃ y, q x = y := ⟨_, rfl⟩
   rw [hy] at hsn hat CH
   have HS := Lib.hid hsn
   have HA := Lib.hid hat
   clear hc hsn hat hcall hx hy hany hkM
   cases y with
   | true =>
    have := HA.out (by first | exact rfl | exact trivial)
    subst this
    go_wp2_with (go_at_fn g; refine CH.out.mono ?_; rintro e w1 ⟨rfl, hb⟩)
    go_wp2_with fail
    go_ret
    exact ⟨rfl, hbw.trans (hb.mono hsz)⟩
   | false =>
    go_wp2_with (go_at_fn g; refine CH.out.mono ?_; rintro e w1 ⟨rfl, hb⟩)
    have hb2 := hbw.trans (hb.mono hsz)
    clear hb
    go_wp2_with fail
    go_roundw
    case rel => exact ⟨k + 1, by omega, by go_num, HS.out, hb2⟩
    case measure => simp [intOf]; omega
  ·have he : M.take k = M := List.take_of_length_le (by rw [HL.out]; omega)
   rw [he] at hany
   have : O = -1 := by rw [← HO.out]; exact idxG_none hany
   subst this
   clear he hany
   go_wp2_with fail
   go_ret
   exact ⟨rfl, hbw⟩
theorem sl_Has_tr (v f : Value) (q : TrI → Bool) (M : List TrI) (w : World) (hv : IsL trY v M w) (hM : M.length ≤ 100000) (hf : PredL (fun x : TrI => trV x) f q M w) :
  Calls Tryz.prog 136 #[v, f] w (Ret w (.bool (M.any q))) := by
 have CI := sl_Index_tr v f q M w hv hM hf
 obtain ⟨a, cap, rfl, -⟩ := hv.form
 rw [← idxG_any]
 obtain ⟨O, hO⟩ : ∃ O, idxG q M = O := ⟨_, rfl⟩
 rw [hO] at CI ⊢
 have CI := Lib.hid CI
 clear hv hM hf hO
 by_cases h0 : 0 ≤ O
 ·have h1 : decide (0 ≤ O) = true := decide_eq_true h0
  go_enter Tryz.func136, Tryz.ntmps136
  go_wp2_with fail
  refine CI.out.mono ?_
  rintro e w1 ⟨rfl, hb⟩
  go_wp2_with fail
  go_ret
  exact ⟨by first | (rw [h1]; rfl) | simp [h1], hb⟩
 ·have h1 : decide (0 ≤ O) = false := decide_eq_false h0
  go_enter Tryz.func136, Tryz.ntmps136
  go_wp2_with fail
  refine CI.out.mono ?_
  rintro e w1 ⟨rfl, hb⟩
  go_wp2_with fail
  go_ret
  exact ⟨by first | (rw [h1]; rfl) | simp [h1], hb⟩
theorem sl_Has_nd (v f : Value) (q : NdI → Bool) (M : List NdI) (w : World) (hv : IsL ndY v M w) (hM : M.length ≤ 100000) (hf : PredL (fun x : NdI => ndG x) f q M w) :
  Calls Tryz.prog 181 #[v, f] w (Ret w (.bool (M.any q))) := by
 have CI := sl_Index_nd v f q M w hv hM hf
 obtain ⟨a, cap, rfl, -⟩ := hv.form
 rw [← idxG_any]
 obtain ⟨O, hO⟩ : ∃ O, idxG q M = O := ⟨_, rfl⟩
 rw [hO] at CI ⊢
 have CI := Lib.hid CI
 clear hv hM hf hO
 by_cases h0 : 0 ≤ O
 ·have h1 : decide (0 ≤ O) = true := decide_eq_true h0
  go_enter Tryz.func181, Tryz.ntmps181
  go_wp2_with fail
  refine CI.out.mono ?_
  rintro e w1 ⟨rfl, hb⟩
  go_wp2_with fail
  go_ret
  exact ⟨by first | (rw [h1]; rfl) | simp [h1], hb⟩
 ·have h1 : decide (0 ≤ O) = false := decide_eq_false h0
  go_enter Tryz.func181, Tryz.ntmps181
  go_wp2_with fail
  refine CI.out.mono ?_
  rintro e w1 ⟨rfl, hb⟩
  go_wp2_with fail
  go_ret
  exact ⟨by first | (rw [h1]; rfl) | simp [h1], hb⟩
theorem sl_Has_at (v f : Value) (q : At → Bool) (M : List At) (w : World) (hv : IsL atY v M w) (hM : M.length ≤ 100000) (hf : PredL (fun x : At => atG x) f q M w) :
  Calls Tryz.prog 180 #[v, f] w (Ret w (.bool (M.any q))) := by
 have CI := sl_Index_at v f q M w hv hM hf
 obtain ⟨a, cap, rfl, -⟩ := hv.form
 rw [← idxG_any]
 obtain ⟨O, hO⟩ : ∃ O, idxG q M = O := ⟨_, rfl⟩
 rw [hO] at CI ⊢
 have CI := Lib.hid CI
 clear hv hM hf hO
 by_cases h0 : 0 ≤ O
 ·have h1 : decide (0 ≤ O) = true := decide_eq_true h0
  go_enter Tryz.func180, Tryz.ntmps180
  go_wp2_with fail
  refine CI.out.mono ?_
  rintro e w1 ⟨rfl, hb⟩
  go_wp2_with fail
  go_ret
  exact ⟨by first | (rw [h1]; rfl) | simp [h1], hb⟩
 ·have h1 : decide (0 ≤ O) = false := decide_eq_false h0
  go_enter Tryz.func180, Tryz.ntmps180
  go_wp2_with fail
  refine CI.out.mono ?_
  rintro e w1 ⟨rfl, hb⟩
  go_wp2_with fail
  go_ret
  exact ⟨by first | (rw [h1]; rfl) | simp [h1], hb⟩
end Go.Proofs.YtjgeiieiinmdnaaGreatDoor
namespace Go.Proofs.YtjgeiieiinmdnaaGreatDoor
open Go.RowKit Go.Lib

/-- a list's first level, in memory of the call's own. -/
def NewL {α : Type} (Y : Ly α) (w : World) (M : List α) (e : Ending) (w' : World) : Prop := ∃ a c, e = .returned (.slice a M.length c) ∧ w'.ownsRow w.heap.size Y.e Y.n (.slice a M.length c) M.length (Y.fl M) ∧ Below w.heap.size w w'
theorem IsL.none {α : Type} {Y : Ly α} {n cap : Nat} {M : List α} {w : World} (h : IsL Y (.slice none n cap) M w) : M = [] ∧ cap = 0 := by
 obtain ⟨⟨_, a, c, hv, h0, h1⟩, -, -⟩ := h
 simp only [Value.slice.injEq] at hv
 obtain ⟨rfl, _, rfl⟩ := hv
 refine ⟨?_, h0 rfl⟩
 rcases h1 with h1 | ⟨b, off, h1, _⟩
 ·exact List.eq_nil_of_length_eq_zero h1
 ·cases h1
theorem vinfo_ac : (Tryz.prog.info? 33).map (fun i => (i.zero, i.size, i.bytes)) = some (some (.agg #[.string ⟨#[]⟩, .slice none 0 0, .int .i64 0]), 3, 48) := by kernel_rfl
set_option maxHeartbeats 2000000 in
set_option maxRecDepth 100000 in
theorem sl_Clone_ac (v : Value) (M : List AcI) (w : World) (h : IsL acY v M w) (hz : M.length ≤ 100000) : Calls Tryz.prog 61 #[v] w (NewL acY w M) := by
 obtain ⟨a, cap, rfl, hcap⟩ := h.form
 have hrow : IsRow 3 (.slice a M.length cap) M.length (acY.fl M) w := h.1
 obtain ⟨i0, hi, hz0, hz1, hz2⟩ := info_parts vinfo_ac
 have q22 : ∀ (w : World) (a : Option Addr) (n c n' c' : Nat), (binOp .eql 22 (.slice a n c) (.slice none n' c')).run Tryz.prog w = .ok (.bool a.isNone) w := fun w a n c n' c' => Lib.run_eql_slice_nil w _ _ a n c n' c' Tryz.underlying22
 cases a with
 | none =>
  obtain ⟨h1, h2⟩ := IsL.none h
  subst h1
  simp only [List.length_nil] at h2 ⊢
  subst h2
  clear h hrow hcap
  go_enter Tryz.func61, Tryz.ntmps61
  go_wp2_with fail
  go_ret
  exact ⟨none, 0, rfl, World.ownsRow_nil _ _ _ _, Below.refl _ _⟩
 | some ad =>
  have hone := fl_oneC acY M
  have hNew : NewL acY w M = fun e w' => ∃ a c, e = .returned (.slice a M.length c) ∧ w'.ownsRow w.heap.size 33 3 (.slice a M.length c) M.length (acY.fl M) ∧ Below w.heap.size w w' := rfl
  rw [hNew]
  obtain ⟨L, hL⟩ : ∃ L, M.length = L := ⟨_, rfl⟩
  obtain ⟨X, hX⟩ : ∃ X, acY.fl M = X := ⟨_, rfl⟩
  rw [hL] at hrow hz hcap ⊢
  rw [hX] at hrow hone ⊢
  have HR := Lib.hid hrow
  have H1 := Lib.hid hone
  clear hX hone h hrow hL hNew
  go_enter Tryz.func61, Tryz.ntmps61
  go_wp2_with (at_builtin; refine Hid.out ?_)
  refine Lib.hid ?_
  refine wpList_app_row rfl _ _ _ rfl w.heap.size 33 i0 _ 3 48 Tryz.underlying22 hi hz0 hz1 hz2 rfl (by omega) _ 0 [] rfl (row_empty w (Nat.le_refl _)) (.slice (some ad) L cap) (by rfl) L X (HR.out.ret ((Below.refl _ _).alloc (Nat.le_refl _) _)) H1.out (by omega) (by omega) (by simp) ?_
  intro v' w' hown hgrow
  rw [Nat.zero_add, List.nil_append] at hown
  have hb := ((Below.refl w.heap.size w).alloc (Nat.le_refl _) (.cells #[] 33)).grown hgrow (by simp) (fun k hk => by cases hk; exact Nat.le_refl _)
  obtain ⟨a', c', rfl, _⟩ := row_form hown
  have HO := Lib.hid hown
  clear hown hgrow q22
  go_wp2_with fail
  go_ret
  exact ⟨a', c', rfl, HO.out, hb⟩
theorem vinfo_rs : (Tryz.prog.info? 38).map (fun i => (i.zero, i.size, i.bytes)) = some (some (.agg #[.string ⟨#[]⟩, .bool false, .int .i64 0, .slice none 0 0, .bool false, .slice none 0 0]), 6, 88) := by kernel_rfl
set_option maxHeartbeats 2000000 in
set_option maxRecDepth 100000 in
theorem sl_Clone_rs (v : Value) (M : List RsI) (w : World) (h : IsL rsY v M w) (hz : M.length ≤ 100000) : Calls Tryz.prog 62 #[v] w (NewL rsY w M) := by
 obtain ⟨a, cap, rfl, hcap⟩ := h.form
 have hrow : IsRow 6 (.slice a M.length cap) M.length (rsY.fl M) w := h.1
 obtain ⟨i0, hi, hz0, hz1, hz2⟩ := info_parts vinfo_rs
 have q22 : ∀ (w : World) (a : Option Addr) (n c n' c' : Nat), (binOp .eql 23 (.slice a n c) (.slice none n' c')).run Tryz.prog w = .ok (.bool a.isNone) w := fun w a n c n' c' => Lib.run_eql_slice_nil w _ _ a n c n' c' Tryz.underlying23
 cases a with
 | none =>
  obtain ⟨h1, h2⟩ := IsL.none h
  subst h1
  simp only [List.length_nil] at h2 ⊢
  subst h2
  clear h hrow hcap
  go_enter Tryz.func62, Tryz.ntmps62
  go_wp2_with fail
  go_ret
  exact ⟨none, 0, rfl, World.ownsRow_nil _ _ _ _, Below.refl _ _⟩
 | some ad =>
  have hone := fl_oneC rsY M
  have hNew : NewL rsY w M = fun e w' => ∃ a c, e = .returned (.slice a M.length c) ∧ w'.ownsRow w.heap.size 38 6 (.slice a M.length c) M.length (rsY.fl M) ∧ Below w.heap.size w w' := rfl
  rw [hNew]
  obtain ⟨L, hL⟩ : ∃ L, M.length = L := ⟨_, rfl⟩
  obtain ⟨X, hX⟩ : ∃ X, rsY.fl M = X := ⟨_, rfl⟩
  rw [hL] at hrow hz hcap ⊢
  rw [hX] at hrow hone ⊢
  have HR := Lib.hid hrow
  have H1 := Lib.hid hone
  clear hX hone h hrow hL hNew
  go_enter Tryz.func62, Tryz.ntmps62
  go_wp2_with (at_builtin; refine Hid.out ?_)
  refine Lib.hid ?_
  refine wpList_app_row rfl _ _ _ rfl w.heap.size 38 i0 _ 6 88 Tryz.underlying23 hi hz0 hz1 hz2 rfl (by omega) _ 0 [] rfl (row_empty w (Nat.le_refl _)) (.slice (some ad) L cap) (by rfl) L X (HR.out.ret ((Below.refl _ _).alloc (Nat.le_refl _) _)) H1.out (by omega) (by omega) (by simp) ?_
  intro v' w' hown hgrow
  rw [Nat.zero_add, List.nil_append] at hown
  have hb := ((Below.refl w.heap.size w).alloc (Nat.le_refl _) (.cells #[] 38)).grown hgrow (by simp) (fun k hk => by cases hk; exact Nat.le_refl _)
  obtain ⟨a', c', rfl, _⟩ := row_form hown
  have HO := Lib.hid hown
  clear hown hgrow q22
  go_wp2_with fail
  go_ret
  exact ⟨a', c', rfl, HO.out, hb⟩
theorem vinfo_nd : (Tryz.prog.info? 114).map (fun i => (i.zero, i.size, i.bytes)) = some (some (.agg #[.int .u8 0, .string ⟨#[]⟩, .string ⟨#[]⟩, .slice none 0 0, .string ⟨#[]⟩, .int .i64 0]), 6, 88) := by kernel_rfl
set_option maxHeartbeats 2000000 in
set_option maxRecDepth 100000 in
theorem sl_Clone_nd (v : Value) (M : List NdI) (w : World) (h : IsL ndY v M w) (hz : M.length ≤ 100000) : Calls Tryz.prog 163 #[v] w (NewL ndY w M) := by
 obtain ⟨a, cap, rfl, hcap⟩ := h.form
 have hrow : IsRow 6 (.slice a M.length cap) M.length (ndY.fl M) w := h.1
 obtain ⟨i0, hi, hz0, hz1, hz2⟩ := info_parts vinfo_nd
 have q22 : ∀ (w : World) (a : Option Addr) (n c n' c' : Nat), (binOp .eql 108 (.slice a n c) (.slice none n' c')).run Tryz.prog w = .ok (.bool a.isNone) w := fun w a n c n' c' => Lib.run_eql_slice_nil w _ _ a n c n' c' Tryz.underlying108
 cases a with
 | none =>
  obtain ⟨h1, h2⟩ := IsL.none h
  subst h1
  simp only [List.length_nil] at h2 ⊢
  subst h2
  clear h hrow hcap
  go_enter Tryz.func163, Tryz.ntmps163
  go_wp2_with fail
  go_ret
  exact ⟨none, 0, rfl, World.ownsRow_nil _ _ _ _, Below.refl _ _⟩
 | some ad =>
  have hone := fl_oneC ndY M
  have hNew : NewL ndY w M = fun e w' => ∃ a c, e = .returned (.slice a M.length c) ∧ w'.ownsRow w.heap.size 114 6 (.slice a M.length c) M.length (ndY.fl M) ∧ Below w.heap.size w w' := rfl
  rw [hNew]
  obtain ⟨L, hL⟩ : ∃ L, M.length = L := ⟨_, rfl⟩
  obtain ⟨X, hX⟩ : ∃ X, ndY.fl M = X := ⟨_, rfl⟩
  rw [hL] at hrow hz hcap ⊢
  rw [hX] at hrow hone ⊢
  have HR := Lib.hid hrow
  have H1 := Lib.hid hone
  clear hX hone h hrow hL hNew
  go_enter Tryz.func163, Tryz.ntmps163
  go_wp2_with (at_builtin; refine Hid.out ?_)
  refine Lib.hid ?_
  refine wpList_app_row rfl _ _ _ rfl w.heap.size 114 i0 _ 6 88 Tryz.underlying108 hi hz0 hz1 hz2 rfl (by omega) _ 0 [] rfl (row_empty w (Nat.le_refl _)) (.slice (some ad) L cap) (by rfl) L X (HR.out.ret ((Below.refl _ _).alloc (Nat.le_refl _) _)) H1.out (by omega) (by omega) (by simp) ?_
  intro v' w' hown hgrow
  rw [Nat.zero_add, List.nil_append] at hown
  have hb := ((Below.refl w.heap.size w).alloc (Nat.le_refl _) (.cells #[] 114)).grown hgrow (by simp) (fun k hk => by cases hk; exact Nat.le_refl _)
  obtain ⟨a', c', rfl, _⟩ := row_form hown
  have HO := Lib.hid hown
  clear hown hgrow q22
  go_wp2_with fail
  go_ret
  exact ⟨a', c', rfl, HO.out, hb⟩
theorem vinfo_at : (Tryz.prog.info? 160).map (fun i => (i.zero, i.size, i.bytes)) = some (some (.agg #[.string ⟨#[]⟩, .string ⟨#[]⟩, .string ⟨#[]⟩]), 3, 48) := by kernel_rfl
set_option maxHeartbeats 2000000 in
set_option maxRecDepth 100000 in
theorem sl_Clone_at (v : Value) (M : List At) (w : World) (h : IsL atY v M w) (hz : M.length ≤ 100000) : Calls Tryz.prog 164 #[v] w (NewL atY w M) := by
 obtain ⟨a, cap, rfl, hcap⟩ := h.form
 have hrow : IsRow 3 (.slice a M.length cap) M.length (atY.fl M) w := h.1
 obtain ⟨i0, hi, hz0, hz1, hz2⟩ := info_parts vinfo_at
 have q22 : ∀ (w : World) (a : Option Addr) (n c n' c' : Nat), (binOp .eql 112 (.slice a n c) (.slice none n' c')).run Tryz.prog w = .ok (.bool a.isNone) w := fun w a n c n' c' => Lib.run_eql_slice_nil w _ _ a n c n' c' Tryz.underlying112
 cases a with
 | none =>
  obtain ⟨h1, h2⟩ := IsL.none h
  subst h1
  simp only [List.length_nil] at h2 ⊢
  subst h2
  clear h hrow hcap
  go_enter Tryz.func164, Tryz.ntmps164
  go_wp2_with fail
  go_ret
  exact ⟨none, 0, rfl, World.ownsRow_nil _ _ _ _, Below.refl _ _⟩
 | some ad =>
  have hone := fl_oneC atY M
  have hNew : NewL atY w M = fun e w' => ∃ a c, e = .returned (.slice a M.length c) ∧ w'.ownsRow w.heap.size 160 3 (.slice a M.length c) M.length (atY.fl M) ∧ Below w.heap.size w w' := rfl
  rw [hNew]
  obtain ⟨L, hL⟩ : ∃ L, M.length = L := ⟨_, rfl⟩
  obtain ⟨X, hX⟩ : ∃ X, atY.fl M = X := ⟨_, rfl⟩
  rw [hL] at hrow hz hcap ⊢
  rw [hX] at hrow hone ⊢
  have HR := Lib.hid hrow
  have H1 := Lib.hid hone
  clear hX hone h hrow hL hNew
  go_enter Tryz.func164, Tryz.ntmps164
  go_wp2_with (at_builtin; refine Hid.out ?_)
  refine Lib.hid ?_
  refine wpList_app_row rfl _ _ _ rfl w.heap.size 160 i0 _ 3 48 Tryz.underlying112 hi hz0 hz1 hz2 rfl (by omega) _ 0 [] rfl (row_empty w (Nat.le_refl _)) (.slice (some ad) L cap) (by rfl) L X (HR.out.ret ((Below.refl _ _).alloc (Nat.le_refl _) _)) H1.out (by omega) (by omega) (by simp) ?_
  intro v' w' hown hgrow
  rw [Nat.zero_add, List.nil_append] at hown
  have hb := ((Below.refl w.heap.size w).alloc (Nat.le_refl _) (.cells #[] 160)).grown hgrow (by simp) (fun k hk => by cases hk; exact Nat.le_refl _)
  obtain ⟨a', c', rfl, _⟩ := row_form hown
  have HO := Lib.hid hown
  clear hown hgrow q22
  go_wp2_with fail
  go_ret
  exact ⟨a', c', rfl, HO.out, hb⟩
end Go.Proofs.YtjgeiieiinmdnaaGreatDoor
namespace Go.Proofs.YtjgeiieiinmdnaaGreatDoor
open Go.RowKit Go.Lib

/-- A function's value that holds each of these against a text, from now on. -/
def CmpL {α : Type} (val : α → Value) (f : Value) (t : ByteArray) (q : α → Int) (M : List α) (w : World) : Prop := ∃ g lb, f = .func (.func g) #[] lb ∧ (∀ args w, (callFunc g args).run Tryz.prog w = .ok (.enter g args) w) ∧ ∀ p ∈ M, ∀ W, Below w.heap.size w W → Calls Tryz.prog g (#[val p, .string t] ++ lb) W (Ret W (.int .i64 (q p)))
set_option maxHeartbeats 2000000 in
set_option maxRecDepth 100000 in
theorem sl_Search_ac (v f : Value) (t : ByteArray) (q : AcI → Int) (M : List AcI) (N : Nat) (F : Bool) (w : World) (hv : IsL acY v M w) (hM : M.length ≤ 100000) (hf : CmpL (fun x : AcI => x.v) f t q M w) (hN : N ≤ M.length)
  (hq : ∀ k (h : k < M.length), decide (q M[k] < 0) = decide (k < N)) (hF1 : ∀ (h : N < M.length), F = decide (q M[N] = 0)) (hF2 : ¬ N < M.length → F = false) :
  Calls Tryz.prog 117 #[v, .string t, f] w (Ret w (.tuple #[.int .i64 N, .bool F])) := by
 obtain ⟨a, cap, hfo, -⟩ := hv.form
 obtain ⟨g, lb, rfl, eg, hg⟩ := hf
 obtain ⟨L, hL⟩ : ∃ L, M.length = L := ⟨_, rfl⟩
 rw [hL] at hfo hM hN
 subst hfo
 have HL := Lib.hid hL
 have HV := Lib.hid hv
 have HG := Lib.hid hg
 have HQ := Lib.hid hq
 have F1 := Lib.hid hF1
 have F2 := Lib.hid hF2
 clear hL hv hg hq hF1 hF2
 go_enter Tryz.func117, Tryz.ntmps117
 go_wp2_with fail
 go_loopw [9, 10] (fun i j wx => ∃ lo hi : Nat, i = .int .i64 lo ∧ j = .int .i64 hi ∧ lo ≤ N ∧ N ≤ hi ∧ hi ≤ L ∧ Below w.heap.size w wx) (fun i j _ => (intOf j).toNat - (intOf i).toNat)
 case atStart => exact ⟨0, L, rfl, rfl, Nat.zero_le _, hN, Nat.le_refl _, Below.refl _ _⟩
 case round =>
  obtain ⟨lo, hi, rfl, rfl, h1, h2, h3, hbw⟩ := hrel
  have hsz := hbw.size
  by_cases hlt : lo < hi
  ·obtain ⟨m, hm⟩ : ∃ m, (lo + hi) / 2 = m := ⟨_, rfl⟩
   have hmi : (((lo : Int) + (hi : Int)) / 2) = (m : Int) := by omega
   have hm1 : lo ≤ m := by omega
   have hm2 : m < hi := by omega
   have hkM : m < M.length := by rw [HL.out]; omega
   have hmL : m < L := by omega
   obtain ⟨x, hx⟩ : ∃ x, M[m] = x := ⟨_, rfl⟩
   obtain ⟨b, off, cp, hf, -, hc⟩ := (HV.out.ret hbw).cells (k := m) (x := x) (by rw [List.getElem?_eq_getElem hkM, hx])
   rw [HL.out] at hf
   simp only [Value.slice.injEq, true_and] at hf
   obtain ⟨rfl, rfl⟩ := hf
   have hqm := HQ.out m hkM
   have hcall := HG.out x (by rw [← hx]; exact List.getElem_mem hkM) wr hbw
   have c0 : wr.cell? ⟨b, off + m * 3, none⟩ = some (.string ⟨x.j.toArray⟩) := hc wr (Below.refl _ _) 0 _ rfl
   have c1 : wr.cell? ⟨b, off + m * 3 + 1, none⟩ = some (x.iv) := hc wr (Below.refl _ _) 1 _ rfl
   have c2 : wr.cell? ⟨b, off + m * 3 + 2, none⟩ = some (.int .i64 x.ver) := hc wr (Below.refl _ _) 2 _ rfl
   rw [hx] at hqm
   obtain ⟨y, hy⟩ : ∃ y, q x = y := ⟨_, rfl⟩
   rw [hy] at hqm hcall
   have CH := Lib.hid hcall
   have HM := Lib.hid hm
   clear hc hx hy hcall hm hkM
   by_cases hyn : y < 0
   ·have hlN : m < N := by rw [decide_eq_true hyn] at hqm; exact of_decide_eq_true hqm.symm
    clear hqm
    go_wp2_with (go_at_fn g; refine CH.out.mono ?_; rintro e w1 ⟨rfl, hb⟩)
    have hb2 := hbw.trans (hb.mono hsz)
    clear hb
    go_wp2_with fail
    go_roundw
    case rel => exact ⟨m + 1, hi, by first | rfl | go_num, rfl, hlN, h2, h3, hb2⟩
    case measure => simp [intOf]; omega
   ·have hlN : N ≤ m := by rw [decide_eq_false hyn] at hqm; have := of_decide_eq_false hqm.symm; omega
    clear hqm
    go_wp2_with (go_at_fn g; refine CH.out.mono ?_; rintro e w1 ⟨rfl, hb⟩)
    have hb2 := hbw.trans (hb.mono hsz)
    clear hb
    go_wp2_with fail
    go_roundw
    case rel => exact ⟨lo, m, rfl, by first | rfl | go_num, h1, hlN, by omega, hb2⟩
    case measure => simp [intOf]; omega
  ·obtain rfl : lo = N := by omega
   obtain rfl : hi = lo := by omega
   by_cases hNL : hi < L
   ·have hkM : hi < M.length := by rw [HL.out]; exact hNL
    obtain ⟨x, hx⟩ : ∃ x, M[hi] = x := ⟨_, rfl⟩
    obtain ⟨b, off, cp, hf, -, hc⟩ := (HV.out.ret hbw).cells (k := hi) (x := x) (by rw [List.getElem?_eq_getElem hkM, hx])
    rw [HL.out] at hf
    simp only [Value.slice.injEq, true_and] at hf
    obtain ⟨rfl, rfl⟩ := hf
    have hF := F1.out hkM
    have hcall := HG.out x (by rw [← hx]; exact List.getElem_mem hkM) wr hbw
    have c0 : wr.cell? ⟨b, off + hi * 3, none⟩ = some (.string ⟨x.j.toArray⟩) := hc wr (Below.refl _ _) 0 _ rfl
    have c1 : wr.cell? ⟨b, off + hi * 3 + 1, none⟩ = some (x.iv) := hc wr (Below.refl _ _) 1 _ rfl
    have c2 : wr.cell? ⟨b, off + hi * 3 + 2, none⟩ = some (.int .i64 x.ver) := hc wr (Below.refl _ _) 2 _ rfl
    rw [hx] at hF
    obtain ⟨y, hy⟩ : ∃ y, q x = y := ⟨_, rfl⟩
    rw [hy] at hF hcall
    have CH := Lib.hid hcall
    have HF := Lib.hid hF
    clear hc hx hy hcall hF hkM
    by_cases hyn : y = 0
    ·go_wp2_with (go_at_fn g; refine CH.out.mono ?_; rintro e w1 ⟨rfl, hb⟩)
     have hb2 := hbw.trans (hb.mono hsz)
     clear hb
     go_wp2_with fail
     go_ret2
     exact ⟨by rw [HF.out]; first | rfl | simp [hyn], hb2⟩
    ·go_wp2_with (go_at_fn g; refine CH.out.mono ?_; rintro e w1 ⟨rfl, hb⟩)
     have hb2 := hbw.trans (hb.mono hsz)
     clear hb
     go_wp2_with fail
     go_ret2
     exact ⟨by rw [HF.out]; first | rfl | simp [hyn], hb2⟩
   ·have hF := F2.out (by rw [HL.out]; exact hNL)
    subst hF
    go_wp2_with fail
    go_ret2
    exact ⟨rfl, hbw⟩
set_option maxHeartbeats 2000000 in
set_option maxRecDepth 100000 in
theorem sl_Search_rs (v f : Value) (t : ByteArray) (q : RsI → Int) (M : List RsI) (N : Nat) (F : Bool) (w : World) (hv : IsL rsY v M w) (hM : M.length ≤ 100000) (hf : CmpL (fun x : RsI => x.v) f t q M w) (hN : N ≤ M.length)
  (hq : ∀ k (h : k < M.length), decide (q M[k] < 0) = decide (k < N)) (hF1 : ∀ (h : N < M.length), F = decide (q M[N] = 0)) (hF2 : ¬ N < M.length → F = false) :
  Calls Tryz.prog 153 #[v, .string t, f] w (Ret w (.tuple #[.int .i64 N, .bool F])) := by
 obtain ⟨a, cap, hfo, -⟩ := hv.form
 obtain ⟨g, lb, rfl, eg, hg⟩ := hf
 obtain ⟨L, hL⟩ : ∃ L, M.length = L := ⟨_, rfl⟩
 rw [hL] at hfo hM hN
 subst hfo
 have HL := Lib.hid hL
 have HV := Lib.hid hv
 have HG := Lib.hid hg
 have HQ := Lib.hid hq
 have F1 := Lib.hid hF1
 have F2 := Lib.hid hF2
 clear hL hv hg hq hF1 hF2
 go_enter Tryz.func153, Tryz.ntmps153
 go_wp2_with fail
 go_loopw [9, 10] (fun i j wx => ∃ lo hi : Nat, i = .int .i64 lo ∧ j = .int .i64 hi ∧ lo ≤ N ∧ N ≤ hi ∧ hi ≤ L ∧ Below w.heap.size w wx) (fun i j _ => (intOf j).toNat - (intOf i).toNat)
 case atStart => exact ⟨0, L, rfl, rfl, Nat.zero_le _, hN, Nat.le_refl _, Below.refl _ _⟩
 case round =>
  obtain ⟨lo, hi, rfl, rfl, h1, h2, h3, hbw⟩ := hrel
  have hsz := hbw.size
  by_cases hlt : lo < hi
  ·obtain ⟨m, hm⟩ : ∃ m, (lo + hi) / 2 = m := ⟨_, rfl⟩
   have hmi : (((lo : Int) + (hi : Int)) / 2) = (m : Int) := by omega
   have hm1 : lo ≤ m := by omega
   have hm2 : m < hi := by omega
   have hkM : m < M.length := by rw [HL.out]; omega
   have hmL : m < L := by omega
   obtain ⟨x, hx⟩ : ∃ x, M[m] = x := ⟨_, rfl⟩
   obtain ⟨b, off, cp, hf, -, hc⟩ := (HV.out.ret hbw).cells (k := m) (x := x) (by rw [List.getElem?_eq_getElem hkM, hx])
   rw [HL.out] at hf
   simp only [Value.slice.injEq, true_and] at hf
   obtain ⟨rfl, rfl⟩ := hf
   have hqm := HQ.out m hkM
   have hcall := HG.out x (by rw [← hx]; exact List.getElem_mem hkM) wr hbw
   have c0 : wr.cell? ⟨b, off + m * 6, none⟩ = some (.string ⟨x.j.toArray⟩) := hc wr (Below.refl _ _) 0 _ rfl
   have c1 : wr.cell? ⟨b, off + m * 6 + 1, none⟩ = some (.bool x.on) := hc wr (Below.refl _ _) 1 _ rfl
   have c2 : wr.cell? ⟨b, off + m * 6 + 2, none⟩ = some (.int .i64 x.pr) := hc wr (Below.refl _ _) 2 _ rfl
   have c3 : wr.cell? ⟨b, off + m * 6 + 3, none⟩ = some (x.lv) := hc wr (Below.refl _ _) 3 _ rfl
   have c4 : wr.cell? ⟨b, off + m * 6 + 4, none⟩ = some (.bool x.ask) := hc wr (Below.refl _ _) 4 _ rfl
   have c5 : wr.cell? ⟨b, off + m * 6 + 5, none⟩ = some (x.sv) := hc wr (Below.refl _ _) 5 _ rfl
   rw [hx] at hqm
   obtain ⟨y, hy⟩ : ∃ y, q x = y := ⟨_, rfl⟩
   rw [hy] at hqm hcall
   have CH := Lib.hid hcall
   have HM := Lib.hid hm
   clear hc hx hy hcall hm hkM
   by_cases hyn : y < 0
   ·have hlN : m < N := by rw [decide_eq_true hyn] at hqm; exact of_decide_eq_true hqm.symm
    clear hqm
    go_wp2_with (go_at_fn g; refine CH.out.mono ?_; rintro e w1 ⟨rfl, hb⟩)
    have hb2 := hbw.trans (hb.mono hsz)
    clear hb
    go_wp2_with fail
    go_roundw
    case rel => exact ⟨m + 1, hi, by first | rfl | go_num, rfl, hlN, h2, h3, hb2⟩
    case measure => simp [intOf]; omega
   ·have hlN : N ≤ m := by rw [decide_eq_false hyn] at hqm; have := of_decide_eq_false hqm.symm; omega
    clear hqm
    go_wp2_with (go_at_fn g; refine CH.out.mono ?_; rintro e w1 ⟨rfl, hb⟩)
    have hb2 := hbw.trans (hb.mono hsz)
    clear hb
    go_wp2_with fail
    go_roundw
    case rel => exact ⟨lo, m, rfl, by first | rfl | go_num, h1, hlN, by omega, hb2⟩
    case measure => simp [intOf]; omega
  ·obtain rfl : lo = N := by omega
   obtain rfl : hi = lo := by omega
   by_cases hNL : hi < L
   ·have hkM : hi < M.length := by rw [HL.out]; exact hNL
    obtain ⟨x, hx⟩ : ∃ x, M[hi] = x := ⟨_, rfl⟩
    obtain ⟨b, off, cp, hf, -, hc⟩ := (HV.out.ret hbw).cells (k := hi) (x := x) (by rw [List.getElem?_eq_getElem hkM, hx])
    rw [HL.out] at hf
    simp only [Value.slice.injEq, true_and] at hf
    obtain ⟨rfl, rfl⟩ := hf
    have hF := F1.out hkM
    have hcall := HG.out x (by rw [← hx]; exact List.getElem_mem hkM) wr hbw
    have c0 : wr.cell? ⟨b, off + hi * 6, none⟩ = some (.string ⟨x.j.toArray⟩) := hc wr (Below.refl _ _) 0 _ rfl
    have c1 : wr.cell? ⟨b, off + hi * 6 + 1, none⟩ = some (.bool x.on) := hc wr (Below.refl _ _) 1 _ rfl
    have c2 : wr.cell? ⟨b, off + hi * 6 + 2, none⟩ = some (.int .i64 x.pr) := hc wr (Below.refl _ _) 2 _ rfl
    have c3 : wr.cell? ⟨b, off + hi * 6 + 3, none⟩ = some (x.lv) := hc wr (Below.refl _ _) 3 _ rfl
    have c4 : wr.cell? ⟨b, off + hi * 6 + 4, none⟩ = some (.bool x.ask) := hc wr (Below.refl _ _) 4 _ rfl
    have c5 : wr.cell? ⟨b, off + hi * 6 + 5, none⟩ = some (x.sv) := hc wr (Below.refl _ _) 5 _ rfl
    rw [hx] at hF
    obtain ⟨y, hy⟩ : ∃ y, q x = y := ⟨_, rfl⟩
    rw [hy] at hF hcall
    have CH := Lib.hid hcall
    have HF := Lib.hid hF
    clear hc hx hy hcall hF hkM
    by_cases hyn : y = 0
    ·go_wp2_with (go_at_fn g; refine CH.out.mono ?_; rintro e w1 ⟨rfl, hb⟩)
     have hb2 := hbw.trans (hb.mono hsz)
     clear hb
     go_wp2_with fail
     go_ret2
     exact ⟨by rw [HF.out]; first | rfl | simp [hyn], hb2⟩
    ·go_wp2_with (go_at_fn g; refine CH.out.mono ?_; rintro e w1 ⟨rfl, hb⟩)
     have hb2 := hbw.trans (hb.mono hsz)
     clear hb
     go_wp2_with fail
     go_ret2
     exact ⟨by rw [HF.out]; first | rfl | simp [hyn], hb2⟩
   ·have hF := F2.out (by rw [HL.out]; exact hNL)
    subst hF
    go_wp2_with fail
    go_ret2
    exact ⟨rfl, hbw⟩
end Go.Proofs.YtjgeiieiinmdnaaGreatDoor
