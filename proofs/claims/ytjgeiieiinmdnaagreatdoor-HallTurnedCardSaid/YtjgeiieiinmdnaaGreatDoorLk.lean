/- HsE, HtB, HaR: put together by mergetpl.py. -/
import Derived.Test.YtjgeiieiinmdnaaGreatDoorLb
import Derived.Test.YtjgeiieiinmdnaaGreatDoorKm
import Derived.Test.YtjgeiieiinmdnaaGreatDoorRoSx
import Derived.Test.YtjgeiieiinmdnaaGreatDoorLd
import Derived.Test.YtjgeiieiinmdnaaGreatDoorVq
namespace Go.Proofs.YtjgeiieiinmdnaaGreatDoor
open Go.RowKit Go.Lib

instance atDec : DecidableEq At := by refine @instDecidableEqProd _ _ ?_ (@instDecidableEqProd _ _ ?_ ?_) <;> infer_instance
instance ndDec : DecidableEq Nd := by refine @instDecidableEqProd _ _ ?_ (@instDecidableEqProd _ _ ?_ (@instDecidableEqProd _ _ ?_ (@instDecidableEqProd _ _ ?_ (@instDecidableEqProd _ _ ?_ ?_)))) <;> infer_instance
instance reDec : DecidableEq Re := by refine @instDecidableEqProd _ _ ?_ (@instDecidableEqProd _ _ ?_ (@instDecidableEqProd _ _ ?_ (@instDecidableEqProd _ _ ?_ (@instDecidableEqProd _ _ ?_ ?_)))) <;> infer_instance
instance acDec : DecidableEq Ac := by refine @instDecidableEqProd _ _ ?_ (@instDecidableEqProd _ _ ?_ ?_) <;> infer_instance
/-- A function's value that tells whether two of these are the same, by d, from now on. -/
def EqL {α δ : Type} [DecidableEq δ] (val : α → Value) (d : α → δ) (f : Value) (M K : List α) (w : World) : Prop := ∃ g lb, f = .func (.func g) #[] lb ∧ (∀ args w, (callFunc g args).run Tryz.prog w = .ok (.enter g args) w) ∧ ∀ x ∈ M, ∀ y ∈ K, ∀ W, Below w.heap.size w W → Calls Tryz.prog g (#[val x, val y] ++ lb) W (Ret W (.bool (decide (d x = d y))))
theorem take_eqG {α : Type} {A B : List α} {k : Nat} (hA : k < A.length) (hB : k < B.length) (h : A.take k = B.take k) (he : A[k] = B[k]) : A.take (k + 1) = B.take (k + 1) := by
 rw [List.take_succ_eq_append_getElem hA, List.take_succ_eq_append_getElem hB, h, he]
theorem ne_atG {α : Type} {A B : List α} {k : Nat} (hA : k < A.length) (hB : k < B.length) (he : A[k] ≠ B[k]) : A ≠ B := fun h => by
 subst h
 exact he rfl
set_option maxHeartbeats 4000000 in
set_option maxRecDepth 100000 in
theorem sl_Equal_ac (v u f : Value) (M K : List AcI) (w : World) (hv : IsL acY v M w) (hu : IsL acY u K w) (hM : M.length ≤ 100000) (hK : K.length ≤ 100000) (hf : EqL (fun x : AcI => x.v) AcI.d f M K w) :
  Calls Tryz.prog 89 #[v, u, f] w (Ret w (.bool (decide (M.map AcI.d = K.map AcI.d)))) := by
 obtain ⟨a, ca, hf1, -⟩ := hv.form
 obtain ⟨b, cb, hf2, -⟩ := hu.form
 obtain ⟨g, lb, rfl, eg, hg⟩ := hf
 obtain ⟨O, hO⟩ : ∃ O, decide (M.map AcI.d = K.map AcI.d) = O := ⟨_, rfl⟩
 obtain ⟨L, hL⟩ : ∃ L, M.length = L := ⟨_, rfl⟩
 obtain ⟨L', hL'⟩ : ∃ L, K.length = L := ⟨_, rfl⟩
 rw [hL] at hf1 hM
 rw [hL'] at hf2 hK
 rw [hO]
 subst hf1 hf2
 by_cases hlen : L = L'
 ·subst hlen
  have HO := Lib.hid hO
  have HL := Lib.hid hL
  have HL' := Lib.hid hL'
  have HV := Lib.hid hv
  have HU := Lib.hid hu
  have HG := Lib.hid hg
  clear hO hL hL' hv hu hg
  go_enter Tryz.func89, Tryz.ntmps89
  go_wp2_with fail
  go_loopw [17] (fun i wx => ∃ k : Nat, k ≤ L ∧ i = .int .i64 k ∧ (M.map AcI.d).take k = (K.map AcI.d).take k ∧ Below w.heap.size w wx) (fun i _ => L - (intOf i).toNat)
  case atStart => exact ⟨0, Nat.zero_le _, rfl, rfl, Below.refl _ _⟩
  case round =>
   obtain ⟨k, hk, rfl, htk, hbw⟩ := hrel
   have hsz := hbw.size
   by_cases hlt : k < L
   ·have hkM : k < M.length := by rw [HL.out]; exact hlt
    have hkK : k < K.length := by rw [HL'.out]; exact hlt
    obtain ⟨x, hx⟩ : ∃ x, M[k] = x := ⟨_, rfl⟩
    obtain ⟨y, hy⟩ : ∃ y, K[k] = y := ⟨_, rfl⟩
    obtain ⟨B, off, cp, hf, -, hc⟩ := (HV.out.ret hbw).cells (k := k) (x := x) (by rw [List.getElem?_eq_getElem hkM, hx])
    rw [HL.out] at hf
    simp only [Value.slice.injEq, true_and] at hf
    obtain ⟨rfl, rfl⟩ := hf
    obtain ⟨B', off', cp', hf, -, he⟩ := (HU.out.ret hbw).cells (k := k) (x := y) (by rw [List.getElem?_eq_getElem hkK, hy])
    rw [HL'.out] at hf
    simp only [Value.slice.injEq, true_and] at hf
    obtain ⟨rfl, rfl⟩ := hf
    have hkm : k < (M.map AcI.d).length := by simpa using hkM
    have hkk : k < (K.map AcI.d).length := by simpa using hkK
    have hst : AcI.d x = AcI.d y → (M.map AcI.d).take (k + 1) = (K.map AcI.d).take (k + 1) := fun h => take_eqG hkm hkk htk (by rw [List.getElem_map, List.getElem_map, hx, hy]; exact h)
    have hno : AcI.d x ≠ AcI.d y → O = false := fun h => by
     rw [← HO.out]
     exact decide_eq_false (ne_atG hkm hkk (by rw [List.getElem_map, List.getElem_map, hx, hy]; exact h))
    have C := fun (w' : World) (hb : Below w.heap.size w w') => HG.out x (by rw [← hx]; exact List.getElem_mem hkM) y (by rw [← hy]; exact List.getElem_mem hkK) w' hb
    have c0 : wr.cell? ⟨B, off + k * 3, none⟩ = some (.string ⟨x.j.toArray⟩) := hc wr (Below.refl _ _) 0 _ rfl
    have c1 : wr.cell? ⟨B, off + k * 3 + 1, none⟩ = some (x.iv) := hc wr (Below.refl _ _) 1 _ rfl
    have c2 : wr.cell? ⟨B, off + k * 3 + 2, none⟩ = some (.int .i64 x.ver) := hc wr (Below.refl _ _) 2 _ rfl
    have al := (Below.refl wr.heap.size wr).alloc (Nat.le_refl _) (.cells #[.string ⟨x.j.toArray⟩, x.iv, .int .i64 x.ver] 33)
    have e0 : (wr.alloc (.cells #[.string ⟨x.j.toArray⟩, x.iv, .int .i64 x.ver] 33)).cell? ⟨B', off' + k * 3, none⟩ = some (.string ⟨y.j.toArray⟩) := he _ al 0 _ rfl
    have e1 : (wr.alloc (.cells #[.string ⟨x.j.toArray⟩, x.iv, .int .i64 x.ver] 33)).cell? ⟨B', off' + k * 3 + 1, none⟩ = some (y.iv) := he _ al 1 _ rfl
    have e2 : (wr.alloc (.cells #[.string ⟨x.j.toArray⟩, x.iv, .int .i64 x.ver] 33)).cell? ⟨B', off' + k * 3 + 2, none⟩ = some (.int .i64 y.ver) := he _ al 2 _ rfl
    clear hc he hx hy hkm hkk htk hkM hkK
    by_cases hq : AcI.d x = AcI.d y
    ·rw [decide_eq_true hq] at C
     have HT := Lib.hid (hst hq)
     have C := Lib.hid C
     clear hst hno hq
     have al2 := al.alloc al.size (.cells #[.string ⟨y.j.toArray⟩, y.iv, .int .i64 y.ver] 33)
     have CC := Lib.hid (C.out _ (hbw.trans (al2.mono hsz)))
     go_wp2_with (go_at_fn g; refine CC.out.mono ?_; rintro e w2 ⟨rfl, hb⟩)
     have q2 := (hbw.trans (al2.mono hsz)).trans (hb.mono (Nat.le_trans hsz al2.size))
     clear hb al2 al
     go_wp2_with fail
     go_roundw
     case rel => exact ⟨k + 1, by omega, by go_num, HT.out, q2⟩
     case measure => simp [intOf]; omega
    ·rw [decide_eq_false hq] at C
     have := hno hq
     subst this
     have C := Lib.hid C
     clear hst hno hq
     have al2 := al.alloc al.size (.cells #[.string ⟨y.j.toArray⟩, y.iv, .int .i64 y.ver] 33)
     have CC := Lib.hid (C.out _ (hbw.trans (al2.mono hsz)))
     go_wp2_with (go_at_fn g; refine CC.out.mono ?_; rintro e w2 ⟨rfl, hb⟩)
     have q2 := (hbw.trans (al2.mono hsz)).trans (hb.mono (Nat.le_trans hsz al2.size))
     clear hb al2 al
     go_wp2_with fail
     go_ret
     exact ⟨rfl, q2⟩
   ·have e1 : (M.map AcI.d).take k = M.map AcI.d := List.take_of_length_le (by rw [List.length_map, HL.out]; omega)
    have e2 : (K.map AcI.d).take k = K.map AcI.d := List.take_of_length_le (by rw [List.length_map, HL'.out]; omega)
    rw [e1, e2] at htk
    have : O = true := by rw [← HO.out]; exact decide_eq_true htk
    subst this
    clear e1 e2 htk
    go_wp2_with fail
    go_ret
    exact ⟨rfl, hbw⟩
 ·have : O = false := by
   rw [← hO]
   refine decide_eq_false fun h => hlen ?_
   have := congrArg List.length h
   rw [List.length_map, List.length_map, hL, hL'] at this
   exact this
  subst this
  have wl : ¬ (L : Int) = (L' : Int) := by omega
  clear hO hL hL' hv hu hg
  go_enter Tryz.func89, Tryz.ntmps89
  go_wp2_with fail
  go_ret
  exact ⟨rfl, Below.refl _ _⟩
set_option maxHeartbeats 4000000 in
set_option maxRecDepth 100000 in
theorem sl_Equal_rs (v u f : Value) (M K : List RsI) (w : World) (hv : IsL rsY v M w) (hu : IsL rsY u K w) (hM : M.length ≤ 100000) (hK : K.length ≤ 100000) (hf : EqL (fun x : RsI => x.v) RsI.d f M K w) :
  Calls Tryz.prog 90 #[v, u, f] w (Ret w (.bool (decide (M.map RsI.d = K.map RsI.d)))) := by
 obtain ⟨a, ca, hf1, -⟩ := hv.form
 obtain ⟨b, cb, hf2, -⟩ := hu.form
 obtain ⟨g, lb, rfl, eg, hg⟩ := hf
 obtain ⟨O, hO⟩ : ∃ O, decide (M.map RsI.d = K.map RsI.d) = O := ⟨_, rfl⟩
 obtain ⟨L, hL⟩ : ∃ L, M.length = L := ⟨_, rfl⟩
 obtain ⟨L', hL'⟩ : ∃ L, K.length = L := ⟨_, rfl⟩
 rw [hL] at hf1 hM
 rw [hL'] at hf2 hK
 rw [hO]
 subst hf1 hf2
 by_cases hlen : L = L'
 ·subst hlen
  have HO := Lib.hid hO
  have HL := Lib.hid hL
  have HL' := Lib.hid hL'
  have HV := Lib.hid hv
  have HU := Lib.hid hu
  have HG := Lib.hid hg
  clear hO hL hL' hv hu hg
  go_enter Tryz.func90, Tryz.ntmps90
  go_wp2_with fail
  go_loopw [17] (fun i wx => ∃ k : Nat, k ≤ L ∧ i = .int .i64 k ∧ (M.map RsI.d).take k = (K.map RsI.d).take k ∧ Below w.heap.size w wx) (fun i _ => L - (intOf i).toNat)
  case atStart => exact ⟨0, Nat.zero_le _, rfl, rfl, Below.refl _ _⟩
  case round =>
   obtain ⟨k, hk, rfl, htk, hbw⟩ := hrel
   have hsz := hbw.size
   by_cases hlt : k < L
   ·have hkM : k < M.length := by rw [HL.out]; exact hlt
    have hkK : k < K.length := by rw [HL'.out]; exact hlt
    obtain ⟨x, hx⟩ : ∃ x, M[k] = x := ⟨_, rfl⟩
    obtain ⟨y, hy⟩ : ∃ y, K[k] = y := ⟨_, rfl⟩
    obtain ⟨B, off, cp, hf, -, hc⟩ := (HV.out.ret hbw).cells (k := k) (x := x) (by rw [List.getElem?_eq_getElem hkM, hx])
    rw [HL.out] at hf
    simp only [Value.slice.injEq, true_and] at hf
    obtain ⟨rfl, rfl⟩ := hf
    obtain ⟨B', off', cp', hf, -, he⟩ := (HU.out.ret hbw).cells (k := k) (x := y) (by rw [List.getElem?_eq_getElem hkK, hy])
    rw [HL'.out] at hf
    simp only [Value.slice.injEq, true_and] at hf
    obtain ⟨rfl, rfl⟩ := hf
    have hkm : k < (M.map RsI.d).length := by simpa using hkM
    have hkk : k < (K.map RsI.d).length := by simpa using hkK
    have hst : RsI.d x = RsI.d y → (M.map RsI.d).take (k + 1) = (K.map RsI.d).take (k + 1) := fun h => take_eqG hkm hkk htk (by rw [List.getElem_map, List.getElem_map, hx, hy]; exact h)
    have hno : RsI.d x ≠ RsI.d y → O = false := fun h => by
     rw [← HO.out]
     exact decide_eq_false (ne_atG hkm hkk (by rw [List.getElem_map, List.getElem_map, hx, hy]; exact h))
    have C := fun (w' : World) (hb : Below w.heap.size w w') => HG.out x (by rw [← hx]; exact List.getElem_mem hkM) y (by rw [← hy]; exact List.getElem_mem hkK) w' hb
    have c0 : wr.cell? ⟨B, off + k * 6, none⟩ = some (.string ⟨x.j.toArray⟩) := hc wr (Below.refl _ _) 0 _ rfl
    have c1 : wr.cell? ⟨B, off + k * 6 + 1, none⟩ = some (.bool x.on) := hc wr (Below.refl _ _) 1 _ rfl
    have c2 : wr.cell? ⟨B, off + k * 6 + 2, none⟩ = some (.int .i64 x.pr) := hc wr (Below.refl _ _) 2 _ rfl
    have c3 : wr.cell? ⟨B, off + k * 6 + 3, none⟩ = some (x.lv) := hc wr (Below.refl _ _) 3 _ rfl
    have c4 : wr.cell? ⟨B, off + k * 6 + 4, none⟩ = some (.bool x.ask) := hc wr (Below.refl _ _) 4 _ rfl
    have c5 : wr.cell? ⟨B, off + k * 6 + 5, none⟩ = some (x.sv) := hc wr (Below.refl _ _) 5 _ rfl
    have al := (Below.refl wr.heap.size wr).alloc (Nat.le_refl _) (.cells #[.string ⟨x.j.toArray⟩, .bool x.on, .int .i64 x.pr, x.lv, .bool x.ask, x.sv] 38)
    have e0 : (wr.alloc (.cells #[.string ⟨x.j.toArray⟩, .bool x.on, .int .i64 x.pr, x.lv, .bool x.ask, x.sv] 38)).cell? ⟨B', off' + k * 6, none⟩ = some (.string ⟨y.j.toArray⟩) := he _ al 0 _ rfl
    have e1 : (wr.alloc (.cells #[.string ⟨x.j.toArray⟩, .bool x.on, .int .i64 x.pr, x.lv, .bool x.ask, x.sv] 38)).cell? ⟨B', off' + k * 6 + 1, none⟩ = some (.bool y.on) := he _ al 1 _ rfl
    have e2 : (wr.alloc (.cells #[.string ⟨x.j.toArray⟩, .bool x.on, .int .i64 x.pr, x.lv, .bool x.ask, x.sv] 38)).cell? ⟨B', off' + k * 6 + 2, none⟩ = some (.int .i64 y.pr) := he _ al 2 _ rfl
    have e3 : (wr.alloc (.cells #[.string ⟨x.j.toArray⟩, .bool x.on, .int .i64 x.pr, x.lv, .bool x.ask, x.sv] 38)).cell? ⟨B', off' + k * 6 + 3, none⟩ = some (y.lv) := he _ al 3 _ rfl
    have e4 : (wr.alloc (.cells #[.string ⟨x.j.toArray⟩, .bool x.on, .int .i64 x.pr, x.lv, .bool x.ask, x.sv] 38)).cell? ⟨B', off' + k * 6 + 4, none⟩ = some (.bool y.ask) := he _ al 4 _ rfl
    have e5 : (wr.alloc (.cells #[.string ⟨x.j.toArray⟩, .bool x.on, .int .i64 x.pr, x.lv, .bool x.ask, x.sv] 38)).cell? ⟨B', off' + k * 6 + 5, none⟩ = some (y.sv) := he _ al 5 _ rfl
    clear hc he hx hy hkm hkk htk hkM hkK
    by_cases hq : RsI.d x = RsI.d y
    ·rw [decide_eq_true hq] at C
     have HT := Lib.hid (hst hq)
     have C := Lib.hid C
     clear hst hno hq
     have al2 := al.alloc al.size (.cells #[.string ⟨y.j.toArray⟩, .bool y.on, .int .i64 y.pr, y.lv, .bool y.ask, y.sv] 38)
     have CC := Lib.hid (C.out _ (hbw.trans (al2.mono hsz)))
     go_wp2_with (go_at_fn g; refine CC.out.mono ?_; rintro e w2 ⟨rfl, hb⟩)
     have q2 := (hbw.trans (al2.mono hsz)).trans (hb.mono (Nat.le_trans hsz al2.size))
     clear hb al2 al
     go_wp2_with fail
     go_roundw
     case rel => exact ⟨k + 1, by omega, by go_num, HT.out, q2⟩
     case measure => simp [intOf]; omega
    ·rw [decide_eq_false hq] at C
     have := hno hq
     subst this
     have C := Lib.hid C
     clear hst hno hq
     have al2 := al.alloc al.size (.cells #[.string ⟨y.j.toArray⟩, .bool y.on, .int .i64 y.pr, y.lv, .bool y.ask, y.sv] 38)
     have CC := Lib.hid (C.out _ (hbw.trans (al2.mono hsz)))
     go_wp2_with (go_at_fn g; refine CC.out.mono ?_; rintro e w2 ⟨rfl, hb⟩)
     have q2 := (hbw.trans (al2.mono hsz)).trans (hb.mono (Nat.le_trans hsz al2.size))
     clear hb al2 al
     go_wp2_with fail
     go_ret
     exact ⟨rfl, q2⟩
   ·have e1 : (M.map RsI.d).take k = M.map RsI.d := List.take_of_length_le (by rw [List.length_map, HL.out]; omega)
    have e2 : (K.map RsI.d).take k = K.map RsI.d := List.take_of_length_le (by rw [List.length_map, HL'.out]; omega)
    rw [e1, e2] at htk
    have : O = true := by rw [← HO.out]; exact decide_eq_true htk
    subst this
    clear e1 e2 htk
    go_wp2_with fail
    go_ret
    exact ⟨rfl, hbw⟩
 ·have : O = false := by
   rw [← hO]
   refine decide_eq_false fun h => hlen ?_
   have := congrArg List.length h
   rw [List.length_map, List.length_map, hL, hL'] at this
   exact this
  subst this
  have wl : ¬ (L : Int) = (L' : Int) := by omega
  clear hO hL hL' hv hu hg
  go_enter Tryz.func90, Tryz.ntmps90
  go_wp2_with fail
  go_ret
  exact ⟨rfl, Below.refl _ _⟩
set_option maxHeartbeats 4000000 in
set_option maxRecDepth 100000 in
theorem sl_Equal_nd (v u f : Value) (M K : List NdI) (w : World) (hv : IsL ndY v M w) (hu : IsL ndY u K w) (hM : M.length ≤ 100000) (hK : K.length ≤ 100000) (hf : EqL (fun x : NdI => ndG x) Prod.fst f M K w) :
  Calls Tryz.prog 184 #[v, u, f] w (Ret w (.bool (decide (M.map Prod.fst = K.map Prod.fst)))) := by
 obtain ⟨a, ca, hf1, -⟩ := hv.form
 obtain ⟨b, cb, hf2, -⟩ := hu.form
 obtain ⟨g, lb, rfl, eg, hg⟩ := hf
 obtain ⟨O, hO⟩ : ∃ O, decide (M.map Prod.fst = K.map Prod.fst) = O := ⟨_, rfl⟩
 obtain ⟨L, hL⟩ : ∃ L, M.length = L := ⟨_, rfl⟩
 obtain ⟨L', hL'⟩ : ∃ L, K.length = L := ⟨_, rfl⟩
 rw [hL] at hf1 hM
 rw [hL'] at hf2 hK
 rw [hO]
 subst hf1 hf2
 by_cases hlen : L = L'
 ·subst hlen
  have HO := Lib.hid hO
  have HL := Lib.hid hL
  have HL' := Lib.hid hL'
  have HV := Lib.hid hv
  have HU := Lib.hid hu
  have HG := Lib.hid hg
  clear hO hL hL' hv hu hg
  go_enter Tryz.func184, Tryz.ntmps184
  go_wp2_with fail
  go_loopw [17] (fun i wx => ∃ k : Nat, k ≤ L ∧ i = .int .i64 k ∧ (M.map Prod.fst).take k = (K.map Prod.fst).take k ∧ Below w.heap.size w wx) (fun i _ => L - (intOf i).toNat)
  case atStart => exact ⟨0, Nat.zero_le _, rfl, rfl, Below.refl _ _⟩
  case round =>
   obtain ⟨k, hk, rfl, htk, hbw⟩ := hrel
   have hsz := hbw.size
   by_cases hlt : k < L
   ·have hkM : k < M.length := by rw [HL.out]; exact hlt
    have hkK : k < K.length := by rw [HL'.out]; exact hlt
    obtain ⟨x, hx⟩ : ∃ x, M[k] = x := ⟨_, rfl⟩
    obtain ⟨y, hy⟩ : ∃ y, K[k] = y := ⟨_, rfl⟩
    obtain ⟨B, off, cp, hf, -, hc⟩ := (HV.out.ret hbw).cells (k := k) (x := x) (by rw [List.getElem?_eq_getElem hkM, hx])
    rw [HL.out] at hf
    simp only [Value.slice.injEq, true_and] at hf
    obtain ⟨rfl, rfl⟩ := hf
    obtain ⟨B', off', cp', hf, -, he⟩ := (HU.out.ret hbw).cells (k := k) (x := y) (by rw [List.getElem?_eq_getElem hkK, hy])
    rw [HL'.out] at hf
    simp only [Value.slice.injEq, true_and] at hf
    obtain ⟨rfl, rfl⟩ := hf
    have hkm : k < (M.map Prod.fst).length := by simpa using hkM
    have hkk : k < (K.map Prod.fst).length := by simpa using hkK
    have hst : Prod.fst x = Prod.fst y → (M.map Prod.fst).take (k + 1) = (K.map Prod.fst).take (k + 1) := fun h => take_eqG hkm hkk htk (by rw [List.getElem_map, List.getElem_map, hx, hy]; exact h)
    have hno : Prod.fst x ≠ Prod.fst y → O = false := fun h => by
     rw [← HO.out]
     exact decide_eq_false (ne_atG hkm hkk (by rw [List.getElem_map, List.getElem_map, hx, hy]; exact h))
    have C := fun (w' : World) (hb : Below w.heap.size w w') => HG.out x (by rw [← hx]; exact List.getElem_mem hkM) y (by rw [← hy]; exact List.getElem_mem hkK) w' hb
    have c0 : wr.cell? ⟨B, off + k * 6, none⟩ = some (.int .u8 x.1.1) := hc wr (Below.refl _ _) 0 _ rfl
    have c1 : wr.cell? ⟨B, off + k * 6 + 1, none⟩ = some (.string ⟨x.1.2.1.toArray⟩) := hc wr (Below.refl _ _) 1 _ rfl
    have c2 : wr.cell? ⟨B, off + k * 6 + 2, none⟩ = some (.string ⟨x.1.2.2.1.toArray⟩) := hc wr (Below.refl _ _) 2 _ rfl
    have c3 : wr.cell? ⟨B, off + k * 6 + 3, none⟩ = some (ndV x) := hc wr (Below.refl _ _) 3 _ rfl
    have c4 : wr.cell? ⟨B, off + k * 6 + 4, none⟩ = some (.string ⟨x.1.2.2.2.2.1.toArray⟩) := hc wr (Below.refl _ _) 4 _ rfl
    have c5 : wr.cell? ⟨B, off + k * 6 + 5, none⟩ = some (.int .i64 x.1.2.2.2.2.2) := hc wr (Below.refl _ _) 5 _ rfl
    have al := (Below.refl wr.heap.size wr).alloc (Nat.le_refl _) (.cells #[.int .u8 x.1.1, .string ⟨x.1.2.1.toArray⟩, .string ⟨x.1.2.2.1.toArray⟩, ndV x, .string ⟨x.1.2.2.2.2.1.toArray⟩, .int .i64 x.1.2.2.2.2.2] 114)
    have e0 : (wr.alloc (.cells #[.int .u8 x.1.1, .string ⟨x.1.2.1.toArray⟩, .string ⟨x.1.2.2.1.toArray⟩, ndV x, .string ⟨x.1.2.2.2.2.1.toArray⟩, .int .i64 x.1.2.2.2.2.2] 114)).cell? ⟨B', off' + k * 6, none⟩ = some (.int .u8 y.1.1) := he _ al 0 _ rfl
    have e1 : (wr.alloc (.cells #[.int .u8 x.1.1, .string ⟨x.1.2.1.toArray⟩, .string ⟨x.1.2.2.1.toArray⟩, ndV x, .string ⟨x.1.2.2.2.2.1.toArray⟩, .int .i64 x.1.2.2.2.2.2] 114)).cell? ⟨B', off' + k * 6 + 1, none⟩ = some (.string ⟨y.1.2.1.toArray⟩) := he _ al 1 _ rfl
    have e2 : (wr.alloc (.cells #[.int .u8 x.1.1, .string ⟨x.1.2.1.toArray⟩, .string ⟨x.1.2.2.1.toArray⟩, ndV x, .string ⟨x.1.2.2.2.2.1.toArray⟩, .int .i64 x.1.2.2.2.2.2] 114)).cell? ⟨B', off' + k * 6 + 2, none⟩ = some (.string ⟨y.1.2.2.1.toArray⟩) := he _ al 2 _ rfl
    have e3 : (wr.alloc (.cells #[.int .u8 x.1.1, .string ⟨x.1.2.1.toArray⟩, .string ⟨x.1.2.2.1.toArray⟩, ndV x, .string ⟨x.1.2.2.2.2.1.toArray⟩, .int .i64 x.1.2.2.2.2.2] 114)).cell? ⟨B', off' + k * 6 + 3, none⟩ = some (ndV y) := he _ al 3 _ rfl
    have e4 : (wr.alloc (.cells #[.int .u8 x.1.1, .string ⟨x.1.2.1.toArray⟩, .string ⟨x.1.2.2.1.toArray⟩, ndV x, .string ⟨x.1.2.2.2.2.1.toArray⟩, .int .i64 x.1.2.2.2.2.2] 114)).cell? ⟨B', off' + k * 6 + 4, none⟩ = some (.string ⟨y.1.2.2.2.2.1.toArray⟩) := he _ al 4 _ rfl
    have e5 : (wr.alloc (.cells #[.int .u8 x.1.1, .string ⟨x.1.2.1.toArray⟩, .string ⟨x.1.2.2.1.toArray⟩, ndV x, .string ⟨x.1.2.2.2.2.1.toArray⟩, .int .i64 x.1.2.2.2.2.2] 114)).cell? ⟨B', off' + k * 6 + 5, none⟩ = some (.int .i64 y.1.2.2.2.2.2) := he _ al 5 _ rfl
    clear hc he hx hy hkm hkk htk hkM hkK
    by_cases hq : Prod.fst x = Prod.fst y
    ·rw [decide_eq_true hq] at C
     have HT := Lib.hid (hst hq)
     have C := Lib.hid C
     clear hst hno hq
     have al2 := al.alloc al.size (.cells #[.int .u8 y.1.1, .string ⟨y.1.2.1.toArray⟩, .string ⟨y.1.2.2.1.toArray⟩, ndV y, .string ⟨y.1.2.2.2.2.1.toArray⟩, .int .i64 y.1.2.2.2.2.2] 114)
     have CC := Lib.hid (C.out _ (hbw.trans (al2.mono hsz)))
     go_wp2_with (go_at_fn g; refine CC.out.mono ?_; rintro e w2 ⟨rfl, hb⟩)
     have q2 := (hbw.trans (al2.mono hsz)).trans (hb.mono (Nat.le_trans hsz al2.size))
     clear hb al2 al
     go_wp2_with fail
     go_roundw
     case rel => exact ⟨k + 1, by omega, by go_num, HT.out, q2⟩
     case measure => simp [intOf]; omega
    ·rw [decide_eq_false hq] at C
     have := hno hq
     subst this
     have C := Lib.hid C
     clear hst hno hq
     have al2 := al.alloc al.size (.cells #[.int .u8 y.1.1, .string ⟨y.1.2.1.toArray⟩, .string ⟨y.1.2.2.1.toArray⟩, ndV y, .string ⟨y.1.2.2.2.2.1.toArray⟩, .int .i64 y.1.2.2.2.2.2] 114)
     have CC := Lib.hid (C.out _ (hbw.trans (al2.mono hsz)))
     go_wp2_with (go_at_fn g; refine CC.out.mono ?_; rintro e w2 ⟨rfl, hb⟩)
     have q2 := (hbw.trans (al2.mono hsz)).trans (hb.mono (Nat.le_trans hsz al2.size))
     clear hb al2 al
     go_wp2_with fail
     go_ret
     exact ⟨rfl, q2⟩
   ·have e1 : (M.map Prod.fst).take k = M.map Prod.fst := List.take_of_length_le (by rw [List.length_map, HL.out]; omega)
    have e2 : (K.map Prod.fst).take k = K.map Prod.fst := List.take_of_length_le (by rw [List.length_map, HL'.out]; omega)
    rw [e1, e2] at htk
    have : O = true := by rw [← HO.out]; exact decide_eq_true htk
    subst this
    clear e1 e2 htk
    go_wp2_with fail
    go_ret
    exact ⟨rfl, hbw⟩
 ·have : O = false := by
   rw [← hO]
   refine decide_eq_false fun h => hlen ?_
   have := congrArg List.length h
   rw [List.length_map, List.length_map, hL, hL'] at this
   exact this
  subst this
  have wl : ¬ (L : Int) = (L' : Int) := by omega
  clear hO hL hL' hv hu hg
  go_enter Tryz.func184, Tryz.ntmps184
  go_wp2_with fail
  go_ret
  exact ⟨rfl, Below.refl _ _⟩
set_option maxHeartbeats 4000000 in
set_option maxRecDepth 100000 in
theorem sl_Equal_at (v u f : Value) (M K : List At) (w : World) (hv : IsL atY v M w) (hu : IsL atY u K w) (hM : M.length ≤ 100000) (hK : K.length ≤ 100000) (hf : EqL (fun x : At => atG x) id f M K w) :
  Calls Tryz.prog 185 #[v, u, f] w (Ret w (.bool (decide (M.map id = K.map id)))) := by
 obtain ⟨a, ca, hf1, -⟩ := hv.form
 obtain ⟨b, cb, hf2, -⟩ := hu.form
 obtain ⟨g, lb, rfl, eg, hg⟩ := hf
 obtain ⟨O, hO⟩ : ∃ O, decide (M.map id = K.map id) = O := ⟨_, rfl⟩
 obtain ⟨L, hL⟩ : ∃ L, M.length = L := ⟨_, rfl⟩
 obtain ⟨L', hL'⟩ : ∃ L, K.length = L := ⟨_, rfl⟩
 rw [hL] at hf1 hM
 rw [hL'] at hf2 hK
 rw [hO]
 subst hf1 hf2
 by_cases hlen : L = L'
 ·subst hlen
  have HO := Lib.hid hO
  have HL := Lib.hid hL
  have HL' := Lib.hid hL'
  have HV := Lib.hid hv
  have HU := Lib.hid hu
  have HG := Lib.hid hg
  clear hO hL hL' hv hu hg
  go_enter Tryz.func185, Tryz.ntmps185
  go_wp2_with fail
  go_loopw [17] (fun i wx => ∃ k : Nat, k ≤ L ∧ i = .int .i64 k ∧ (M.map id).take k = (K.map id).take k ∧ Below w.heap.size w wx) (fun i _ => L - (intOf i).toNat)
  case atStart => exact ⟨0, Nat.zero_le _, rfl, rfl, Below.refl _ _⟩
  case round =>
   obtain ⟨k, hk, rfl, htk, hbw⟩ := hrel
   have hsz := hbw.size
   by_cases hlt : k < L
   ·have hkM : k < M.length := by rw [HL.out]; exact hlt
    have hkK : k < K.length := by rw [HL'.out]; exact hlt
    obtain ⟨x, hx⟩ : ∃ x, M[k] = x := ⟨_, rfl⟩
    obtain ⟨y, hy⟩ : ∃ y, K[k] = y := ⟨_, rfl⟩
    obtain ⟨B, off, cp, hf, -, hc⟩ := (HV.out.ret hbw).cells (k := k) (x := x) (by rw [List.getElem?_eq_getElem hkM, hx])
    rw [HL.out] at hf
    simp only [Value.slice.injEq, true_and] at hf
    obtain ⟨rfl, rfl⟩ := hf
    obtain ⟨B', off', cp', hf, -, he⟩ := (HU.out.ret hbw).cells (k := k) (x := y) (by rw [List.getElem?_eq_getElem hkK, hy])
    rw [HL'.out] at hf
    simp only [Value.slice.injEq, true_and] at hf
    obtain ⟨rfl, rfl⟩ := hf
    have hkm : k < (M.map id).length := by simpa using hkM
    have hkk : k < (K.map id).length := by simpa using hkK
    have hst : id x = id y → (M.map id).take (k + 1) = (K.map id).take (k + 1) := fun h => take_eqG hkm hkk htk (by rw [List.getElem_map, List.getElem_map, hx, hy]; exact h)
    have hno : id x ≠ id y → O = false := fun h => by
     rw [← HO.out]
     exact decide_eq_false (ne_atG hkm hkk (by rw [List.getElem_map, List.getElem_map, hx, hy]; exact h))
    have C := fun (w' : World) (hb : Below w.heap.size w w') => HG.out x (by rw [← hx]; exact List.getElem_mem hkM) y (by rw [← hy]; exact List.getElem_mem hkK) w' hb
    have c0 : wr.cell? ⟨B, off + k * 3, none⟩ = some (.string ⟨x.1.toArray⟩) := hc wr (Below.refl _ _) 0 _ rfl
    have c1 : wr.cell? ⟨B, off + k * 3 + 1, none⟩ = some (.string ⟨x.2.1.toArray⟩) := hc wr (Below.refl _ _) 1 _ rfl
    have c2 : wr.cell? ⟨B, off + k * 3 + 2, none⟩ = some (.string ⟨x.2.2.toArray⟩) := hc wr (Below.refl _ _) 2 _ rfl
    have al := (Below.refl wr.heap.size wr).alloc (Nat.le_refl _) (.cells #[.string ⟨x.1.toArray⟩, .string ⟨x.2.1.toArray⟩, .string ⟨x.2.2.toArray⟩] 160)
    have e0 : (wr.alloc (.cells #[.string ⟨x.1.toArray⟩, .string ⟨x.2.1.toArray⟩, .string ⟨x.2.2.toArray⟩] 160)).cell? ⟨B', off' + k * 3, none⟩ = some (.string ⟨y.1.toArray⟩) := he _ al 0 _ rfl
    have e1 : (wr.alloc (.cells #[.string ⟨x.1.toArray⟩, .string ⟨x.2.1.toArray⟩, .string ⟨x.2.2.toArray⟩] 160)).cell? ⟨B', off' + k * 3 + 1, none⟩ = some (.string ⟨y.2.1.toArray⟩) := he _ al 1 _ rfl
    have e2 : (wr.alloc (.cells #[.string ⟨x.1.toArray⟩, .string ⟨x.2.1.toArray⟩, .string ⟨x.2.2.toArray⟩] 160)).cell? ⟨B', off' + k * 3 + 2, none⟩ = some (.string ⟨y.2.2.toArray⟩) := he _ al 2 _ rfl
    clear hc he hx hy hkm hkk htk hkM hkK
    by_cases hq : id x = id y
    ·rw [decide_eq_true hq] at C
     have HT := Lib.hid (hst hq)
     have C := Lib.hid C
     clear hst hno hq
     have al2 := al.alloc al.size (.cells #[.string ⟨y.1.toArray⟩, .string ⟨y.2.1.toArray⟩, .string ⟨y.2.2.toArray⟩] 160)
     have CC := Lib.hid (C.out _ (hbw.trans (al2.mono hsz)))
     go_wp2_with (go_at_fn g; refine CC.out.mono ?_; rintro e w2 ⟨rfl, hb⟩)
     have q2 := (hbw.trans (al2.mono hsz)).trans (hb.mono (Nat.le_trans hsz al2.size))
     clear hb al2 al
     go_wp2_with fail
     go_roundw
     case rel => exact ⟨k + 1, by omega, by go_num, HT.out, q2⟩
     case measure => simp [intOf]; omega
    ·rw [decide_eq_false hq] at C
     have := hno hq
     subst this
     have C := Lib.hid C
     clear hst hno hq
     have al2 := al.alloc al.size (.cells #[.string ⟨y.1.toArray⟩, .string ⟨y.2.1.toArray⟩, .string ⟨y.2.2.toArray⟩] 160)
     have CC := Lib.hid (C.out _ (hbw.trans (al2.mono hsz)))
     go_wp2_with (go_at_fn g; refine CC.out.mono ?_; rintro e w2 ⟨rfl, hb⟩)
     have q2 := (hbw.trans (al2.mono hsz)).trans (hb.mono (Nat.le_trans hsz al2.size))
     clear hb al2 al
     go_wp2_with fail
     go_ret
     exact ⟨rfl, q2⟩
   ·have e1 : (M.map id).take k = M.map id := List.take_of_length_le (by rw [List.length_map, HL.out]; omega)
    have e2 : (K.map id).take k = K.map id := List.take_of_length_le (by rw [List.length_map, HL'.out]; omega)
    rw [e1, e2] at htk
    have : O = true := by rw [← HO.out]; exact decide_eq_true htk
    subst this
    clear e1 e2 htk
    go_wp2_with fail
    go_ret
    exact ⟨rfl, hbw⟩
 ·have : O = false := by
   rw [← hO]
   refine decide_eq_false fun h => hlen ?_
   have := congrArg List.length h
   rw [List.length_map, List.length_map, hL, hL'] at this
   exact this
  subst this
  have wl : ¬ (L : Int) = (L' : Int) := by omega
  clear hO hL hL' hv hu hg
  go_enter Tryz.func185, Tryz.ntmps185
  go_wp2_with fail
  go_ret
  exact ⟨rfl, Below.refl _ _⟩
set_option maxHeartbeats 4000000 in
set_option maxRecDepth 100000 in
theorem sl_Equal_tr (v u f : Value) (M K : List TrI) (w : World) (hv : IsL trY v M w) (hu : IsL trY u K w) (hM : M.length ≤ 100000) (hK : K.length ≤ 100000) (hf : EqL (fun x : TrI => trV x) trD f M K w) :
  Calls Tryz.prog 87 #[v, u, f] w (Ret w (.bool (decide (M.map trD = K.map trD)))) := by
 obtain ⟨a, ca, hf1, -⟩ := hv.form
 obtain ⟨b, cb, hf2, -⟩ := hu.form
 obtain ⟨g, lb, rfl, eg, hg⟩ := hf
 obtain ⟨O, hO⟩ : ∃ O, decide (M.map trD = K.map trD) = O := ⟨_, rfl⟩
 obtain ⟨L, hL⟩ : ∃ L, M.length = L := ⟨_, rfl⟩
 obtain ⟨L', hL'⟩ : ∃ L, K.length = L := ⟨_, rfl⟩
 rw [hL] at hf1 hM
 rw [hL'] at hf2 hK
 rw [hO]
 subst hf1 hf2
 by_cases hlen : L = L'
 ·subst hlen
  have HO := Lib.hid hO
  have HL := Lib.hid hL
  have HL' := Lib.hid hL'
  have HV := Lib.hid hv
  have HU := Lib.hid hu
  have HG := Lib.hid hg
  clear hO hL hL' hv hu hg
  go_enter Tryz.func87, Tryz.ntmps87
  go_wp2_with fail
  go_loopw [17] (fun i wx => ∃ k : Nat, k ≤ L ∧ i = .int .i64 k ∧ (M.map trD).take k = (K.map trD).take k ∧ Below w.heap.size w wx) (fun i _ => L - (intOf i).toNat)
  case atStart => exact ⟨0, Nat.zero_le _, rfl, rfl, Below.refl _ _⟩
  case round =>
   obtain ⟨k, hk, rfl, htk, hbw⟩ := hrel
   have hsz := hbw.size
   by_cases hlt : k < L
   ·have hkM : k < M.length := by rw [HL.out]; exact hlt
    have hkK : k < K.length := by rw [HL'.out]; exact hlt
    obtain ⟨x, hx⟩ : ∃ x, M[k] = x := ⟨_, rfl⟩
    obtain ⟨y, hy⟩ : ∃ y, K[k] = y := ⟨_, rfl⟩
    obtain ⟨B, off, cp, hf, -, hc⟩ := (HV.out.ret hbw).cells (k := k) (x := x) (by rw [List.getElem?_eq_getElem hkM, hx])
    rw [HL.out] at hf
    simp only [Value.slice.injEq, true_and] at hf
    obtain ⟨rfl, rfl⟩ := hf
    obtain ⟨B', off', cp', hf, -, he⟩ := (HU.out.ret hbw).cells (k := k) (x := y) (by rw [List.getElem?_eq_getElem hkK, hy])
    rw [HL'.out] at hf
    simp only [Value.slice.injEq, true_and] at hf
    obtain ⟨rfl, rfl⟩ := hf
    have hkm : k < (M.map trD).length := by simpa using hkM
    have hkk : k < (K.map trD).length := by simpa using hkK
    have hst : trD x = trD y → (M.map trD).take (k + 1) = (K.map trD).take (k + 1) := fun h => take_eqG hkm hkk htk (by rw [List.getElem_map, List.getElem_map, hx, hy]; exact h)
    have hno : trD x ≠ trD y → O = false := fun h => by
     rw [← HO.out]
     exact decide_eq_false (ne_atG hkm hkk (by rw [List.getElem_map, List.getElem_map, hx, hy]; exact h))
    have C := fun (w' : World) (hb : Below w.heap.size w w') => HG.out x (by rw [← hx]; exact List.getElem_mem hkM) y (by rw [← hy]; exact List.getElem_mem hkK) w' hb
    have c0 : wr.cell? ⟨B, off + k, none⟩ = some (trV x) := by
     have h := hc wr (Below.refl _ _) 0 _ rfl
     rwa [show off + k * trY.n + 0 = off + k from (by show off + k * 1 + 0 = off + k; omega)] at h
    have e0 : wr.cell? ⟨B', off' + k, none⟩ = some (trV y) := by
     have h := he wr (Below.refl _ _) 0 _ rfl
     rwa [show off' + k * trY.n + 0 = off' + k from (by show off' + k * 1 + 0 = off' + k; omega)] at h
    clear hc he hx hy hkm hkk htk hkM hkK
    by_cases hq : trD x = trD y
    ·rw [decide_eq_true hq] at C
     have HT := Lib.hid (hst hq)
     have C := Lib.hid C
     clear hst hno hq
     have al2 := Below.refl wr.heap.size wr
     have CC := Lib.hid (C.out _ (hbw.trans (al2.mono hsz)))
     go_wp2_with (go_at_fn g; refine CC.out.mono ?_; rintro e w2 ⟨rfl, hb⟩)
     have q2 := (hbw.trans (al2.mono hsz)).trans (hb.mono (Nat.le_trans hsz al2.size))
     clear hb al2
     go_wp2_with fail
     go_roundw
     case rel => exact ⟨k + 1, by omega, by go_num, HT.out, q2⟩
     case measure => simp [intOf]; omega
    ·rw [decide_eq_false hq] at C
     have := hno hq
     subst this
     have C := Lib.hid C
     clear hst hno hq
     have al2 := Below.refl wr.heap.size wr
     have CC := Lib.hid (C.out _ (hbw.trans (al2.mono hsz)))
     go_wp2_with (go_at_fn g; refine CC.out.mono ?_; rintro e w2 ⟨rfl, hb⟩)
     have q2 := (hbw.trans (al2.mono hsz)).trans (hb.mono (Nat.le_trans hsz al2.size))
     clear hb al2
     go_wp2_with fail
     go_ret
     exact ⟨rfl, q2⟩
   ·have e1 : (M.map trD).take k = M.map trD := List.take_of_length_le (by rw [List.length_map, HL.out]; omega)
    have e2 : (K.map trD).take k = K.map trD := List.take_of_length_le (by rw [List.length_map, HL'.out]; omega)
    rw [e1, e2] at htk
    have : O = true := by rw [← HO.out]; exact decide_eq_true htk
    subst this
    clear e1 e2 htk
    go_wp2_with fail
    go_ret
    exact ⟨rfl, hbw⟩
 ·have : O = false := by
   rw [← hO]
   refine decide_eq_false fun h => hlen ?_
   have := congrArg List.length h
   rw [List.length_map, List.length_map, hL, hL'] at this
   exact this
  subst this
  have wl : ¬ (L : Int) = (L' : Int) := by omega
  clear hO hL hL' hv hu hg
  go_enter Tryz.func87, Tryz.ntmps87
  go_wp2_with fail
  go_ret
  exact ⟨rfl, Below.refl _ _⟩
end Go.Proofs.YtjgeiieiinmdnaaGreatDoor
namespace Go.Proofs.YtjgeiieiinmdnaaGreatDoor
open Go.RowKit Go.Lib

theorem eq_at (a b : At) (w : World) : (Op.equalIn 10000 160 (atG a) (atG b)).run Tryz.prog w = .ok (decide (a = b)) w := by
 have u3 := Tryz.underlying9
 have hS : Tryz.prog.underlying 160 = some (.struct (Tryz.prog.fieldsOf 160)) := by kernel_rfl
 have hp : Tryz.prog.stoodInHeld 160 = false := by kernel_rfl
 obtain ⟨a1, a2, a3⟩ := a
 obtain ⟨b1, b2, b3⟩ := b
 rw [show (10000 : Nat) = 9999 + 1 from rfl, run_equalIn_agg w 9999 160 _ _ hS hp]
 simp only [Program.fieldsOf, Tryz.underlying160]
 go_simp
 clear u3 hS hp
 by_cases h1 : a1 = b1 <;> by_cases h2 : a2 = b2 <;> by_cases h3 : a3 = b3 <;> simp [*]
theorem eg_at : Tryz.prog.eqGuardType Tryz.prog.depth 160 = false := by kernel_rfl
theorem eql_at (a b : At) (w : World) : (binOp .eql 160 (atG a) (atG b)).run Tryz.prog w = .ok (.bool (decide (a = b))) w := by
 rw [run_eql_struct, eq_at]
 rfl
set_option maxRecDepth 100000 in
theorem tr_Same1 (x y : At) (w : World) : Calls Tryz.prog 143 #[atG x, atG y] w (Ret w (.bool (decide (x = y)))) := by
 have EQ := eql_at x y
 have EG := eg_at
 obtain ⟨O, hO⟩ : ∃ O, decide (x = y) = O := ⟨_, rfl⟩
 rw [hO] at EQ ⊢
 clear hO
 obtain ⟨W0, hW, y0, bs⟩ := Sx.start2 w [.string ⟨x.1.toArray⟩, .string ⟨x.2.1.toArray⟩, .string ⟨x.2.2.toArray⟩] 160 [.string ⟨y.1.toArray⟩, .string ⟨y.2.1.toArray⟩, .string ⟨y.2.2.toArray⟩] 160
 have HW := Lib.hid hW
 clear hW
 have q := bs.q
 go_enter Tryz.func143, Tryz.ntmps143
 go_wp2_with fail
 rw [HW.out]
 go_ret
 exact ⟨rfl, q⟩
theorem e_tSame1 : ∀ args w, (callFunc 143 args).run Tryz.prog w = .ok (.enter 143 args) w := enters_of Tryz.func143 (by kernel_rfl) rfl
set_option maxRecDepth 100000 in
theorem tr_same_at (v u f : Value) (M K : List At) (w : World) (hv : IsL atY v M w) (hu : IsL atY u K w) (hM : M.length ≤ 100000) (hK : K.length ≤ 100000) (hf : EqL (fun x : At => atG x) id f M K w) :
  Calls Tryz.prog 146 #[v, u, f] w (Ret w (.bool (decide (M.map id = K.map id)))) := by
 have C := Lib.hid (sl_Equal_at v u f M K w hv hu hM hK hf)
 obtain ⟨O, hO⟩ : ∃ O, decide (M.map id = K.map id) = O := ⟨_, rfl⟩
 rw [hO] at C ⊢
 obtain ⟨g, lb, rfl, -, -⟩ := hf
 obtain ⟨a, ca, rfl, -⟩ := hv.form
 obtain ⟨b, cb, rfl, -⟩ := hu.form
 clear hO hv hu hM hK
 go_enter Tryz.func146, Tryz.ntmps146
 go_wp2_with fail
 refine C.out.mono ?_
 rintro e w1 ⟨rfl, hb⟩
 go_wp2_with fail
 go_ret
 exact ⟨rfl, hb⟩
set_option maxRecDepth 100000 in
theorem tr_same_nd (v u f : Value) (M K : List NdI) (w : World) (hv : IsL ndY v M w) (hu : IsL ndY u K w) (hM : M.length ≤ 100000) (hK : K.length ≤ 100000) (hf : EqL (fun x : NdI => ndG x) Prod.fst f M K w) :
  Calls Tryz.prog 144 #[v, u, f] w (Ret w (.bool (decide (M.map Prod.fst = K.map Prod.fst)))) := by
 have C := Lib.hid (sl_Equal_nd v u f M K w hv hu hM hK hf)
 obtain ⟨O, hO⟩ : ∃ O, decide (M.map Prod.fst = K.map Prod.fst) = O := ⟨_, rfl⟩
 rw [hO] at C ⊢
 obtain ⟨g, lb, rfl, -, -⟩ := hf
 obtain ⟨a, ca, rfl, -⟩ := hv.form
 obtain ⟨b, cb, rfl, -⟩ := hu.form
 clear hO hv hu hM hK
 go_enter Tryz.func144, Tryz.ntmps144
 go_wp2_with fail
 refine C.out.mono ?_
 rintro e w1 ⟨rfl, hb⟩
 go_wp2_with fail
 go_ret
 exact ⟨rfl, hb⟩
set_option maxHeartbeats 4000000 in
set_option maxRecDepth 100000 in
theorem tr_Same2_w (k k' m m' : Int) (s n t s' n' t' : ByteArray) (a a' : Option Addr) (L c L' c' Lf : Nat) (E1 E2 E3 E4 E5 G : Bool) (w : World) (h1 : (k == k') = E1) (h2 : (s.toList == s'.toList) = E2) (h3 : (n.toList == n'.toList) = E3) (h4 : (t.toList == t'.toList) = E4) (h5 : (m == m') = E5)
  (hl : Lf < w.heap.size) (cs : w.cell? ⟨Lf, 0, none⟩ = some (.func (.func 143) #[] #[]))
  (CG : ∀ W : World, Below w.heap.size w W → Calls Tryz.prog 146 #[.slice a L c, .slice a' L' c', .func (.func 143) #[] #[]] W (Ret W (.bool G))) :
  Calls Tryz.prog 145 #[.agg #[.int .u8 k, .string s, .string n, .slice a L c, .string t, .int .i64 m], .agg #[.int .u8 k', .string s', .string n', .slice a' L' c', .string t', .int .i64 m'], .pointer (some ⟨Lf, 0, none⟩)] w (Ret w (.bool (E1 && (E2 && (E3 && (E4 && (E5 && G))))))) := by
 have CG := Lib.hid CG
 cases E1 with
 | false =>
  obtain ⟨W0, hW, y0, bs⟩ := Sx.start2 w [.int .u8 k, .string s, .string n, .slice a L c, .string t, .int .i64 m] 114 [.int .u8 k', .string s', .string n', .slice a' L' c', .string t', .int .i64 m'] 114
  have HW := Lib.hid hW
  clear hW
  have q := bs.q
  go_enter Tryz.func145, Tryz.ntmps145
  go_wp2_with fail
  rw [HW.out]
  go_ret
  exact ⟨by first | rfl | simp, q⟩
 | true =>
  cases E2 with
  | false =>
   obtain ⟨W0, hW, y0, bs⟩ := Sx.start2 w [.int .u8 k, .string s, .string n, .slice a L c, .string t, .int .i64 m] 114 [.int .u8 k', .string s', .string n', .slice a' L' c', .string t', .int .i64 m'] 114
   have HW := Lib.hid hW
   clear hW
   have q := bs.q
   go_enter Tryz.func145, Tryz.ntmps145
   go_wp2_with fail
   rw [HW.out]
   go_ret
   exact ⟨by first | rfl | simp, q⟩
  | true =>
   cases E3 with
   | false =>
    obtain ⟨W0, hW, y0, bs⟩ := Sx.start2 w [.int .u8 k, .string s, .string n, .slice a L c, .string t, .int .i64 m] 114 [.int .u8 k', .string s', .string n', .slice a' L' c', .string t', .int .i64 m'] 114
    have HW := Lib.hid hW
    clear hW
    have q := bs.q
    go_enter Tryz.func145, Tryz.ntmps145
    go_wp2_with fail
    rw [HW.out]
    go_ret
    exact ⟨by first | rfl | simp, q⟩
   | true =>
    cases E4 with
    | false =>
     obtain ⟨W0, hW, y0, bs⟩ := Sx.start2 w [.int .u8 k, .string s, .string n, .slice a L c, .string t, .int .i64 m] 114 [.int .u8 k', .string s', .string n', .slice a' L' c', .string t', .int .i64 m'] 114
     have HW := Lib.hid hW
     clear hW
     have q := bs.q
     go_enter Tryz.func145, Tryz.ntmps145
     go_wp2_with fail
     rw [HW.out]
     go_ret
     exact ⟨by first | rfl | simp, q⟩
    | true =>
     cases E5 with
     | false =>
      obtain ⟨W0, hW, y0, bs⟩ := Sx.start2 w [.int .u8 k, .string s, .string n, .slice a L c, .string t, .int .i64 m] 114 [.int .u8 k', .string s', .string n', .slice a' L' c', .string t', .int .i64 m'] 114
      have HW := Lib.hid hW
      clear hW
      have q := bs.q
      go_enter Tryz.func145, Tryz.ntmps145
      go_wp2_with fail
      rw [HW.out]
      go_ret
      exact ⟨by first | rfl | simp, q⟩
     | true =>
      obtain ⟨W0, hW, y0, bs⟩ := Sx.start2 w [.int .u8 k, .string s, .string n, .slice a L c, .string t, .int .i64 m] 114 [.int .u8 k', .string s', .string n', .slice a' L' c', .string t', .int .i64 m'] 114
      have HW := Lib.hid hW
      clear hW
      have q := bs.q
      go_enter Tryz.func145, Tryz.ntmps145
      go_wp2_with fail
      rw [HW.out]
      refine (CG.out W0 q).mono ?_
      rintro e w1 ⟨rfl, hb⟩
      replace bs := bs.ret hb
      replace q := bs.q
      clear hb
      go_wp2_with fail
      go_ret
      exact ⟨by first | rfl | simp, q⟩
theorem nd_eq (x y : Nd) : decide (x = y) = ((x.1 == y.1) && (decide (x.2.1 = y.2.1) && (decide (x.2.2.1 = y.2.2.1) && (decide (x.2.2.2.2.1 = y.2.2.2.2.1) && ((x.2.2.2.2.2 == y.2.2.2.2.2) && decide (x.2.2.2.1 = y.2.2.2.1)))))) := by
 obtain ⟨k, s, n, l, t, m⟩ := x
 obtain ⟨k', s', n', l', t', m'⟩ := y
 rw [Bool.eq_iff_iff]
 simp only [decide_eq_true_eq, Bool.and_eq_true, beq_iff_eq, Prod.mk.injEq]
 constructor
 ·rintro ⟨h1, h2, h3, h4, h5, h6⟩
  exact ⟨h1, h2, h3, h5, h6, h4⟩
 ·rintro ⟨h1, h2, h3, h4, h5, h6⟩
  exact ⟨h1, h2, h3, h6, h4, h5⟩
theorem e_tSame2 : ∀ args w, (callFunc 145 args).run Tryz.prog w = .ok (.enter 145 args) w := enters_of Tryz.func145 (by kernel_rfl) rfl
theorem tr_Same2 (x y : NdI) (Lf : Nat) (w : World) (hx : ndY.sub x w) (hy : ndY.sub y w) (zx : (ndA x).length ≤ 100000) (zy : (ndA y).length ≤ 100000) (hl : Lf < w.heap.size) (cs : w.cell? ⟨Lf, 0, none⟩ = some (.func (.func 143) #[] #[])) :
  Calls Tryz.prog 145 #[ndG x, ndG y, .pointer (some ⟨Lf, 0, none⟩)] w (Ret w (.bool (decide (x.1 = y.1)))) := by
 have CG := fun (W : World) (hb : Below w.heap.size w W) => tr_same_at (ndV x) (ndV y) (.func (.func 143) #[] #[]) (ndA x) (ndA y) W (IsL.ret hx hb) (IsL.ret hy hb) zx zy ⟨_, _, rfl, e_tSame1, fun a _ b _ V _ => tr_Same1 a b V⟩
 simp only [List.map_id] at CG
 rw [nd_eq, ← eqb_l, ← eqb_l, ← eqb_l]
 exact tr_Same2_w _ _ _ _ _ _ _ _ _ _ _ _ _ _ _ _ _ _ _ _ _ _ _ w rfl rfl rfl rfl rfl hl cs CG
set_option maxHeartbeats 1000000 in
set_option maxRecDepth 100000 in
theorem tr_Same (X Y : TrI) (w : World) (hx : trY.sub X w) (hy : trY.sub Y w) (zx : X.1.length ≤ 100000 ∧ ∀ p ∈ X.1, (ndA p).length ≤ 100000) (zy : Y.1.length ≤ 100000 ∧ ∀ p ∈ Y.1, (ndA p).length ≤ 100000) :
  Calls Tryz.prog 88 #[trV X, trV Y] w (Ret w (.bool (decide (trD X = trD Y)))) := by
 have CS := Lib.hid fun (W : World) (hb : Below w.heap.size w W) (Lf : Nat) (hl : Lf < W.heap.size) (cs : W.cell? ⟨Lf, 0, none⟩ = some (.func (.func 143) #[] #[])) =>
  tr_same_nd (trV X) (trV Y) (.func (.func 145) #[] #[.pointer (some ⟨Lf, 0, none⟩)]) X.1 Y.1 W (IsL.ret hx hb) (IsL.ret hy hb) zx.1 zy.1 ⟨_, _, rfl, e_tSame2, fun a ha b hb2 V hV => tr_Same2 a b Lf V (IsL.ret (hx.2.2 a ha) (hb.trans (hV.mono hb.size))) (IsL.ret (hy.2.2 b hb2) (hb.trans (hV.mono hb.size))) (zx.2 a ha) (zy.2 b hb2) (Nat.lt_of_lt_of_le hl hV.size) (((bcell hV).1 _ _ hl).trans cs)⟩
 obtain ⟨O, hO⟩ : ∃ O, decide (trD X = trD Y) = O := ⟨_, rfl⟩
 have CS2 := fun W hb Lf hl cs => CS.out W hb Lf hl cs
 rw [show decide (X.1.map Prod.fst = Y.1.map Prod.fst) = O from hO] at CS2
 rw [hO]
 have CS := Lib.hid CS2
 obtain ⟨M, a, c⟩ := X
 obtain ⟨K, b, d⟩ := Y
 simp only [trV] at CS ⊢
 obtain ⟨L, hL⟩ : ∃ L, M.length = L := ⟨_, rfl⟩
 obtain ⟨L', hL'⟩ : ∃ L, K.length = L := ⟨_, rfl⟩
 rw [hL, hL'] at CS ⊢
 clear CS2 hO hx hy zx zy hL hL'
 have bs := Sx.start w
 have q := bs.q
 go_enter Tryz.func88, Tryz.ntmps88
 have d0 := (bs.lit (w.heap.size) rfl [.func (.func 143) #[] #[]] 161)
 have c0_n00 := d0.at 0 0 rfl rfl
 go_wp2_with fail
 clear d0 c0_n00
 obtain ⟨w1, hw1, y1, al, bs⟩ := bs.alloc (w.heap.size) rfl [.func (.func 143) #[] #[]] 161
 clear al
 replace q := bs.q
 rw [hw1]
 refine (CS.out w1 q w.heap.size (bs.lt _ (List.mem_of_getElem? (i := 0) rfl)) (bs.at 0 0 rfl rfl)).mono ?_
 rintro e w2 ⟨rfl, hb⟩
 replace bs := bs.ret hb
 replace q := bs.q
 clear hb
 go_wp2_with fail
 go_ret
 exact ⟨rfl, q⟩
end Go.Proofs.YtjgeiieiinmdnaaGreatDoor
namespace Go.Proofs.YtjgeiieiinmdnaaGreatDoor
open Go.RowKit Go.Lib

/-- sizes for a comparison. -/
def EqA (a : AcI) : Prop := a.it.length ≤ 10000 ∧ ∀ p ∈ a.it, p.1.g.length ≤ 10000
def EqT (t : TrI) : Prop := t.1.length ≤ 100000 ∧ ∀ p ∈ t.1, (ndA p).length ≤ 100000
def EqR (r : RsI) : Prop := r.ld.length ≤ 100000 ∧ r.st.length ≤ 100000 ∧ ∀ t ∈ r.ld, EqT t
def EqC (c : CoI) : Prop := c.A.length ≤ 100000 ∧ c.R.length ≤ 100000 ∧ (∀ a ∈ c.A, EqA a) ∧ ∀ r ∈ c.R, EqR r
set_option maxHeartbeats 2000000 in
set_option maxRecDepth 100000 in
theorem ha_Same1_w (j j' : ByteArray) (a a' : Option Addr) (L c L' c' : Nat) (x y : Int) (E G : Bool) (w : World) (h1 : (j.toList == j'.toList) = E)
  (CG : ∀ W : World, Below w.heap.size w W → Calls Tryz.prog 84 #[.agg #[.slice a L c, .int .i64 x], .agg #[.slice a' L' c', .int .i64 y]] W (Ret W (.bool G))) :
  Calls Tryz.prog 83 #[.agg #[.string j, .slice a L c, .int .i64 x], .agg #[.string j', .slice a' L' c', .int .i64 y]] w (Ret w (.bool (E && G))) := by
 have CG := Lib.hid CG
 cases E with
 | false =>
  obtain ⟨W0, hW, y0, bs⟩ := Sx.start2 w [.string j, .slice a L c, .int .i64 x] 33 [.string j', .slice a' L' c', .int .i64 y] 33
  have HW := Lib.hid hW
  clear hW
  have q := bs.q
  go_enter Tryz.func83, Tryz.ntmps83
  go_wp2_with fail
  rw [HW.out]
  go_ret
  exact ⟨by first | rfl | simp, q⟩
 | true =>
  obtain ⟨W0, hW, y0, bs⟩ := Sx.start2 w [.string j, .slice a L c, .int .i64 x] 33 [.string j', .slice a' L' c', .int .i64 y] 33
  have HW := Lib.hid hW
  clear hW
  have q := bs.q
  go_enter Tryz.func83, Tryz.ntmps83
  go_wp2_with fail
  rw [HW.out]
  refine (CG.out W0 q).mono ?_
  rintro e w1 ⟨rfl, hb⟩
  replace bs := bs.ret hb
  replace q := bs.q
  clear hb
  go_wp2_with fail
  go_ret
  exact ⟨by first | rfl | simp, q⟩
theorem ac_eq (x y : Ac) : decide (x = y) = (decide (x.1 = y.1) && (decide (x.2.1 = y.2.1) && x.2.2 == y.2.2)) := by
 obtain ⟨a, b, c⟩ := x
 obtain ⟨a', b', c'⟩ := y
 rw [Bool.eq_iff_iff]
 simp only [decide_eq_true_eq, Bool.and_eq_true, beq_iff_eq, Prod.mk.injEq]
theorem ha_Same1 (x y : AcI) (w : World) (hx : acY.sub x w) (hy : acY.sub y w) (zx : EqA x) (zy : EqA y) : Calls Tryz.prog 83 #[x.v, y.v] w (Ret w (.bool (decide (x.d = y.d)))) := by
 have CG := fun (W : World) (hb : Below w.heap.size w W) => ro_Same x.iv y.iv x.it y.it W (IsItems.ret hx hb) (IsItems.ret hy hb) zx.1 zy.1 zx.2 zy.2 x.ver y.ver
 rw [ac_eq]
 show Calls _ _ _ w (Ret w (.bool (decide (x.j = y.j) && _)))
 rw [← eqb_l]
 exact ha_Same1_w _ _ _ _ _ _ _ _ _ _ _ _ w rfl CG
theorem e_hSame1 : ∀ args w, (callFunc 83 args).run Tryz.prog w = .ok (.enter 83 args) w := enters_of Tryz.func83 (by kernel_rfl) rfl
set_option maxHeartbeats 4000000 in
set_option maxRecDepth 100000 in
theorem ha_Same2_w (j j' : ByteArray) (on on' ask ask' : Bool) (pr pr' : Int) (la la' sa sa' : Option Addr) (L lc L' lc' n sc n' sc' : Nat) (E1 E2 E3 E4 G H : Bool) (w : World) (h1 : (j.toList == j'.toList) = E1) (h2 : (on == on') = E2) (h3 : (pr == pr') = E3) (h4 : (ask == ask') = E4)
  (CG : ∀ W : World, Below w.heap.size w W → Calls Tryz.prog 86 #[.slice sa n sc, .slice sa' n' sc'] W (Ret W (.bool G)))
  (CH : ∀ W : World, Below w.heap.size w W → Calls Tryz.prog 87 #[.slice la L lc, .slice la' L' lc', .func (.func 88) #[] #[]] W (Ret W (.bool H))) :
  Calls Tryz.prog 85 #[.agg #[.string j, .bool on, .int .i64 pr, .slice la L lc, .bool ask, .slice sa n sc], .agg #[.string j', .bool on', .int .i64 pr', .slice la' L' lc', .bool ask', .slice sa' n' sc']] w (Ret w (.bool (E1 && (E2 && (E3 && (E4 && (G && H))))))) := by
 have CG := Lib.hid CG
 have CH := Lib.hid CH
 cases E1 with
 | false =>
  obtain ⟨W0, hW, y0, bs⟩ := Sx.start2 w [.string j, .bool on, .int .i64 pr, .slice la L lc, .bool ask, .slice sa n sc] 38 [.string j', .bool on', .int .i64 pr', .slice la' L' lc', .bool ask', .slice sa' n' sc'] 38
  have HW := Lib.hid hW
  clear hW
  have q := bs.q
  go_enter Tryz.func85, Tryz.ntmps85
  go_wp2_with fail
  rw [HW.out]
  go_ret
  exact ⟨by first | rfl | simp, q⟩
 | true =>
  cases E2 with
  | false =>
   obtain ⟨W0, hW, y0, bs⟩ := Sx.start2 w [.string j, .bool on, .int .i64 pr, .slice la L lc, .bool ask, .slice sa n sc] 38 [.string j', .bool on', .int .i64 pr', .slice la' L' lc', .bool ask', .slice sa' n' sc'] 38
   have HW := Lib.hid hW
   clear hW
   have q := bs.q
   go_enter Tryz.func85, Tryz.ntmps85
   go_wp2_with fail
   rw [HW.out]
   go_ret
   exact ⟨by first | rfl | simp, q⟩
  | true =>
   cases E3 with
   | false =>
    obtain ⟨W0, hW, y0, bs⟩ := Sx.start2 w [.string j, .bool on, .int .i64 pr, .slice la L lc, .bool ask, .slice sa n sc] 38 [.string j', .bool on', .int .i64 pr', .slice la' L' lc', .bool ask', .slice sa' n' sc'] 38
    have HW := Lib.hid hW
    clear hW
    have q := bs.q
    go_enter Tryz.func85, Tryz.ntmps85
    go_wp2_with fail
    rw [HW.out]
    go_ret
    exact ⟨by first | rfl | simp, q⟩
   | true =>
    cases E4 with
    | false =>
     obtain ⟨W0, hW, y0, bs⟩ := Sx.start2 w [.string j, .bool on, .int .i64 pr, .slice la L lc, .bool ask, .slice sa n sc] 38 [.string j', .bool on', .int .i64 pr', .slice la' L' lc', .bool ask', .slice sa' n' sc'] 38
     have HW := Lib.hid hW
     clear hW
     have q := bs.q
     go_enter Tryz.func85, Tryz.ntmps85
     go_wp2_with fail
     rw [HW.out]
     go_ret
     exact ⟨by first | rfl | simp, q⟩
    | true =>
     cases G with
     | false =>
      obtain ⟨W0, hW, y0, bs⟩ := Sx.start2 w [.string j, .bool on, .int .i64 pr, .slice la L lc, .bool ask, .slice sa n sc] 38 [.string j', .bool on', .int .i64 pr', .slice la' L' lc', .bool ask', .slice sa' n' sc'] 38
      have HW := Lib.hid hW
      clear hW
      have q := bs.q
      go_enter Tryz.func85, Tryz.ntmps85
      go_wp2_with fail
      rw [HW.out]
      refine (CG.out W0 q).mono ?_
      rintro e w1 ⟨rfl, hb⟩
      replace bs := bs.ret hb
      replace q := bs.q
      clear hb
      have c_x0 := bs.at 0 0 rfl rfl
      have c_x1 := bs.at 0 1 rfl rfl
      have c_x2 := bs.at 0 2 rfl rfl
      have c_x3 := bs.at 0 3 rfl rfl
      have c_x4 := bs.at 0 4 rfl rfl
      have c_x5 := bs.at 0 5 rfl rfl
      have c_y0 := bs.at 1 0 rfl rfl
      have c_y1 := bs.at 1 1 rfl rfl
      have c_y2 := bs.at 1 2 rfl rfl
      have c_y3 := bs.at 1 3 rfl rfl
      have c_y4 := bs.at 1 4 rfl rfl
      have c_y5 := bs.at 1 5 rfl rfl
      go_wp2_with fail
      go_ret
      exact ⟨by first | rfl | simp, q⟩
     | true =>
      obtain ⟨W0, hW, y0, bs⟩ := Sx.start2 w [.string j, .bool on, .int .i64 pr, .slice la L lc, .bool ask, .slice sa n sc] 38 [.string j', .bool on', .int .i64 pr', .slice la' L' lc', .bool ask', .slice sa' n' sc'] 38
      have HW := Lib.hid hW
      clear hW
      have q := bs.q
      go_enter Tryz.func85, Tryz.ntmps85
      go_wp2_with fail
      rw [HW.out]
      refine (CG.out W0 q).mono ?_
      rintro e w1 ⟨rfl, hb⟩
      replace bs := bs.ret hb
      replace q := bs.q
      clear hb
      have c_x0 := bs.at 0 0 rfl rfl
      have c_x1 := bs.at 0 1 rfl rfl
      have c_x2 := bs.at 0 2 rfl rfl
      have c_x3 := bs.at 0 3 rfl rfl
      have c_x4 := bs.at 0 4 rfl rfl
      have c_x5 := bs.at 0 5 rfl rfl
      have c_y0 := bs.at 1 0 rfl rfl
      have c_y1 := bs.at 1 1 rfl rfl
      have c_y2 := bs.at 1 2 rfl rfl
      have c_y3 := bs.at 1 3 rfl rfl
      have c_y4 := bs.at 1 4 rfl rfl
      have c_y5 := bs.at 1 5 rfl rfl
      go_wp2_with fail
      refine (CH.out w1 q).mono ?_
      rintro e w2 ⟨rfl, hb⟩
      clear c_x0 c_x1 c_x2 c_x3 c_x4 c_x5 c_y0 c_y1 c_y2 c_y3 c_y4 c_y5
      replace bs := bs.ret hb
      replace q := bs.q
      clear hb
      have c_x0 := bs.at 0 0 rfl rfl
      have c_x1 := bs.at 0 1 rfl rfl
      have c_x2 := bs.at 0 2 rfl rfl
      have c_x3 := bs.at 0 3 rfl rfl
      have c_x4 := bs.at 0 4 rfl rfl
      have c_x5 := bs.at 0 5 rfl rfl
      have c_y0 := bs.at 1 0 rfl rfl
      have c_y1 := bs.at 1 1 rfl rfl
      have c_y2 := bs.at 1 2 rfl rfl
      have c_y3 := bs.at 1 3 rfl rfl
      have c_y4 := bs.at 1 4 rfl rfl
      have c_y5 := bs.at 1 5 rfl rfl
      go_wp2_with fail
      go_ret
      exact ⟨by first | rfl | simp, q⟩
theorem re_eq (x y : Re) : decide (x = y) = (decide (x.j = y.j) && ((x.on == y.on) && ((x.pr == y.pr) && ((x.ask == y.ask) && (decide (x.st = y.st) && decide (x.ld = y.ld)))))) := by
 obtain ⟨a, b, c, d, e, f⟩ := x
 obtain ⟨a', b', c', d', e', f'⟩ := y
 rw [Bool.eq_iff_iff]
 simp only [decide_eq_true_eq, Bool.and_eq_true, beq_iff_eq, Prod.mk.injEq]
 constructor
 ·rintro ⟨h1, h2, h3, h4, h5, h6⟩
  exact ⟨h1, h2, h3, h5, h6, h4⟩
 ·rintro ⟨h1, h2, h3, h4, h5, h6⟩
  exact ⟨h1, h2, h3, h6, h4, h5⟩
theorem e_tSame : ∀ args w, (callFunc 88 args).run Tryz.prog w = .ok (.enter 88 args) w := enters_of Tryz.func88 (by kernel_rfl) rfl
theorem e_hSame2 : ∀ args w, (callFunc 85 args).run Tryz.prog w = .ok (.enter 85 args) w := enters_of Tryz.func85 (by kernel_rfl) rfl
theorem ha_Same2 (x y : RsI) (w : World) (hx : rsY.sub x w) (hy : rsY.sub y w) (zx : EqR x) (zy : EqR y) : Calls Tryz.prog 85 #[x.v, y.v] w (Ret w (.bool (decide (x.d = y.d)))) := by
 have CG := fun (W : World) (hb : Below w.heap.size w W) => vals_equal x.sv y.sv x.st y.st W (IsGrp.ret hx.2 hb).1 (IsGrp.ret hy.2 hb).1 (by have := zx.2.1; omega) (by have := zy.2.1; omega)
 have CH := fun (W : World) (hb : Below w.heap.size w W) => sl_Equal_tr x.lv y.lv (.func (.func 88) #[] #[]) x.ld y.ld W (IsL.ret hx.1 hb) (IsL.ret hy.1 hb) zx.1 zy.1 ⟨_, _, rfl, e_tSame, fun a ha b hb2 V hV => tr_Same a b V (trY.subRet _ _ _ (hx.1.2.2 a ha) (hb.trans (hV.mono hb.size))) (trY.subRet _ _ _ (hy.1.2.2 b hb2) (hb.trans (hV.mono hb.size))) (zx.2.2 a ha) (zy.2.2 b hb2)⟩
 rw [re_eq]
 show Calls _ _ _ w (Ret w (.bool (decide (x.j = y.j) && _)))
 rw [← eqb_l]
 exact ha_Same2_w _ _ _ _ _ _ _ _ _ _ _ _ _ _ _ _ _ _ _ _ _ _ _ _ _ _ w rfl rfl rfl rfl CG CH
set_option maxHeartbeats 4000000 in
set_option maxRecDepth 100000 in
theorem ha_Same_w (aa ra aa' ra' : Option Addr) (LA ac LR rc LA' ac' LR' rc' : Nat) (m m' : Int) (G H : Bool) (w : World)
  (CG : ∀ W : World, Below w.heap.size w W → Calls Tryz.prog 89 #[.slice aa LA ac, .slice aa' LA' ac', .func (.func 83) #[] #[]] W (Ret W (.bool G)))
  (CH : ∀ W : World, Below w.heap.size w W → Calls Tryz.prog 90 #[.slice ra LR rc, .slice ra' LR' rc', .func (.func 85) #[] #[]] W (Ret W (.bool H))) :
  Calls Tryz.prog 32 #[.agg #[.slice aa LA ac, .slice ra LR rc, .int .i64 m], .agg #[.slice aa' LA' ac', .slice ra' LR' rc', .int .i64 m']] w (Ret w (.bool (G && (H && (m == m'))))) := by
 have CG := Lib.hid CG
 have CH := Lib.hid CH
 cases G with
 | false =>
  obtain ⟨W0, hW, y0, bs⟩ := Sx.start2 w [.slice aa LA ac, .slice ra LR rc, .int .i64 m] 25 [.slice aa' LA' ac', .slice ra' LR' rc', .int .i64 m'] 25
  have HW := Lib.hid hW
  clear hW
  have q := bs.q
  go_enter Tryz.func32, Tryz.ntmps32
  go_wp2_with fail
  rw [HW.out]
  refine (CG.out W0 q).mono ?_
  rintro e w1 ⟨rfl, hb⟩
  replace bs := bs.ret hb
  replace q := bs.q
  clear hb
  have c_x0 := bs.at 0 0 rfl rfl
  have c_x1 := bs.at 0 1 rfl rfl
  have c_x2 := bs.at 0 2 rfl rfl
  have c_y0 := bs.at 1 0 rfl rfl
  have c_y1 := bs.at 1 1 rfl rfl
  have c_y2 := bs.at 1 2 rfl rfl
  go_wp2_with fail
  go_ret
  exact ⟨by first | rfl | simp, q⟩
 | true =>
  cases H with
  | false =>
   obtain ⟨W0, hW, y0, bs⟩ := Sx.start2 w [.slice aa LA ac, .slice ra LR rc, .int .i64 m] 25 [.slice aa' LA' ac', .slice ra' LR' rc', .int .i64 m'] 25
   have HW := Lib.hid hW
   clear hW
   have q := bs.q
   go_enter Tryz.func32, Tryz.ntmps32
   go_wp2_with fail
   rw [HW.out]
   refine (CG.out W0 q).mono ?_
   rintro e w1 ⟨rfl, hb⟩
   replace bs := bs.ret hb
   replace q := bs.q
   clear hb
   have c_x0 := bs.at 0 0 rfl rfl
   have c_x1 := bs.at 0 1 rfl rfl
   have c_x2 := bs.at 0 2 rfl rfl
   have c_y0 := bs.at 1 0 rfl rfl
   have c_y1 := bs.at 1 1 rfl rfl
   have c_y2 := bs.at 1 2 rfl rfl
   go_wp2_with fail
   refine (CH.out w1 q).mono ?_
   rintro e w2 ⟨rfl, hb⟩
   clear c_x0 c_x1 c_x2 c_y0 c_y1 c_y2
   replace bs := bs.ret hb
   replace q := bs.q
   clear hb
   have c_x0 := bs.at 0 0 rfl rfl
   have c_x1 := bs.at 0 1 rfl rfl
   have c_x2 := bs.at 0 2 rfl rfl
   have c_y0 := bs.at 1 0 rfl rfl
   have c_y1 := bs.at 1 1 rfl rfl
   have c_y2 := bs.at 1 2 rfl rfl
   go_wp2_with fail
   go_ret
   exact ⟨by first | rfl | simp, q⟩
  | true =>
   obtain ⟨W0, hW, y0, bs⟩ := Sx.start2 w [.slice aa LA ac, .slice ra LR rc, .int .i64 m] 25 [.slice aa' LA' ac', .slice ra' LR' rc', .int .i64 m'] 25
   have HW := Lib.hid hW
   clear hW
   have q := bs.q
   go_enter Tryz.func32, Tryz.ntmps32
   go_wp2_with fail
   rw [HW.out]
   refine (CG.out W0 q).mono ?_
   rintro e w1 ⟨rfl, hb⟩
   replace bs := bs.ret hb
   replace q := bs.q
   clear hb
   have c_x0 := bs.at 0 0 rfl rfl
   have c_x1 := bs.at 0 1 rfl rfl
   have c_x2 := bs.at 0 2 rfl rfl
   have c_y0 := bs.at 1 0 rfl rfl
   have c_y1 := bs.at 1 1 rfl rfl
   have c_y2 := bs.at 1 2 rfl rfl
   go_wp2_with fail
   refine (CH.out w1 q).mono ?_
   rintro e w2 ⟨rfl, hb⟩
   clear c_x0 c_x1 c_x2 c_y0 c_y1 c_y2
   replace bs := bs.ret hb
   replace q := bs.q
   clear hb
   have c_x0 := bs.at 0 0 rfl rfl
   have c_x1 := bs.at 0 1 rfl rfl
   have c_x2 := bs.at 0 2 rfl rfl
   have c_y0 := bs.at 1 0 rfl rfl
   have c_y1 := bs.at 1 1 rfl rfl
   have c_y2 := bs.at 1 2 rfl rfl
   go_wp2_with fail
   go_ret
   exact ⟨by first | rfl | simp, q⟩
theorem ha_Same (x y : CoI) (w : World) (hx : x.sub w) (hy : y.sub w) (zx : EqC x) (zy : EqC y) : Calls Tryz.prog 32 #[x.v, y.v] w (Ret w (.bool (decide (x.d = y.d)))) := by
 have CG := fun (W : World) (hb : Below w.heap.size w W) => sl_Equal_ac x.av y.av (.func (.func 83) #[] #[]) x.A y.A W (IsL.ret hx.1 hb) (IsL.ret hy.1 hb) zx.1 zy.1 ⟨_, _, rfl, e_hSame1, fun a ha b hb2 V hV => ha_Same1 a b V (acY.subRet _ _ _ (hx.1.2.2 a ha) (hb.trans (hV.mono hb.size))) (acY.subRet _ _ _ (hy.1.2.2 b hb2) (hb.trans (hV.mono hb.size))) (zx.2.2.1 a ha) (zy.2.2.1 b hb2)⟩
 have CH := fun (W : World) (hb : Below w.heap.size w W) => sl_Equal_rs x.rv y.rv (.func (.func 85) #[] #[]) x.R y.R W (IsL.ret hx.2 hb) (IsL.ret hy.2 hb) zx.2.1 zy.2.1 ⟨_, _, rfl, e_hSame2, fun a ha b hb2 V hV => ha_Same2 a b V (rsY.subRet _ _ _ (hx.2.2.2 a ha) (hb.trans (hV.mono hb.size))) (rsY.subRet _ _ _ (hy.2.2.2 b hb2) (hb.trans (hV.mono hb.size))) (zx.2.2.2 a ha) (zy.2.2.2 b hb2)⟩
 have e : decide (x.d = y.d) = (decide (x.A.map AcI.d = y.A.map AcI.d) && (decide (x.R.map RsI.d = y.R.map RsI.d) && (x.m == y.m))) := by
  rw [Bool.eq_iff_iff]
  simp only [decide_eq_true_eq, Bool.and_eq_true, beq_iff_eq, CoI.d, Prod.mk.injEq]
 rw [e]
 exact ha_Same_w _ _ _ _ _ _ _ _ _ _ _ _ _ _ _ _ w CG CH
end Go.Proofs.YtjgeiieiinmdnaaGreatDoor
