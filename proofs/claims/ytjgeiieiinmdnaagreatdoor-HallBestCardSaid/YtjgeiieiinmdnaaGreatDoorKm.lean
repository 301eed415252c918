/- RoG, RoH, RoI, RoJ: put together by mergetpl.py. -/
import Derived.Test.YtjgeiieiinmdnaaGreatDoorKk
import Derived.Test.YtjgeiieiinmdnaaGreatDoorGb
namespace Go.Proofs.YtjgeiieiinmdnaaGreatDoor
open Go.RowKit Go.Lib

/-- A function's value that answers q of each of these contacts, from now on. -/
def PredIs (f : Value) (q : It → Bool) (M : List Im) (w : World) : Prop := ∃ g lb, f = .func (.func g) #[] lb ∧ (∀ args w, (callFunc g args).run Tryz.prog w = .ok (.enter g args) w) ∧ ∀ p ∈ M, ∀ W, Below w.heap.size w W → Calls Tryz.prog g (#[itA p] ++ lb) W (Ret W (.bool (q p.1)))
theorem PredIs.ret {f : Value} {q : It → Bool} {M : List Im} {w w' : World} (h : PredIs f q M w) (hb : Below w.heap.size w w') : PredIs f q M w' := by
 obtain ⟨g, lb, h1, h2, h3⟩ := h
 exact ⟨g, lb, h1, h2, fun p hp W hW => h3 p hp W (hb.trans (hW.mono hb.size))⟩
/-- the place of the first; below 0: there is none. -/
def idxQ (q : It → Bool) (L : List It) : Int := match L.findIdx? q with
 | some i => i
 | none => -1
theorem idxQ_at {q : It → Bool} {L : List It} {k : Nat} (hk : k < L.length) (hn : (L.take k).any q = false) (h : q L[k] = true) : idxQ q L = k := by
 unfold idxQ
 have : L.findIdx? q = some k := by
  rw [List.findIdx?_eq_some_iff_getElem]
  refine ⟨hk, h, fun j hj => ?_⟩
  have := List.any_eq_false.1 hn (L[j]'(by omega)) (by
   rw [List.mem_iff_getElem]
   exact ⟨j, by rw [List.length_take]; omega, by rw [List.getElem_take]⟩)
  simpa using this
 rw [this]
theorem idxQ_none {q : It → Bool} {L : List It} (h : L.any q = false) : idxQ q L = -1 := by
 unfold idxQ
 have : L.findIdx? q = none := by
  rw [List.findIdx?_eq_none_iff]
  intro x hx
  have := List.any_eq_false.1 h x hx
  simpa using this
 rw [this]
set_option maxHeartbeats 2000000 in
set_option maxRecDepth 100000 in
theorem sl_IndexFunc (v f : Value) (q : It → Bool) (M : List Im) (w : World) (hv : IsItems v M w) (hM : M.length ≤ 100000) (hf : PredIs f q M w) :
  Calls Tryz.prog 130 #[v, f] w (Ret w (.int .i64 (idxQ q (M.map Prod.fst)))) := by
 obtain ⟨a, cap, hfo, -⟩ := hv.form
 obtain ⟨g, lb, rfl, eg, hg⟩ := hf
 obtain ⟨O, hO⟩ : ∃ O, idxQ q (M.map Prod.fst) = O := ⟨_, rfl⟩
 obtain ⟨L, hL⟩ : ∃ L, M.length = L := ⟨_, rfl⟩
 rw [hL] at hfo hM
 rw [hO]
 subst hfo
 have HO := Lib.hid hO
 have HL := Lib.hid hL
 have HV := Lib.hid hv
 have HG := Lib.hid hg
 clear hO hL hv hg
 go_enter Tryz.func130, Tryz.ntmps130
 go_wp2_with fail
 go_loopw [8] (fun i wx => ∃ k : Nat, k ≤ L ∧ i = .int .i64 k ∧ ((M.map Prod.fst).take k).any q = false ∧ Below w.heap.size w wx) (fun i _ => L - (intOf i).toNat)
 case atStart => exact ⟨0, Nat.zero_le _, rfl, rfl, Below.refl _ _⟩
 case round =>
  obtain ⟨k, hk, rfl, hany, hbw⟩ := hrel
  have hsz := hbw.size
  by_cases hlt : k < L
  ·have hkM : k < M.length := by rw [HL.out]; exact hlt
   have hV := HV.out.ret hbw
   obtain ⟨b, off, cp, hf, hb0, hc⟩ := hV.cell hkM
   rw [HL.out] at hf
   simp only [Value.slice.injEq, true_and] at hf
   obtain ⟨rfl, rfl⟩ := hf
   have hkm : k < (M.map Prod.fst).length := by simpa using hkM
   have hsn : ((M.map Prod.fst).take (k + 1)).any q = q M[k].1 := by
    rw [List.take_succ_eq_append_getElem hkm, List.any_append, hany]
    simp
   have hat : q M[k].1 = true → O = k := fun h => by rw [← HO.out]; exact idxQ_at hkm hany (by rw [List.getElem_map]; exact h)
   have hcall := HG.out M[k] (List.getElem_mem hkM) wr hbw
   obtain ⟨p, hp⟩ : ∃ p, M[k] = p := ⟨_, rfl⟩
   rw [hp] at hc hsn hat hcall
   obtain ⟨c0, c1, c2, c3, c4, c5, c6, c7⟩ := hc
   have CH := Lib.hid hcall
   obtain ⟨x, hx⟩ : ∃ x, q p.1 = x := ⟨_, rfl⟩
   rw [hx] at hsn hat CH
   have HS := Lib.hid hsn
   have HA := Lib.hid hat
   clear hp hV hkm hsn hat hcall hx hany
   cases x with
   | true =>
    have := HA.out (by first | exact rfl | exact trivial)
    subst this
    go_wp2_with (go_at_fn g; refine CH.out.mono ?_; rintro e w1 ⟨rfl, hb⟩)
    go_wp2_with fail
    go_ret
    exact ⟨rfl, hbw.trans (hb.mono hsz)⟩
   | false =>
    go_wp2_with (go_at_fn g; refine CH.out.mono ?_; rintro e w1 ⟨rfl, hb⟩)
    have hb2 := hbw.trans (hb.mono hsz)
    clear hb
    go_wp2_with fail
    go_roundw
    case rel => exact ⟨k + 1, by omega, by go_num, HS.out, hb2⟩
    case measure => simp [intOf]; omega
  ·have he : (M.map Prod.fst).take k = M.map Prod.fst := List.take_of_length_le (by rw [List.length_map, HL.out]; omega)
   rw [he] at hany
   have : O = -1 := by rw [← HO.out]; exact idxQ_none hany
   subst this
   clear he hany
   go_wp2_with fail
   go_ret
   exact ⟨rfl, hbw⟩
theorem ro_Find1 (p : Im) (Lb : Nat) (t : ByteArray) (w : World) (hc : w.cell? ⟨Lb, 0, none⟩ = some (.string t)) (hl : Lb < w.heap.size) : Calls Tryz.prog 131 #[itA p, .pointer (some ⟨Lb, 0, none⟩)] w (Ret w (.bool (p.1.j == t.data.toList))) := by
 have q0 := (Below.refl w.heap.size w).alloc (Nat.le_refl _) (.cells (itC p).toArray 99)
 obtain ⟨O, hO⟩ : ∃ O, (p.1.j == t.data.toList) = O := ⟨_, rfl⟩
 have h2 : (p.1.j == t.toList) = O := by rw [Lib.toList_data]; exact hO
 rw [hO]
 clear hO
 have hne : Lb ≠ w.heap.size := by omega
 go_enter Tryz.func131, Tryz.ntmps131
 go_wp2_with fail
 go_ret
 exact ⟨by first | rfl | simp [h2], q0⟩
theorem e_Find1 : ∀ args w, (callFunc 131 args).run Tryz.prog w = .ok (.enter 131 args) w := enters_of Tryz.func131 (by kernel_rfl) rfl
theorem pred_Find (Lb : Nat) (t : ByteArray) (M : List Im) (w : World) (hc : w.cell? ⟨Lb, 0, none⟩ = some (.string t)) (hl : Lb < w.heap.size) : PredIs (.func (.func 131) #[] #[.pointer (some ⟨Lb, 0, none⟩)]) (fun x => x.j == t.data.toList) M w :=
 ⟨_, _, rfl, e_Find1, fun p _ W hW => ro_Find1 p Lb t W (((bcell hW).1 _ _ hl).trans hc) (Nat.lt_of_lt_of_le hl hW.size)⟩
theorem idx_find (L : List It) (t : List UInt8) : (idxQ (fun x => x.j == t) L < 0 → findL L t = none) ∧ (0 ≤ idxQ (fun x => x.j == t) L → ∃ k, ∃ h : k < L.length, idxQ (fun x => x.j == t) L = k ∧ findL L t = some L[k]) := by
 unfold idxQ findL
 cases h : L.findIdx? fun x => x.j == t with
 | none =>
  rw [List.findIdx?_eq_none_iff] at h
  refine ⟨fun _ => ?_, fun h2 => by simp at h2⟩
  rw [List.find?_eq_none]
  intro x hx
  have := h x hx
  rw [this]
  decide
 | some k =>
  refine ⟨fun h2 => by simp at h2; omega, fun _ => ?_⟩
  obtain ⟨hk, h1, h2⟩ := List.findIdx?_eq_some_iff_getElem.1 h
  refine ⟨k, hk, rfl, ?_⟩
  rw [List.find?_eq_some_iff_getElem]
  exact ⟨h1, k, hk, rfl, fun j hj => by simpa using h2 j hj⟩
end Go.Proofs.YtjgeiieiinmdnaaGreatDoor
namespace Go.Proofs.YtjgeiieiinmdnaaGreatDoor
open Go.RowKit Go.Lib

/-- a contact, and whether it is there. -/
def Fnd21 (w : World) (L : List It) (t : List UInt8) (e : Ending) (w' : World) : Prop :=
 ∃ a c, e = .returned (.tuple #[itA ((findL L t).getD it0, (a, c)), .bool (findL L t).isSome]) ∧ w'.ownsRow w.heap.size 9 1 (.slice a ((findL L t).getD it0).g.length c) ((findL L t).getD it0).g.length (strV ((findL L t).getD it0).g) ∧ Below w.heap.size w w'
set_option maxHeartbeats 2000000 in
set_option maxRecDepth 100000 in
theorem ro_Find (v : Value) (ver : Int) (M : List Im) (t : ByteArray) (w : World) (hv : IsItems v M w) (hM : M.length ≤ 1000) (hg : ∀ p ∈ M, p.1.g.length ≤ 1000) :
  Calls Tryz.prog 71 #[.agg #[v, .int .i64 ver], .string t] w (Fnd21 w (M.map Prod.fst) t.data.toList) := by
 obtain ⟨a0, cap0, hf, -⟩ := hv.form
 obtain ⟨L, hL⟩ : ∃ L, M.length = L := ⟨_, rfl⟩
 rw [hL] at hf hM
 subst hf
 have r0 := Two.new w (.slice a0 L cap0) (.int .i64 ver) 31
 have q0 := (Below.refl w.heap.size w).alloc (Nat.le_refl _) (.cells #[.slice a0 L cap0, .int .i64 ver] 31)
 obtain ⟨W0, hW0⟩ : ∃ W, w.alloc (.cells #[.slice a0 L cap0, .int .i64 ver] 31) = W := ⟨_, rfl⟩
 have s0 : W0.heap.size = w.heap.size + 1 := by rw [← hW0]; simp
 rw [hW0] at r0 q0
 have al := (Below.refl W0.heap.size W0).alloc (Nat.le_refl _) (.cells #[.string t] 9)
 have t1 : (W0.alloc (.cells #[.string t] 9)).cell? ⟨w.heap.size + 1, 0, none⟩ = some (.string t) := by rw [← s0]; simp
 have r1 := r0.ret al
 have q1 := q0.trans (al.mono q0.size)
 obtain ⟨W1, hW1⟩ : ∃ W, W0.alloc (.cells #[.string t] 9) = W := ⟨_, rfl⟩
 have s1 : W1.heap.size = w.heap.size + 2 := by rw [← hW1]; simp; omega
 rw [hW1] at r1 q1 t1
 have al2 := (Below.refl W1.heap.size W1).alloc (Nat.le_refl _) (.cells #[.string ⟨#[]⟩, .string ⟨#[]⟩, .slice none 0 0, .bool false, .bool false, .bool false, .bool false, .bool false] 99)
 have z2 := It8.new W1 (.string ⟨#[]⟩) (.string ⟨#[]⟩) (.slice none 0 0) (.bool false) (.bool false) (.bool false) (.bool false) (.bool false) 99
 have r2 := r1.ret al2
 have t2 := ((bcell al2).1 (w.heap.size + 1) 0 (by omega)).trans t1
 have q2 := q1.trans (al2.mono q1.size)
 obtain ⟨W2, hW2⟩ : ∃ W, W1.alloc (.cells #[.string ⟨#[]⟩, .string ⟨#[]⟩, .slice none 0 0, .bool false, .bool false, .bool false, .bool false, .bool false] 99) = W := ⟨_, rfl⟩
 have s2 : W2.heap.size = w.heap.size + 3 := by rw [← hW2]; simp; omega
 rw [hW2] at z2 r2 t2 q2
 rw [s1] at z2
 have HW : Hid (((w.alloc (.cells #[.slice a0 L cap0, .int .i64 ver] 31)).alloc (.cells #[.string t] 9)).alloc (.cells #[.string ⟨#[]⟩, .string ⟨#[]⟩, .slice none 0 0, .bool false, .bool false, .bool false, .bool false, .bool false] 99) = W2) := Lib.hid (by rw [hW0, hW1, hW2])
 have hi := hv.ret q2
 have IX := Lib.hid (sl_IndexFunc (.slice a0 L cap0) (.func (.func 131) #[] #[.pointer (some ⟨w.heap.size + 1, 0, none⟩)]) (fun x => x.j == t.data.toList) M W2 hi (by omega) (pred_Find (w.heap.size + 1) t M W2 t2 (by omega)))
 obtain ⟨R, hR⟩ : ∃ R, idxQ (fun x => x.j == t.data.toList) (M.map Prod.fst) = R := ⟨_, rfl⟩
 have hix := idx_find (M.map Prod.fst) t.data.toList
 rw [hR] at IX hix
 have HI := Lib.hid hi
 have HL := Lib.hid hL
 have HG := Lib.hid hg
 have S2 := Lib.hid s2
 obtain ⟨l, c0, c1, f0, f1⟩ := id r2
 clear hW0 hW1 hW2 s0 s1 s2 al al2 r0 r1 q0 q1 t1 hi hv hL hg hR t2
 by_cases hneg : R < 0
 ·have hn := hix.1 hneg
  have HN := Lib.hid hn
  unfold Fnd21
  rw [hn]
  clear hix hn
  go_enter Tryz.func71, Tryz.ntmps71
  go_wp2_with fail
  rw [HW.out]
  refine IX.out.mono ?_
  rintro e w3 ⟨rfl, hb⟩
  clear l c0 c1 f0 f1
  have z3 := z2.ret hb
  have q3 := q2.trans (hb.mono q2.size)
  clear hb z2 r2 q2
  obtain ⟨m, d0, d1, d2, d3, d4, d5, d6, d7, g0, g1, g2, g3, g4, g5, g6, g7⟩ := id z3
  go_wp2_with fail
  refine bodyPost_ret (ret_item2 rfl rfl rfl (z3.store)) rfl ⟨none, 0, rfl, World.ownsRow_nil _ _ _ _, st8_below q3 (by omega)⟩
 ·obtain ⟨k, hk, rfl, hfi⟩ := hix.2 (by omega)
  rw [List.length_map] at hk
  rw [List.getElem_map] at hfi
  have hkL : k < L := by rw [← HL.out]; exact hk
  have hpm := List.getElem_mem hk
  obtain ⟨b, off, cp, hf, hb0, hc⟩ := HI.out.cell hk
  have hgr := HI.out.2 _ hpm
  have hgz := HG.out _ hpm
  rw [HL.out] at hf
  simp only [Value.slice.injEq, true_and] at hf
  obtain ⟨rfl, rfl⟩ := hf
  obtain ⟨p, hp⟩ : ∃ p, M[k] = p := ⟨_, rfl⟩
  rw [hp] at hfi hc hgr hgz
  unfold Fnd21
  rw [hfi]
  have TW := Lib.hid fun (w' : World) (hb : Below W2.heap.size W2 w') => ro_twin p w' (hgr.ret hb) (by omega)
  have HC := Lib.hid hc
  have HB0 := Lib.hid hb0
  have wk3 : ((k : Nat) : Int) < (L : Int) := by omega
  clear hix hfi hc hgr hgz hp hpm hneg hk hb0
  go_enter Tryz.func71, Tryz.ntmps71
  go_wp2_with fail
  rw [HW.out]
  refine IX.out.mono ?_
  rintro e w3 ⟨rfl, hb⟩
  clear l c0 c1 f0 f1
  have z3 := z2.ret hb
  have r3 := r2.ret hb
  have q3 := q2.trans (hb.mono q2.size)
  obtain ⟨i0, i1, i2, i3, i4, i5, i6, i7⟩ := HC.out
  obtain ⟨qb, -⟩ := bcell hb
  have k0 := (qb _ _ HB0.out).trans i0
  have k1 := (qb _ _ HB0.out).trans i1
  have k2 := (qb _ _ HB0.out).trans i2
  have k3 := (qb _ _ HB0.out).trans i3
  have k4 := (qb _ _ HB0.out).trans i4
  have k5 := (qb _ _ HB0.out).trans i5
  have k6 := (qb _ _ HB0.out).trans i6
  have k7 := (qb _ _ HB0.out).trans i7
  have TC := Lib.hid (TW.out _ hb)
  have hs3 := hb.size
  rw [S2.out] at hs3
  clear hb z2 r2 q2 i0 i1 i2 i3 i4 i5 i6 i7 qb
  obtain ⟨l, c0, c1, f0, f1⟩ := id r3
  go_wp2_with fail
  refine TC.out.mono ?_
  rintro e w4 ⟨a', c', rfl, hown, hb⟩
  clear k0 k1 k2 k3 k4 k5 k6 k7 l c0 c1 f0 f1
  have z4 := z3.ret hb
  have q4 := q3.trans (hb.mono q3.size)
  have ho := grp_far (o := 0) (u0 := .string ⟨p.1.j.toArray⟩) (u1 := .string ⟨p.1.n.toArray⟩) (u2 := .slice a' p.1.g.length c') (u3 := .bool p.1.s.1) (u4 := .bool p.1.s.2.1) (u5 := .bool p.1.s.2.2.1) (u6 := .bool p.1.s.2.2.2) (u7 := .bool p.1.k) hown (g := w.heap.size + 2) (fun e => by have := (hown.lt _ e).1; omega)
  have HO := Lib.hid (ho.mono (base' := w.heap.size) (by omega))
  clear hb z3 r3 q3 hown ho
  obtain ⟨m, d0, d1, d2, d3, d4, d5, d6, d7, g0, g1, g2, g3, g4, g5, g6, g7⟩ := id z4
  go_wp2_with fail
  refine bodyPost_ret (ret_item2 rfl rfl rfl (z4.store)) rfl ⟨a', c', rfl, HO.out, st8_below q4 (by omega)⟩
end Go.Proofs.YtjgeiieiinmdnaaGreatDoor
namespace Go.Proofs.YtjgeiieiinmdnaaGreatDoor
open Go.RowKit Go.Lib

instance itDec : DecidableEq It := fun x y => decidable_of_iff (x.j = y.j ∧ x.n = y.n ∧ x.g = y.g ∧ x.s = y.s ∧ x.k = y.k) (by
 obtain ⟨j, n, g, s, k⟩ := x
 obtain ⟨j', n', g', s', k'⟩ := y
 constructor
 ·rintro ⟨h1, h2, h3, h4, h5⟩
  rw [show j = j' from h1, show n = n' from h2, show g = g' from h3, show s = s' from h4, show k = k' from h5]
 ·intro h
  injection h with h1 h
  injection h with h2 h
  injection h with h3 h
  injection h with h4 h
  exact ⟨h1, h2, h3, h4, h⟩)
end Go.Proofs.YtjgeiieiinmdnaaGreatDoor
namespace Go.Proofs.YtjgeiieiinmdnaaGreatDoor
open Go.RowKit Go.Lib

end Go.Proofs.YtjgeiieiinmdnaaGreatDoor
