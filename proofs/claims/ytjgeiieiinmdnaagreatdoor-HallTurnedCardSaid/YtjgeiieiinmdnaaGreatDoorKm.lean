/- RoG, RoH, RoI, RoJ: put together by mergetpl.py. -/
import Derived.Test.YtjgeiieiinmdnaaGreatDoorKk
import Derived.Test.YtjgeiieiinmdnaaGreatDoorGb
namespace Go.Proofs.YtjgeiieiinmdnaaGreatDoor
open Go.RowKit Go.Lib

/-- A function's value that answers q of each of these contacts, from now on. -/
def PredIs (f : Value) (q : It → Bool) (M : List Im) (w : World) : Prop := ∃ g lb, f = .func (.func g) #[] lb ∧ (∀ args w, (callFunc g args).run Tryz.prog w = .ok (.enter g args) w) ∧ ∀ p ∈ M, ∀ W, Below w.heap.size w W → Calls Tryz.prog g (#[itA p] ++ lb) W (Ret W (.bool (q p.1)))
/-- the place of the first; below 0: there is none. -/
def idxQ (q : It → Bool) (L : List It) : Int := match L.findIdx? q with
 | some i => i
 | none => -1
theorem idxQ_at {q : It → Bool} {L : List It} {k : Nat} (hk : k < L.length) (hn : (L.take k).any q = false) (h : q L[k] = true) : idxQ q L = k := by
 unfold idxQ
 have : L.findIdx? q = some k := by
  rw [List.findIdx?_eq_some_iff_getElem]
  refine ⟨hk, h, fun j hj => ?_⟩
  have := List.any_eq_false.1 hn (L[j]'(by omega)) (by
   rw [List.mem_iff_getElem]
   exact ⟨j, by rw [List.length_take]; omega, by rw [List.getElem_take]⟩)
  simpa using this
 rw [this]
theorem idxQ_none {q : It → Bool} {L : List It} (h : L.any q = false) : idxQ q L = -1 := by
 unfold idxQ
 have : L.findIdx? q = none := by
  rw [List.findIdx?_eq_none_iff]
  intro x hx
  have := List.any_eq_false.1 h x hx
  simpa using this
 rw [this]
set_option maxHeartbeats 2000000 in
set_option maxRecDepth 100000 in
theorem sl_IndexFunc (v f : Value) (q : It → Bool) (M : List Im) (w : World) (hv : IsItems v M w) (hM : M.length ≤ 100000) (hf : PredIs f q M w) :
  Calls Tryz.prog 130 #[v, f] w (Ret w (.int .i64 (idxQ q (M.map Prod.fst)))) := by
 obtain ⟨a, cap, hfo, -⟩ := hv.form
 obtain ⟨g, lb, rfl, eg, hg⟩ := hf
 obtain ⟨O, hO⟩ : ∃ O, idxQ q (M.map Prod.fst) = O := ⟨_, rfl⟩
 obtain ⟨L, hL⟩ : ∃ L, M.length = L := ⟨_, rfl⟩
 rw [hL] at hfo hM
 rw [hO]
 subst hfo
 have HO := Lib.hid hO
 have HL := Lib.hid hL
 have HV := Lib.hid hv
 have HG := Lib.hid hg
 clear hO hL hv hg
 go_enter Tryz.func130, Tryz.ntmps130
 go_wp2_with fail
 go_loopw [8] (fun i wx => ∃ k : Nat, k ≤ L ∧ i = .int .i64 k ∧ ((M.map Prod.fst).take k).any q = false ∧ Below w.heap.size w wx) (fun i _ => L - (intOf i).toNat)
 case atStart => exact ⟨0, Nat.zero_le _, rfl, rfl, Below.refl _ _⟩
 case round =>
  obtain ⟨k, hk, rfl, hany, hbw⟩ := hrel
  have hsz := hbw.size
  by_cases hlt : k < L
  ·have hkM : k < M.length := by rw [HL.out]; exact hlt
   have hV := HV.out.ret hbw
   obtain ⟨b, off, cp, hf, hb0, hc⟩ := hV.cell hkM
   rw [HL.out] at hf
   simp only [Value.slice.injEq, true_and] at hf
   obtain ⟨rfl, rfl⟩ := hf
   have hkm : k < (M.map Prod.fst).length := by simpa using hkM
   have hsn : ((M.map Prod.fst).take (k + 1)).any q = q M[k].1 := by
    rw [List.take_succ_eq_append_getElem hkm, List.any_append, hany]
    simp
   have hat : q M[k].1 = true → O = k := fun h => by rw [← HO.out]; exact idxQ_at hkm hany (by rw [List.getElem_map]; exact h)
   have hcall := HG.out M[k] (List.getElem_mem hkM) wr hbw
   obtain ⟨p, hp⟩ : ∃ p, M[k] = p := ⟨_, rfl⟩
   rw [hp] at hc hsn hat hcall
   obtain ⟨c0, c1, c2, c3, c4, c5, c6, c7⟩ := hc
   have CH := Lib.hid hcall
   obtain ⟨x, hx⟩ : ∃ x, q p.1 = x := ⟨_, rfl⟩
   rw [hx] at hsn hat CH
   have HS := Lib.hid hsn
   have HA := Lib.hid hat
   clear hp hV hkm hsn hat hcall hx hany
   cases x with
   | true =>
    have := HA.out (by first | exact rfl | exact trivial)
    subst this
    go_wp2_with (go_at_fn g; refine CH.out.mono ?_; rintro e w1 ⟨rfl, hb⟩)
    go_wp2_with fail
    go_ret
    exact ⟨rfl, hbw.trans (hb.mono hsz)⟩
   | false =>
    go_wp2_with (go_at_fn g; refine CH.out.mono ?_; rintro e w1 ⟨rfl, hb⟩)
    have hb2 := hbw.trans (hb.mono hsz)
    clear hb
    go_wp2_with fail
    go_roundw
    case rel => exact ⟨k + 1, by omega, by go_num, HS.out, hb2⟩
    case measure => simp [intOf]; omega
  ·have he : (M.map Prod.fst).take k = M.map Prod.fst := List.take_of_length_le (by rw [List.length_map, HL.out]; omega)
   rw [he] at hany
   have : O = -1 := by rw [← HO.out]; exact idxQ_none hany
   subst this
   clear he hany
   go_wp2_with fail
   go_ret
   exact ⟨rfl, hbw⟩
end Go.Proofs.YtjgeiieiinmdnaaGreatDoor
namespace Go.Proofs.YtjgeiieiinmdnaaGreatDoor
open Go.RowKit Go.Lib

end Go.Proofs.YtjgeiieiinmdnaaGreatDoor
namespace Go.Proofs.YtjgeiieiinmdnaaGreatDoor
open Go.RowKit Go.Lib

theorem ro_equal (v u : Value) (xs ys : List (List UInt8)) (w : World) (hv : IsGrp v xs w) (hu : IsGrp u ys w) (hx : xs.length ≤ 10000) (hy : ys.length ≤ 10000) :
  Calls Tryz.prog 141 #[v, u] w (Ret w (.bool (decide (xs = ys)))) := by
 have C := Lib.hid (vals_equal v u xs ys w hv.1 hu.1 (by omega) (by omega))
 obtain ⟨_, a, c, rfl, _⟩ := hv
 obtain ⟨_, b, d, rfl, _⟩ := hu
 obtain ⟨O, hO⟩ : ∃ O, decide (xs = ys) = O := ⟨_, rfl⟩
 rw [hO] at C ⊢
 clear hO
 obtain ⟨X, hX⟩ : ∃ X, xs.length = X := ⟨_, rfl⟩
 obtain ⟨Y, hY⟩ : ∃ X, ys.length = X := ⟨_, rfl⟩
 rw [hX, hY] at C ⊢
 clear hX hY
 go_enter Tryz.func141, Tryz.ntmps141
 go_wp2_with fail
 refine C.out.mono ?_
 rintro e w1 ⟨rfl, hb⟩
 go_wp2_with fail
 go_ret
 exact ⟨rfl, hb⟩
instance itDec : DecidableEq It := fun x y => decidable_of_iff (x.j = y.j ∧ x.n = y.n ∧ x.g = y.g ∧ x.s = y.s ∧ x.k = y.k) (by
 obtain ⟨j, n, g, s, k⟩ := x
 obtain ⟨j', n', g', s', k'⟩ := y
 constructor
 ·rintro ⟨h1, h2, h3, h4, h5⟩
  rw [show j = j' from h1, show n = n' from h2, show g = g' from h3, show s = s' from h4, show k = k' from h5]
 ·intro h
  injection h with h1 h
  injection h with h2 h
  injection h with h3 h
  injection h with h4 h
  exact ⟨h1, h2, h3, h4, h⟩)
theorem it_eq (x y : It) : decide (x = y) = (decide (x.j = y.j) && (decide (x.n = y.n) && (decide (x.g = y.g) && (decide (x.s = y.s) && (x.k == y.k))))) := by
 obtain ⟨j, n, g, s, k⟩ := x
 obtain ⟨j', n', g', s', k'⟩ := y
 rw [Bool.eq_iff_iff]
 simp only [decide_eq_true_eq, Bool.and_eq_true, beq_iff_eq]
 constructor
 ·intro h
  injection h with h1 h
  injection h with h2 h
  injection h with h3 h
  injection h with h4 h
  exact ⟨h1, h2, h3, h4, h⟩
 ·rintro ⟨h1, h2, h3, h4, h5⟩
  rw [show j = j' from h1, show n = n' from h2, show g = g' from h3, show s = s' from h4, show k = k' from h5]
theorem eqb_l (a b : List UInt8) : ((⟨a.toArray⟩ : ByteArray).toList == (⟨b.toArray⟩ : ByteArray).toList) = decide (a = b) := eqb_bytes a b
set_option maxHeartbeats 4000000 in
theorem ro_Same1_w (j n j' n' : ByteArray) (ga gb : Option Addr) (L ca L' cb : Nat) (a b c d k a' b' c' d' k' E1 E2 G : Bool) (w : World) (h1 : (j.toList == j'.toList) = E1) (h2 : (n.toList == n'.toList) = E2)
  (CG : ∀ w' : World, Below w.heap.size w w' → Calls Tryz.prog 141 #[.slice ga L ca, .slice gb L' cb] w' (Ret w' (.bool G))) :
  Calls Tryz.prog 140 #[.agg #[.string j, .string n, .slice ga L ca, .bool a, .bool b, .bool c, .bool d, .bool k], .agg #[.string j', .string n', .slice gb L' cb, .bool a', .bool b', .bool c', .bool d', .bool k']] w (Ret w (.bool (E1 && (E2 && (G && (decide ((a, b, c, d) = (a', b', c', d')) && (k == k'))))))) := by
 have x0 := It8.new w (.string j) (.string n) (.slice ga L ca) (.bool a) (.bool b) (.bool c) (.bool d) (.bool k) 99
 have q0 := (Below.refl w.heap.size w).alloc (Nat.le_refl _) (.cells #[.string j, .string n, .slice ga L ca, .bool a, .bool b, .bool c, .bool d, .bool k] 99)
 obtain ⟨W0, hW0⟩ : ∃ W, w.alloc (.cells #[.string j, .string n, .slice ga L ca, .bool a, .bool b, .bool c, .bool d, .bool k] 99) = W := ⟨_, rfl⟩
 have s0 : W0.heap.size = w.heap.size + 1 := by rw [← hW0]; simp
 rw [hW0] at x0 q0
 have al := (Below.refl W0.heap.size W0).alloc (Nat.le_refl _) (.cells #[.string j', .string n', .slice gb L' cb, .bool a', .bool b', .bool c', .bool d', .bool k'] 99)
 have y1 := It8.new W0 (.string j') (.string n') (.slice gb L' cb) (.bool a') (.bool b') (.bool c') (.bool d') (.bool k') 99
 have x1 := x0.ret al
 have q1 := q0.trans (al.mono q0.size)
 rw [s0] at y1
 obtain ⟨W1, hW1⟩ : ∃ W, W0.alloc (.cells #[.string j', .string n', .slice gb L' cb, .bool a', .bool b', .bool c', .bool d', .bool k'] 99) = W := ⟨_, rfl⟩
 rw [hW1] at x1 y1 q1
 have HW : Hid ((w.alloc (.cells #[.string j, .string n, .slice ga L ca, .bool a, .bool b, .bool c, .bool d, .bool k] 99)).alloc (.cells #[.string j', .string n', .slice gb L' cb, .bool a', .bool b', .bool c', .bool d', .bool k'] 99) = W1) := Lib.hid (by rw [hW0, hW1])
 have HG := Lib.hid CG
 have EQ := eql_sub
 have EG := eg_sub
 clear CG hW0 hW1 s0 al x0 q0
 cases E1 with
 | false =>
  obtain ⟨l, c0, c1, c2, c3, c4, c5, c6, c7, -, -, -, -, -, -, -, -⟩ := id x1
  obtain ⟨m, d0, d1, d2, d3, d4, d5, d6, d7, -, -, -, -, -, -, -, -⟩ := id y1
  go_enter Tryz.func140, Tryz.ntmps140
  go_wp2_with fail
  rw [HW.out]
  go_wp2_with fail
  go_ret
  exact ⟨rfl, q1⟩
 | true =>
  cases E2 with
  | false =>
   obtain ⟨l, c0, c1, c2, c3, c4, c5, c6, c7, -, -, -, -, -, -, -, -⟩ := id x1
   obtain ⟨m, d0, d1, d2, d3, d4, d5, d6, d7, -, -, -, -, -, -, -, -⟩ := id y1
   go_enter Tryz.func140, Tryz.ntmps140
   go_wp2_with fail
   rw [HW.out]
   go_wp2_with fail
   go_ret
   exact ⟨rfl, q1⟩
  | true =>
   cases G with
   | false =>
    obtain ⟨l, c0, c1, c2, c3, c4, c5, c6, c7, -, -, -, -, -, -, -, -⟩ := id x1
    obtain ⟨m, d0, d1, d2, d3, d4, d5, d6, d7, -, -, -, -, -, -, -, -⟩ := id y1
    go_enter Tryz.func140, Tryz.ntmps140
    go_wp2_with fail
    rw [HW.out]
    refine (HG.out _ q1).mono ?_
    rintro e w2 ⟨rfl, hb⟩
    clear l c0 c1 c2 c3 c4 c5 c6 c7 m d0 d1 d2 d3 d4 d5 d6 d7
    have x2 := x1.ret hb
    have y2 := y1.ret hb
    have q2 := q1.trans (hb.mono q1.size)
    clear hb x1 y1
    obtain ⟨l, c0, c1, c2, c3, c4, c5, c6, c7, -, -, -, -, -, -, -, -⟩ := x2
    obtain ⟨m, d0, d1, d2, d3, d4, d5, d6, d7, -, -, -, -, -, -, -, -⟩ := y2
    go_wp2_with fail
    go_ret
    exact ⟨by first | rfl | simp, q2⟩
   | true =>
    cases hs2 : decide ((a, b, c, d) = (a', b', c', d')) with
    | true =>
     have EQ2 := fun w => eql_sub a b c d a' b' c' d' w
     rw [hs2] at EQ2
     clear hs2 EQ
     obtain ⟨l, c0, c1, c2, c3, c4, c5, c6, c7, -, -, -, -, -, -, -, -⟩ := id x1
     obtain ⟨m, d0, d1, d2, d3, d4, d5, d6, d7, -, -, -, -, -, -, -, -⟩ := id y1
     go_enter Tryz.func140, Tryz.ntmps140
     go_wp2_with fail
     rw [HW.out]
     refine (HG.out _ q1).mono ?_
     rintro e w2 ⟨rfl, hb⟩
     clear l c0 c1 c2 c3 c4 c5 c6 c7 m d0 d1 d2 d3 d4 d5 d6 d7
     have x2 := x1.ret hb
     have y2 := y1.ret hb
     have q2 := q1.trans (hb.mono q1.size)
     clear hb x1 y1
     obtain ⟨l, c0, c1, c2, c3, c4, c5, c6, c7, -, -, -, -, -, -, -, -⟩ := x2
     obtain ⟨m, d0, d1, d2, d3, d4, d5, d6, d7, -, -, -, -, -, -, -, -⟩ := y2
     go_wp2_with fail
     go_ret
     exact ⟨by first | rfl | simp, q2⟩
    | false =>
     have EQ2 := fun w => eql_sub a b c d a' b' c' d' w
     rw [hs2] at EQ2
     clear hs2 EQ
     obtain ⟨l, c0, c1, c2, c3, c4, c5, c6, c7, -, -, -, -, -, -, -, -⟩ := id x1
     obtain ⟨m, d0, d1, d2, d3, d4, d5, d6, d7, -, -, -, -, -, -, -, -⟩ := id y1
     go_enter Tryz.func140, Tryz.ntmps140
     go_wp2_with fail
     rw [HW.out]
     refine (HG.out _ q1).mono ?_
     rintro e w2 ⟨rfl, hb⟩
     clear l c0 c1 c2 c3 c4 c5 c6 c7 m d0 d1 d2 d3 d4 d5 d6 d7
     have x2 := x1.ret hb
     have y2 := y1.ret hb
     have q2 := q1.trans (hb.mono q1.size)
     clear hb x1 y1
     obtain ⟨l, c0, c1, c2, c3, c4, c5, c6, c7, -, -, -, -, -, -, -, -⟩ := x2
     obtain ⟨m, d0, d1, d2, d3, d4, d5, d6, d7, -, -, -, -, -, -, -, -⟩ := y2
     go_wp2_with fail
     go_ret
     exact ⟨by first | rfl | simp, q2⟩
theorem ro_Same1 (p p' : Im) (w : World) (h : IsGrp (gvI p) p.1.g w) (h' : IsGrp (gvI p') p'.1.g w) (z : p.1.g.length ≤ 10000) (z' : p'.1.g.length ≤ 10000) :
  Calls Tryz.prog 140 #[itA p, itA p'] w (Ret w (.bool (decide (p.1 = p'.1)))) := by
 rw [it_eq]
 exact ro_Same1_w _ _ _ _ _ _ _ _ _ _ _ _ _ _ _ _ _ _ _ _ _ _ _ w (eqb_l _ _) (eqb_l _ _) (fun w' hb => ro_equal _ _ _ _ w' (h.ret hb) (h'.ret hb) z z')
end Go.Proofs.YtjgeiieiinmdnaaGreatDoor
namespace Go.Proofs.YtjgeiieiinmdnaaGreatDoor
open Go.RowKit Go.Lib

theorem e_Same1 : ∀ args w, (callFunc 140 args).run Tryz.prog w = .ok (.enter 140 args) w := enters_of Tryz.func140 (by kernel_rfl) rfl
theorem take_eq_step {α : Type} {A B : List α} {k : Nat} (hA : k < A.length) (hB : k < B.length) (h : A.take k = B.take k) (he : A[k] = B[k]) : A.take (k + 1) = B.take (k + 1) := by
 rw [List.take_succ_eq_append_getElem hA, List.take_succ_eq_append_getElem hB, h, he]
theorem ne_at {α : Type} {A B : List α} {k : Nat} (hA : k < A.length) (hB : k < B.length) (he : A[k] ≠ B[k]) : A ≠ B := fun h => by
 subst h
 exact he rfl
set_option maxHeartbeats 4000000 in
set_option maxRecDepth 100000 in
theorem sl_EqualFunc (v u : Value) (M K : List Im) (w : World) (hv : IsItems v M w) (hu : IsItems u K w) (hM : M.length ≤ 10000) (hK : K.length ≤ 10000) (hg : ∀ p ∈ M, p.1.g.length ≤ 10000) (hk : ∀ p ∈ K, p.1.g.length ≤ 10000) :
  Calls Tryz.prog 142 #[v, u, .func (.func 140) #[] #[]] w (Ret w (.bool (decide (M.map Prod.fst = K.map Prod.fst)))) := by
 obtain ⟨a, ca, hf1, -⟩ := hv.form
 obtain ⟨b, cb, hf2, -⟩ := hu.form
 obtain ⟨O, hO⟩ : ∃ O, decide (M.map Prod.fst = K.map Prod.fst) = O := ⟨_, rfl⟩
 obtain ⟨L, hL⟩ : ∃ L, M.length = L := ⟨_, rfl⟩
 obtain ⟨L', hL'⟩ : ∃ L, K.length = L := ⟨_, rfl⟩
 rw [hL] at hf1 hM
 rw [hL'] at hf2 hK
 rw [hO]
 subst hf1 hf2
 by_cases hlen : L = L'
 ·subst hlen
  have HO := Lib.hid hO
  have HL := Lib.hid hL
  have HL' := Lib.hid hL'
  have HV := Lib.hid hv
  have HU := Lib.hid hu
  have HG := Lib.hid hg
  have HK := Lib.hid hk
  have eg := e_Same1
  clear hO hL hL' hv hu hg hk
  go_enter Tryz.func142, Tryz.ntmps142
  go_wp2_with fail
  go_loopw [17] (fun i wx => ∃ k : Nat, k ≤ L ∧ i = .int .i64 k ∧ (M.map Prod.fst).take k = (K.map Prod.fst).take k ∧ Below w.heap.size w wx) (fun i _ => L - (intOf i).toNat)
  case atStart => exact ⟨0, Nat.zero_le _, rfl, rfl, Below.refl _ _⟩
  case round =>
   obtain ⟨k, hk, rfl, htk, hbw⟩ := hrel
   have hsz := hbw.size
   by_cases hlt : k < L
   ·have hkM : k < M.length := by rw [HL.out]; exact hlt
    have hkK : k < K.length := by rw [HL'.out]; exact hlt
    have hV := HV.out.ret hbw
    have hU := HU.out.ret hbw
    obtain ⟨B, off, cp, hf, hb0, hc⟩ := hV.cell hkM
    rw [HL.out] at hf
    simp only [Value.slice.injEq, true_and] at hf
    obtain ⟨rfl, rfl⟩ := hf
    obtain ⟨B', off', cp', hf, hb0', hc'⟩ := hU.cell hkK
    rw [HL'.out] at hf
    simp only [Value.slice.injEq, true_and] at hf
    obtain ⟨rfl, rfl⟩ := hf
    have hkm : k < (M.map Prod.fst).length := by simpa using hkM
    have hkk : k < (K.map Prod.fst).length := by simpa using hkK
    have hst : M[k].1 = K[k].1 → (M.map Prod.fst).take (k + 1) = (K.map Prod.fst).take (k + 1) := fun h => take_eq_step hkm hkk htk (by rw [List.getElem_map, List.getElem_map]; exact h)
    have hno : M[k].1 ≠ K[k].1 → O = false := fun h => by
     rw [← HO.out]
     exact decide_eq_false (ne_at hkm hkk (by rw [List.getElem_map, List.getElem_map]; exact h))
    have g1 := hV.2 M[k] (List.getElem_mem hkM)
    have g2 := hU.2 K[k] (List.getElem_mem hkK)
    have z1 := HG.out M[k] (List.getElem_mem hkM)
    have z2 := HK.out K[k] (List.getElem_mem hkK)
    obtain ⟨p, hp⟩ : ∃ p, M[k] = p := ⟨_, rfl⟩
    obtain ⟨p', hp'⟩ : ∃ p, K[k] = p := ⟨_, rfl⟩
    rw [hp] at hc hst hno g1 z1
    rw [hp'] at hc' hst hno g2 z2
    obtain ⟨c0, c1, c2, c3, c4, c5, c6, c7⟩ := hc
    obtain ⟨d0, d1, d2, d3, d4, d5, d6, d7⟩ := hc'
    have C := fun (w' : World) (hb : Below wr.heap.size wr w') => ro_Same1 p p' w' (g1.ret hb) (g2.ret hb) z1 z2
    have CH := Lib.hid C
    have HS := Lib.hid hst
    have HN := Lib.hid hno
    clear hp hp' hV hU hkm hkk hst hno g1 g2 z1 z2 C htk
    by_cases he : p.1 = p'.1
    ·have CC : ∀ (w' : World), Below wr.heap.size wr w' → Calls Tryz.prog 140 #[itA p, itA p'] w' (Ret w' (.bool true)) := fun w' hb => by
      have := CH.out w' hb
      rw [decide_eq_true he] at this
      exact this
     have CCH := Lib.hid CC
     have HT := Lib.hid (HS.out he)
     clear CC CH HS HN he
     have al := (Below.refl wr.heap.size wr).alloc (Nat.le_refl _) (.cells (itC p).toArray 99)
     have al2 := al.alloc al.size (.cells (itC p').toArray 99)
     go_wp2_with (go_at_fn 140; refine (CCH.out _ al2).mono ?_; rintro e w2 ⟨rfl, hb⟩)
     have q2 := (hbw.trans (al2.mono hsz)).trans (hb.mono (Nat.le_trans hsz al2.size))
     clear hb al al2
     go_wp2_with fail
     go_roundw
     case rel => exact ⟨k + 1, by omega, by go_num, HT.out, q2⟩
     case measure => simp [intOf]; omega
    ·have CC : ∀ (w' : World), Below wr.heap.size wr w' → Calls Tryz.prog 140 #[itA p, itA p'] w' (Ret w' (.bool false)) := fun w' hb => by
      have := CH.out w' hb
      rw [decide_eq_false he] at this
      exact this
     have CCH := Lib.hid CC
     have := HN.out he
     subst this
     clear CC CH HS HN he
     have al := (Below.refl wr.heap.size wr).alloc (Nat.le_refl _) (.cells (itC p).toArray 99)
     have al2 := al.alloc al.size (.cells (itC p').toArray 99)
     go_wp2_with (go_at_fn 140; refine (CCH.out _ al2).mono ?_; rintro e w2 ⟨rfl, hb⟩)
     have q2 := (hbw.trans (al2.mono hsz)).trans (hb.mono (Nat.le_trans hsz al2.size))
     clear hb al al2
     go_wp2_with fail
     go_ret
     exact ⟨rfl, q2⟩
   ·have e1 : (M.map Prod.fst).take k = M.map Prod.fst := List.take_of_length_le (by rw [List.length_map, HL.out]; omega)
    have e2 : (K.map Prod.fst).take k = K.map Prod.fst := List.take_of_length_le (by rw [List.length_map, HL'.out]; omega)
    rw [e1, e2] at htk
    have : O = true := by rw [← HO.out]; exact decide_eq_true htk
    subst this
    clear e1 e2 htk
    go_wp2_with fail
    go_ret
    exact ⟨rfl, hbw⟩
 ·have : O = false := by
   rw [← hO]
   refine decide_eq_false fun h => hlen ?_
   have := congrArg List.length h
   rw [List.length_map, List.length_map, hL, hL'] at this
   exact this
  subst this
  have e0 : ((L : Int) == (L' : Int)) = false := beq_eq_false_iff_ne.2 (by omega)
  clear hO hL hL' hv hu hg hk
  go_enter Tryz.func142, Tryz.ntmps142
  go_wp2_with fail
  go_ret
  exact ⟨rfl, Below.refl _ _⟩
set_option maxHeartbeats 2000000 in
theorem ro_Same (v u : Value) (M K : List Im) (w : World) (hv : IsItems v M w) (hu : IsItems u K w) (hM : M.length ≤ 10000) (hK : K.length ≤ 10000) (hg : ∀ p ∈ M, p.1.g.length ≤ 10000) (hk : ∀ p ∈ K, p.1.g.length ≤ 10000) (x y : Int) :
  Calls Tryz.prog 84 #[.agg #[v, .int .i64 x], .agg #[u, .int .i64 y]] w (Ret w (.bool (decide (M.map Prod.fst = K.map Prod.fst) && x == y))) := by
 obtain ⟨a, ca, rfl, -⟩ := hv.form
 obtain ⟨b, cb, rfl, -⟩ := hu.form
 have C := fun (w' : World) (hb : Below w.heap.size w w') => sl_EqualFunc _ _ M K w' (hv.ret hb) (hu.ret hb) hM hK hg hk
 obtain ⟨O, hO⟩ : ∃ O, decide (M.map Prod.fst = K.map Prod.fst) = O := ⟨_, rfl⟩
 rw [hO] at C ⊢
 obtain ⟨L, hL⟩ : ∃ L, M.length = L := ⟨_, rfl⟩
 obtain ⟨L', hL'⟩ : ∃ L, K.length = L := ⟨_, rfl⟩
 rw [hL, hL'] at C ⊢
 have CH := Lib.hid C
 clear C hv hu hg hk hO hL hL'
 have r0 := Two.new w (.slice a L ca) (.int .i64 x) 31
 have q0 := (Below.refl w.heap.size w).alloc (Nat.le_refl _) (.cells #[.slice a L ca, .int .i64 x] 31)
 obtain ⟨W0, hW0⟩ : ∃ W, w.alloc (.cells #[.slice a L ca, .int .i64 x] 31) = W := ⟨_, rfl⟩
 have s0 : W0.heap.size = w.heap.size + 1 := by rw [← hW0]; simp
 rw [hW0] at r0 q0
 have al := (Below.refl W0.heap.size W0).alloc (Nat.le_refl _) (.cells #[.slice b L' cb, .int .i64 y] 31)
 have t1 := Two.new W0 (.slice b L' cb) (.int .i64 y) 31
 have r1 := r0.ret al
 have q1 := q0.trans (al.mono q0.size)
 rw [s0] at t1
 obtain ⟨W1, hW1⟩ : ∃ W, W0.alloc (.cells #[.slice b L' cb, .int .i64 y] 31) = W := ⟨_, rfl⟩
 rw [hW1] at r1 t1 q1
 have HW : Hid ((w.alloc (.cells #[.slice a L ca, .int .i64 x] 31)).alloc (.cells #[.slice b L' cb, .int .i64 y] 31) = W1) := Lib.hid (by rw [hW0, hW1])
 clear hW0 hW1 s0 al r0 q0
 cases O with
 | true =>
  obtain ⟨l, c0, c1, -, -⟩ := id r1
  obtain ⟨m, d0, d1, -, -⟩ := id t1
  go_enter Tryz.func84, Tryz.ntmps84
  go_wp2_with fail
  rw [HW.out]
  go_wp2_with fail
  refine (CH.out _ q1).mono ?_
  rintro e w2 ⟨rfl, hb⟩
  clear l c0 c1 m d0 d1
  have r2 := r1.ret hb
  have t2 := t1.ret hb
  have q2 := q1.trans (hb.mono q1.size)
  clear hb r1 t1
  obtain ⟨l, c0, c1, -, -⟩ := r2
  obtain ⟨m, d0, d1, -, -⟩ := t2
  go_wp2_with fail
  go_ret
  exact ⟨by first | rfl | simp, q2⟩
 | false =>
  obtain ⟨l, c0, c1, -, -⟩ := id r1
  obtain ⟨m, d0, d1, -, -⟩ := id t1
  go_enter Tryz.func84, Tryz.ntmps84
  go_wp2_with fail
  rw [HW.out]
  go_wp2_with fail
  refine (CH.out _ q1).mono ?_
  rintro e w2 ⟨rfl, hb⟩
  clear l c0 c1 m d0 d1
  have r2 := r1.ret hb
  have t2 := t1.ret hb
  have q2 := q1.trans (hb.mono q1.size)
  clear hb r1 t1
  obtain ⟨l, c0, c1, -, -⟩ := r2
  obtain ⟨m, d0, d1, -, -⟩ := t2
  go_wp2_with fail
  go_ret
  exact ⟨by first | rfl | simp, q2⟩
end Go.Proofs.YtjgeiieiinmdnaaGreatDoor
