/- law21: RosterTells. -/
import Derived.Test.YtfonkblbgadhmaaGreatDoorKq
namespace Go.Proofs.YtfonkblbgadhmaaGreatDoor
open Go.RowKit Go.Lib

/-- what the document finds, as one value. -/
def F21' (w : World) (L : List It) (t : List UInt8) (e : Ending) (w' : World) : Prop := Below w.heap.size w w' ∧ ∃ p : Im, e = .returned (.tuple #[itA p, .bool (findL L t).isSome]) ∧ p.1 = (findL L t).getD it0 ∧ IsGrp (gvI p) p.1.g w'
theorem r21_Find' (v : Value) (ver : Int) (M : List Im) (t : ByteArray) (w : World) (hv : IsItems v M w) (hM : M.length ≤ 1000) :
    Calls Tryz.prog 11 #[.agg #[v, .int .i64 ver], .string t] w (F21' w (M.map Prod.fst) t.data.toList) := by
  refine (r21_Find v ver M t w hv hM).mono ?_
  rintro e w' ⟨hb, ⟨p, hp, h1, h2⟩ | ⟨h1, h2⟩⟩
  · exact ⟨hb, p, by rw [h2, h1]; rfl, by rw [h1]; rfl, (hv.2 p hp).ret hb⟩
  · exact ⟨hb, (it0, (none, 0)), by rw [h2, h1]; rfl, by rw [h1]; rfl, IsGrp.nil _⟩
theorem small_of {L : List It} {M : List Im} (h : greatP L = false) (hM : M.map Prod.fst = L) : SmallI M ∧ M.length ≤ 18 ∧ ∀ p ∈ M, p.1.g.length ≤ 10 := by
  obtain ⟨h1, h2⟩ := great_not h
  have hl : M.length ≤ 18 := by rw [← List.length_map (f := Prod.fst), hM]; exact h1
  refine ⟨⟨by omega, fun p hp => ?_⟩, hl, fun p hp => (h2 p.1 (by rw [← hM]; exact List.mem_map_of_mem hp)).2.2.1⟩
  obtain ⟨a, b, c, d⟩ := h2 p.1 (by rw [← hM]; exact List.mem_map_of_mem hp)
  exact ⟨by omega, by omega, by omega, fun x hx => by have := d x hx; omega⟩
theorem Two.retB {B L : Nat} {v0 v1 : Value} {w w' : World} (h : Two L v0 v1 w) (hb : Below B w w') (hl : L < B) : Two L v0 v1 w' :=
  ⟨Nat.lt_of_lt_of_le h.lt hb.size, (hb.cell (p := ⟨L, 0, none⟩) hl).trans h.c0, (hb.cell (p := ⟨L, 1, none⟩) hl).trans h.c1, (hb.frozen (p := ⟨L, 0, none⟩) hl).trans h.f0, (hb.frozen (p := ⟨L, 1, none⟩) hl).trans h.f1⟩
theorem shown_sub {L : List It} {M T : List Im} {x : Int} (hL : M.map Prod.fst = L) (hT : T.map Prod.fst = shownL L x) (h1 : M.length ≤ 18) (h2 : ∀ p ∈ M, p.1.g.length ≤ 10) : T.length ≤ 18 ∧ ∀ q ∈ T, q.1.g.length ≤ 10 := by
  have hs : ∀ y ∈ shownL L x, y ∈ L := fun y hy => by
    unfold shownL at hy
    split at hy
    · exact (List.mem_filter.1 hy).1
    · cases hy
  have hl : (shownL L x).length ≤ L.length := by
    unfold shownL
    split
    · exact List.length_filter_le _ _
    · exact Nat.zero_le _
  refine ⟨?_, fun q hq => ?_⟩
  · rw [← List.length_map (f := Prod.fst), hT]
    have e : L.length = M.length := by rw [← hL, List.length_map]
    omega
  · have := hs q.1 (by rw [← hT]; exact List.mem_map_of_mem hq)
    rw [← hL] at this
    obtain ⟨m, hm, e⟩ := List.mem_map.1 this
    rw [← e]
    exact h2 m hm
set_option maxHeartbeats 4000000 in
set_option maxRecDepth 100000 in
theorem tells21_small (v u : Value) (x y : Int) (M K : List Im) (s : ByteArray) (w : World) (hv : IsItems v M w) (hu : IsItems u K w) (hm : ML w)
    (h1 : greatP (M.map Prod.fst) = false) (h2 : greatP (K.map Prod.fst) = false) (h3 : s.size ≤ 500) :
    Calls Tryz.prog 3 #[.agg #[v, .int .i64 x], .agg #[u, .int .i64 y], .string s] w (Ret w (.bool true)) := by
  obtain ⟨hsM, hlM, hgM⟩ := small_of h1 rfl
  obtain ⟨hsK, hlK, hgK⟩ := small_of h2 rfl
  have k0 := Rr.new w v u x y
  obtain ⟨W, hW⟩ : ∃ W, (w.alloc (.cells #[v, .int .i64 x] 24)).alloc (.cells #[u, .int .i64 y] 24) = W := ⟨_, rfl⟩
  rw [hW] at k0
  have HW := Lib.hid hW
  have G1 := r21_Great v x M W (hv.ret k0.q)
  have G2 := fun (W' : World) (hb : Below w.heap.size w W') => r21_Great u y K W' (hu.ret hb)
  rw [h1] at G1
  rw [h2] at G2
  have hvr := fun (W' : World) (hb : Below w.heap.size w W') => hv.ret hb
  have hur := fun (W' : World) (hb : Below w.heap.size w W') => hu.ret hb
  have hmr := fun (W' : World) (hb : Below w.heap.size w W') => hm.ret hb
  obtain ⟨a, ca, rfl, -⟩ := hv.form
  obtain ⟨b, cb, rfl, -⟩ := hu.form
  have C1 := Lib.hid fun (W' : World) (hb : Below w.heap.size w W') => r21_Twin _ x M W' (hvr W' hb) hsM.1 (fun p hp => by have := hgM p hp; omega)
  have C2 := Lib.hid fun (W' : World) (hb : Below w.heap.size w W') => r21_Find' _ x M s W' (hvr W' hb) hsM.1
  have C3 := Lib.hid fun (W' : World) (hb : Below w.heap.size w W') => r21_Shown _ x M W' (hvr W' hb) hsM
  have HG1 := Lib.hid G1
  have HG2 := Lib.hid G2
  clear G1 G2
  have HVR := Lib.hid hvr
  have HUR := Lib.hid hur
  have HMR := Lib.hid hmr
  have g0 : ¬ (500 : Int) < s.size := by omega
  have LM := Lib.hid hlM
  have GM := Lib.hid hgM
  have B1 := Lib.hid h1
  have B2 := Lib.hid h2
  clear hv hu hW hvr hur hmr hm h1 h2 hsM hsK hlM hlK hgM hgK
  obtain ⟨x0, x1, x2, x3, x4⟩ := k0.A
  go_enter Tryz.func3, Tryz.ntmps3
  go_wp2_with fail
  rw [HW.out]
  go_wp2_with fail
  refine HG1.out.mono ?_
  rintro e w1 ⟨rfl, hb⟩
  have k1 := k0.ret hb
  clear hb x0 x1 x2 x3 x4
  obtain ⟨x0, x1, x2, x3, x4⟩ := k1.B
  go_wp2_with fail
  refine (HG2.out w1 k1.q).mono ?_
  rintro e w2 ⟨rfl, hb⟩
  have k2 := k1.ret hb
  clear hb x0 x1 x2 x3 x4
  obtain ⟨x0, x1, x2, x3, x4⟩ := k2.A
  go_wp2_with fail
  refine (C1.out w2 k2.q).mono ?_
  rintro e w3 ⟨a1, c1, rfl, N1, hN1, own1, hb⟩
  have al := (Below.refl w3.heap.size w3).alloc (Nat.le_refl _) (.cells #[.slice a1 (M.map Prod.fst).length c1, .int .i64 x] 24)
  have o7 := Two.new w3 (.slice a1 (M.map Prod.fst).length c1) (.int .i64 x) 24
  have k3 := (k2.ret hb).ret al
  have own3 := own1.ret al
  obtain ⟨V3, hV3⟩ : ∃ V, w3.alloc (.cells #[.slice a1 (M.map Prod.fst).length c1, .int .i64 x] 24) = V := ⟨_, rfl⟩
  rw [hV3] at o7 k3 own3
  have HV3 := Lib.hid hV3
  obtain ⟨hsN, hlN, hgN⟩ := small_of B1.out hN1
  have OW := Lib.hid own3
  have HN1 := Lib.hid hN1
  have D1 := Lib.hid (ro_Find _ x N1 s V3 own3.items hsN.1 (fun p hp => by have := hgN p hp; omega))
  have D2 := Lib.hid fun (W' : World) (hb : Below V3.heap.size V3 W') (hm : ML W') => ro_Shown _ x N1 W' (own3.ret hb).items hsN hm
  have D3 := Lib.hid fun (W' : World) (hb : Below V3.heap.size V3 W') => ro_Twin _ x N1 W' (own3.ret hb).items hsN.1 (fun p hp => by have := hgN p hp; omega)
  rw [List.length_map] at HV3 o7 D1 D2 D3 OW
  simp only [HN1.out] at D1 D2 D3
  obtain ⟨F, hF⟩ : ∃ F, findL (M.map Prod.fst) s.data.toList = F := ⟨_, rfl⟩
  have HF := Lib.hid hF
  clear hF
  obtain ⟨X, hX⟩ : ∃ X, F.getD it0 = X := ⟨_, rfl⟩
  obtain ⟨I, hI⟩ : ∃ I, F.isSome = I := ⟨_, rfl⟩
  have HX := Lib.hid hX
  have HI := Lib.hid hI
  obtain ⟨E, hE⟩ : ∃ E : Int, (if mayR (M.map Prod.fst) x then 0 else 8) = E := ⟨_, rfl⟩
  have HE := Lib.hid hE
  clear hE
  have z3 := Below.refl V3.heap.size V3
  clear hX hI hb al hV3 own1 own3 hN1 x0 x1 x2 x3 x4 hsN hlN hgN
  obtain ⟨x0, x1, x2, x3, x4⟩ := id o7
  go_wp2_with fail
  rw [HV3.out]
  go_wp2_with fail
  refine D1.out.mono ?_
  rintro e w4 ⟨a2, c2, rfl, g2, hb⟩
  rw [HF.out, HX.out] at g2
  rw [HF.out, HX.out, HI.out]
  have al := (Below.refl w4.heap.size w4).alloc (Nat.le_refl _) (.cells (itC (X, (a2, c2))).toArray 31)
  have o8 := It8.new w4 (.string ⟨X.j.toArray⟩) (.string ⟨X.n.toArray⟩) (gvI (X, (a2, c2))) (.bool X.s.1) (.bool X.s.2.1) (.bool X.s.2.2.1) (.bool X.s.2.2.2) (.bool X.k) 31
  have k4w := k3.ret hb
  have k4 := k4w.ret al
  have p7 := (o7.ret hb).ret al
  have z4 := z3.trans (hb.trans (al.mono hb.size))
  have g8 := (IsGrp.own g2).ret al
  obtain ⟨V4, hV4⟩ : ∃ V, w4.alloc (.cells (itC (X, (a2, c2))).toArray 31) = V := ⟨_, rfl⟩
  rw [hV4] at o8 k4 p7 z4 g8
  have HV4 := Lib.hid hV4
  have G8 := Lib.hid g8
  clear hb al hV4 g2 g8 x0 x1 x2 x3 x4 k3 o7 z3
  obtain ⟨x0, x1, x2, x3, x4⟩ := k4w.A
  clear k4w
  go_wp2_with fail
  rw [HV4.out]
  refine (C2.out V4 k4.q).mono ?_
  rintro e w5 ⟨hb, p, rfl, hp, gp⟩
  rw [HF.out, HX.out] at hp
  rw [HF.out, HI.out]
  have al := (Below.refl w5.heap.size w5).alloc (Nat.le_refl _) (.cells (itC p).toArray 31)
  have o10 := It8.new w5 (.string ⟨p.1.j.toArray⟩) (.string ⟨p.1.n.toArray⟩) (gvI p) (.bool p.1.s.1) (.bool p.1.s.2.1) (.bool p.1.s.2.2.1) (.bool p.1.s.2.2.2) (.bool p.1.k) 31
  have k5 := (k4.ret hb).ret al
  have q7w := p7.ret hb
  have q7 := q7w.ret al
  have p8 := (o8.ret hb).ret al
  have z5 := z4.trans ((hb.mono z4.size).trans (al.mono (Nat.le_trans z4.size hb.size)))
  have g8 := Lib.hid ((G8.out.ret hb).ret al)
  have g10 := gp.ret al
  obtain ⟨V5, hV5⟩ : ∃ V, w5.alloc (.cells (itC p).toArray 31) = V := ⟨_, rfl⟩
  rw [hV5] at o10 k5 q7 p8 z5 g8 g10
  have HV5 := Lib.hid hV5
  have hl7 := q7.lt
  have hlA := k5.A.lt
  have hs35 := z5.size
  have hsw5 := k5.q.size
  have G10 := Lib.hid g10
  have HP := Lib.hid hp
  clear hb al hV5 gp g10 x0 x1 x2 x3 x4 k4 p7 z4 o8 G8 hp
  obtain ⟨x0, x1, x2, x3, x4⟩ := q7w
  go_wp2_with fail
  rw [HV5.out]
  refine (D2.out V5 z5 (HMR.out V5 k5.q)).mono ?_
  rintro e w6 ⟨a3, c3, rfl, M3, hM3, own3, hb⟩
  rw [HE.out]
  have k6 := k5.ret hb
  have r7 := q7.ret hb
  have q8 := p8.ret hb
  have p10 := o10.ret hb
  have z6 := z5.trans (hb.mono z5.size)
  have H8 := Lib.hid (g8.out.ret hb)
  have H10 := Lib.hid (G10.out.ret hb)
  have O3 := Lib.hid own3
  have HM3 := Lib.hid hM3
  clear hb x0 x1 x2 x3 x4 k5 q7 p8 o10 z5 g8 G10 own3 hM3
  obtain ⟨x0, x1, x2, x3, x4⟩ := k6.A
  go_wp2_with fail
  refine (C3.out w6 k6.q).mono ?_
  rintro e w7 ⟨a4, c4, rfl, M4, hM4, own4, hb⟩
  rw [HE.out]
  have k7 := k6.ret hb
  have s7 := r7.ret hb
  have r8 := q8.ret hb
  have q10 := p10.ret hb
  have z7 := z6.trans (hb.mono z6.size)
  have I8 := Lib.hid (H8.out.ret hb)
  have I10 := Lib.hid (H10.out.ret hb)
  have P3 := Lib.hid (O3.out.ret hb)
  have O4 := Lib.hid own4
  have HM4 := Lib.hid hM4
  clear hb x0 x1 x2 x3 x4 k6 r7 q8 p10 z6 H8 H10 O3 own4 hM4
  obtain ⟨x0, x1, x2, x3, x4⟩ := id s7
  go_wp2_with fail
  refine (D3.out w7 z7).mono ?_
  rintro e w8 ⟨a5, c5, rfl, M5, hM5, own5, hb⟩
  have al := (Below.refl w8.heap.size w8).alloc (Nat.le_refl _) (.cells #[.slice a5 (M.map Prod.fst).length c5, .int .i64 x] 24)
  have o16 := Two.new w8 (.slice a5 (M.map Prod.fst).length c5) (.int .i64 x) 24
  have k8 := (k7.ret hb).ret al
  have t7 := (s7.ret hb).ret al
  have s8 := (r8.ret hb).ret al
  have r10 := (q10.ret hb).ret al
  have z8 := z7.trans ((hb.mono z7.size).trans (al.mono (Nat.le_trans z7.size hb.size)))
  have J8 := Lib.hid ((I8.out.ret hb).ret al)
  have J10 := Lib.hid ((I10.out.ret hb).ret al)
  have Q3 := Lib.hid ((P3.out.ret hb).ret al)
  have P4 := Lib.hid ((O4.out.ret hb).ret al)
  have O5 := Lib.hid (own5.ret al)
  have HM5 := Lib.hid hM5
  have LC1 := Lib.hid fun g (h : (Value.slice a3 (shownL (M.map Prod.fst) x).length c3).ownBlock = some g) => (P3.out.1.lt g h).2
  have LC2 := Lib.hid fun q (hq : q ∈ M3) g (h : (gvI q).ownBlock = some g) => ((P3.out.2 q hq).lt g h).2
  have hs37 := z7.size
  have hsw7 := k7.q.size
  have hl77 := s7.lt
  have hlA7 := k7.A.lt
  have hs7 := hb.size
  obtain ⟨V8, hV8⟩ : ∃ V, w8.alloc (.cells #[.slice a5 (M.map Prod.fst).length c5, .int .i64 x] 24) = V := ⟨_, rfl⟩
  rw [hV8] at o16 k8 t7 s8 r10 z8 J8 J10 Q3 P4 O5
  have HV8 := Lib.hid hV8
  rw [List.length_map] at HV8 o16 O5
  clear hb al hV8 x0 x1 x2 x3 x4 k7 s7 r8 q10 z7 I8 I10 P3 O4 own5 hM5
  go_wp2_with fail
  rw [HV8.out]
  have hXg : X.g.length ≤ 10 := by
    rw [← HX.out]
    cases hF2 : F with
    | none => exact Nat.zero_le _
    | some q =>
      have h := HF.out
      rw [hF2] at h
      unfold findL at h
      obtain ⟨m, hmM, e⟩ := List.mem_map.1 (List.mem_of_find?_eq_some h)
      have := GM.out m hmM
      rw [e] at this
      exact this
  have CS1 := Lib.hid fun (W' : World) (hb : Below V8.heap.size V8 W') => show Calls Tryz.prog 15 #[itA (X, (a2, c2)), itA p] W' (Ret W' (.bool true)) by
    have h := r21_SameItem (X, (a2, c2)) p W' (J8.out.ret hb) (J10.out.ret hb) (by show X.g.length ≤ 10000; omega) (by rw [HP.out]; omega)
    have e : decide ((X, (a2, c2)).1 = p.1) = true := decide_eq_true HP.out.symm
    rw [e] at h
    exact h
  obtain ⟨l3, g3⟩ := shown_sub rfl HM3.out LM.out GM.out
  obtain ⟨l4, g4⟩ := shown_sub rfl HM4.out LM.out GM.out
  have CS2 := Lib.hid fun (W' : World) (hb : Below V8.heap.size V8 W') => show Calls Tryz.prog 16 #[.slice a3 (shownL (M.map Prod.fst) x).length c3, .slice a4 (shownL (M.map Prod.fst) x).length c4] W' (Ret W' (.bool true)) by
    have h := r21_SameItems _ _ M3 M4 W' (Q3.out.ret hb).items (P4.out.ret hb).items (by omega) (by omega) (fun q hq => by have := g3 q hq; omega) (fun q hq => by have := g4 q hq; omega)
    have e : decide (M3.map Prod.fst = M4.map Prod.fst) = true := decide_eq_true (by rw [HM3.out, HM4.out])
    rw [e] at h
    exact h
  have CK1 := Lib.hid fun (W' : World) (hb : Below V8.heap.size V8 W') => show Calls Tryz.prog 17 #[.agg #[.slice a1 M.length c1, .int .i64 x]] W' (Ret W' (.int .i64 E)) by
    have h := ro_Check _ x N1 W' (OW.out.ret (z8.trans (hb.mono z8.size))).items (small_of B1.out HN1.out).1 (HMR.out W' (k8.q.trans (hb.mono k8.q.size)))
    rw [HN1.out, HE.out] at h
    exact h
  have CK2 := Lib.hid fun (W' : World) (hb : Below V8.heap.size V8 W') => show Calls Tryz.prog 18 #[.agg #[.slice a M.length ca, .int .i64 x]] W' (Ret W' (.int .i64 E)) by
    have h := r21_Check _ x M W' (HVR.out W' (k8.q.trans (hb.mono k8.q.size))) (small_of B1.out rfl).1
    rw [HE.out] at h
    exact h
  clear hXg l3 g3 l4 g4
  obtain ⟨Bq, hBq⟩ : ∃ Bq, (decide (M.map Prod.fst = K.map Prod.fst) && x == y) = Bq := ⟨_, rfl⟩
  have CT1 := Lib.hid fun (W' : World) (hb : Below V8.heap.size V8 W') => show Calls Tryz.prog 19 #[.agg #[.slice a1 M.length c1, .int .i64 x], .agg #[.slice b K.length cb, .int .i64 y]] W' (Ret W' (.bool Bq)) by
    have h := ro_Same _ _ N1 K W' (OW.out.ret (z8.trans (hb.mono z8.size))).items (HUR.out W' (k8.q.trans (hb.mono k8.q.size))) (by have := (small_of B1.out HN1.out).1.1; omega) (by have := (small_of B2.out rfl).1.1; omega) (fun q hq => by have := ((small_of B1.out HN1.out).1.2 q hq).2.2.1; omega) (fun q hq => by have := ((small_of B2.out rfl).1.2 q hq).2.2.1; omega) x y
    rw [HN1.out, hBq] at h
    exact h
  have CT2 := Lib.hid fun (W' : World) (hb : Below V8.heap.size V8 W') => show Calls Tryz.prog 20 #[.agg #[.slice a M.length ca, .int .i64 x], .agg #[.slice b K.length cb, .int .i64 y]] W' (Ret W' (.bool Bq)) by
    have h := r21_Same _ _ M K W' (HVR.out W' (k8.q.trans (hb.mono k8.q.size))) (HUR.out W' (k8.q.trans (hb.mono k8.q.size))) (by have := (small_of B1.out rfl).1.1; omega) (by have := (small_of B2.out rfl).1.1; omega) (fun q hq => by have := ((small_of B1.out rfl).1.2 q hq).2.2.1; omega) (fun q hq => by have := ((small_of B2.out rfl).1.2 q hq).2.2.1; omega) x y
    rw [hBq] at h
    exact h
  have CT3 := Lib.hid fun (W' : World) (hb : Below V8.heap.size V8 W') => show Calls Tryz.prog 19 #[.agg #[.slice a1 M.length c1, .int .i64 x], .agg #[.slice a M.length ca, .int .i64 x]] W' (Ret W' (.bool true)) by
    have h := ro_Same _ _ N1 M W' (OW.out.ret (z8.trans (hb.mono z8.size))).items (HVR.out W' (k8.q.trans (hb.mono k8.q.size))) (by have := (small_of B1.out HN1.out).1.1; omega) (by have := (small_of B1.out rfl).1.1; omega) (fun q hq => by have := ((small_of B1.out HN1.out).1.2 q hq).2.2.1; omega) (fun q hq => by have := ((small_of B1.out rfl).1.2 q hq).2.2.1; omega) x x
    rw [HN1.out] at h; rw [decide_eq_true rfl, Bool.true_and, beq_self_eq_true] at h
    exact h
  have CT4 := Lib.hid fun (W' : World) (hb : Below V8.heap.size V8 W') => show Calls Tryz.prog 20 #[.agg #[.slice a5 M.length c5, .int .i64 x], .agg #[.slice a M.length ca, .int .i64 x]] W' (Ret W' (.bool true)) by
    have h := r21_Same _ _ M5 M W' (O5.out.ret hb).items (HVR.out W' (k8.q.trans (hb.mono k8.q.size))) (by have := (small_of B1.out HM5.out).1.1; omega) (by have := (small_of B1.out rfl).1.1; omega) (fun q hq => by have := ((small_of B1.out HM5.out).1.2 q hq).2.2.1; omega) (fun q hq => by have := ((small_of B1.out rfl).1.2 q hq).2.2.1; omega) x x
    rw [HM5.out] at h; rw [decide_eq_true rfl, Bool.true_and, beq_self_eq_true] at h
    exact h
  clear hBq
  have zz1 := Below.drew (Below.refl V8.heap.size V8)
  refine wp_region_held_drew (S := fun w' => w'.cell? ⟨w4.heap.size, 0, none⟩ = some (.string ⟨X.j.toArray⟩) ∧ w'.cell? ⟨w4.heap.size, 1, none⟩ = some (.string ⟨X.n.toArray⟩) ∧ w'.cell? ⟨w4.heap.size, 2, none⟩ = some (gvI (X, (a2, c2))) ∧ w'.cell? ⟨w4.heap.size, 3, none⟩ = some (.bool X.s.1) ∧ w'.cell? ⟨w4.heap.size, 4, none⟩ = some (.bool X.s.2.1) ∧ w'.cell? ⟨w4.heap.size, 5, none⟩ = some (.bool X.s.2.2.1) ∧ w'.cell? ⟨w4.heap.size, 6, none⟩ = some (.bool X.s.2.2.2) ∧ w'.cell? ⟨w4.heap.size, 7, none⟩ = some (.bool X.k) ∧ w'.cell? ⟨w5.heap.size, 0, none⟩ = some (.string ⟨p.1.j.toArray⟩) ∧ w'.cell? ⟨w5.heap.size, 1, none⟩ = some (.string ⟨p.1.n.toArray⟩) ∧ w'.cell? ⟨w5.heap.size, 2, none⟩ = some (gvI p) ∧ w'.cell? ⟨w5.heap.size, 3, none⟩ = some (.bool p.1.s.1) ∧ w'.cell? ⟨w5.heap.size, 4, none⟩ = some (.bool p.1.s.2.1) ∧ w'.cell? ⟨w5.heap.size, 5, none⟩ = some (.bool p.1.s.2.2.1) ∧ w'.cell? ⟨w5.heap.size, 6, none⟩ = some (.bool p.1.s.2.2.2) ∧ w'.cell? ⟨w5.heap.size, 7, none⟩ = some (.bool p.1.k) ∧ w'.cell? ⟨w3.heap.size, 0, none⟩ = some (.slice a1 M.length c1) ∧ w'.cell? ⟨w3.heap.size, 1, none⟩ = some (.int .i64 x) ∧ w'.cell? ⟨w.heap.size, 0, none⟩ = some (.slice a M.length ca) ∧ w'.cell? ⟨w.heap.size, 1, none⟩ = some (.int .i64 x)) (by kernel_rfl) ⟨(s8.ret zz1).c0, (s8.ret zz1).c1, (s8.ret zz1).c2, (s8.ret zz1).c3, (s8.ret zz1).c4, (s8.ret zz1).c5, (s8.ret zz1).c6, (s8.ret zz1).c7, (r10.ret zz1).c0, (r10.ret zz1).c1, (r10.ret zz1).c2, (r10.ret zz1).c3, (r10.ret zz1).c4, (r10.ret zz1).c5, (r10.ret zz1).c6, (r10.ret zz1).c7, (t7.ret zz1).c0, (t7.ret zz1).c1, (k8.A.ret zz1).c0, (k8.A.ret zz1).c1⟩ (fun hHeld => ?_)
  generalize V8.drew = V9 at zz1 hHeld ⊢
  refine tk_on (i := 0) (some 56) (v := ?_) (by kernel_rfl) (by kernel_rfl) (by kernel_rfl) (by kernel_rfl) (fun _ _ _ h => h) (by assumption) (fun o ho w' hSw => ?_) ?_
  rotate_left
  · (simp only [List.getElem?_toArray, List.getElem?_cons_zero, Option.some.injEq] at ho; subst ho; (try dsimp only at hSw); go_simp; try with_reducible rfl)
  simp only [Act.put, List.setIfInBounds_toArray, List.set_cons_zero, List.set_cons_succ]
  refine tk_on (i := 1) (some 57) (v := ?_) (by kernel_rfl) (by kernel_rfl) (by kernel_rfl) (by kernel_rfl) (fun _ _ _ h => h) (by assumption) (fun o ho w' hSw => ?_) ?_
  rotate_left
  · (simp only [List.getElem?_toArray, List.getElem?_cons_succ, List.getElem?_cons_zero, Option.some.injEq] at ho; subst ho; (try dsimp only at hSw); go_simp; try with_reducible rfl)
  simp only [Act.put, List.setIfInBounds_toArray, List.set_cons_zero, List.set_cons_succ]
  refine tk_call (i := 2) (by kernel_rfl) (by kernel_rfl) (fun o ho K hK => ?_)
  simp only [List.getElem?_toArray, List.getElem?_cons_succ, List.getElem?_cons_zero, Option.some.injEq] at ho
  subst ho
  go_simp
  refine (CS1.out _ zz1).mono ?_
  rintro e u2 ⟨rfl, hb⟩
  have zz2 := zz1.trans (hb.mono zz1.size)
  clear hb zz1
  go_simp
  clear hHeld
  refine hK.out _ _ ⟨(s8.ret zz2).c0, (s8.ret zz2).c1, (s8.ret zz2).c2, (s8.ret zz2).c3, (s8.ret zz2).c4, (s8.ret zz2).c5, (s8.ret zz2).c6, (s8.ret zz2).c7, (r10.ret zz2).c0, (r10.ret zz2).c1, (r10.ret zz2).c2, (r10.ret zz2).c3, (r10.ret zz2).c4, (r10.ret zz2).c5, (r10.ret zz2).c6, (r10.ret zz2).c7, (t7.ret zz2).c0, (t7.ret zz2).c1, (k8.A.ret zz2).c0, (k8.A.ret zz2).c1⟩ (fun hHeld => ?_)
  clear hK K
  refine tk_on (i := 3) (some 59) (v := ?_) (by kernel_rfl) (by kernel_rfl) (by kernel_rfl) (by kernel_rfl) (fun _ _ _ h => h) (by assumption) (fun o ho w' hSw => ?_) ?_
  rotate_left
  · (simp only [List.getElem?_toArray, List.getElem?_cons_succ, List.getElem?_cons_zero, Option.some.injEq] at ho; subst ho; (try dsimp only at hSw); go_simp; try with_reducible rfl)
  simp only [Act.put, List.setIfInBounds_toArray, List.set_cons_zero, List.set_cons_succ]
  refine tk_on (i := 4) (some 60) (v := ?_) (by kernel_rfl) (by kernel_rfl) (by kernel_rfl) (by kernel_rfl) (fun _ _ _ h => h) (by assumption) (fun o ho w' hSw => ?_) ?_
  rotate_left
  · (simp only [List.getElem?_toArray, List.getElem?_cons_succ, List.getElem?_cons_zero, Option.some.injEq] at ho; subst ho; (try dsimp only at hSw); go_simp; try with_reducible rfl)
  simp only [Act.put, List.setIfInBounds_toArray, List.set_cons_zero, List.set_cons_succ]
  refine tk_on (i := 5) (some 61) (v := ?_) (by kernel_rfl) (by kernel_rfl) (by kernel_rfl) (by kernel_rfl) (fun _ _ _ h => h) (by assumption) (fun o ho w' hSw => ?_) ?_
  rotate_left
  · (simp only [List.getElem?_toArray, List.getElem?_cons_succ, List.getElem?_cons_zero, Option.some.injEq] at ho; subst ho; (try dsimp only at hSw); go_simp; try with_reducible rfl)
  simp only [Act.put, List.setIfInBounds_toArray, List.set_cons_zero, List.set_cons_succ]
  refine tk_on (i := 6) (some 62) (v := ?_) (by kernel_rfl) (by kernel_rfl) (by kernel_rfl) (by kernel_rfl) (fun _ _ _ h => h) (by assumption) (fun o ho w' hSw => ?_) ?_
  rotate_left
  · (simp only [List.getElem?_toArray, List.getElem?_cons_succ, List.getElem?_cons_zero, Option.some.injEq] at ho; subst ho; (try dsimp only at hSw); go_simp; try with_reducible rfl)
  simp only [Act.put, List.setIfInBounds_toArray, List.set_cons_zero, List.set_cons_succ]
  refine tk_on (i := 7) (some 63) (v := ?_) (by kernel_rfl) (by kernel_rfl) (by kernel_rfl) (by kernel_rfl) (fun _ _ _ h => h) (by assumption) (fun o ho w' hSw => ?_) ?_
  rotate_left
  · (simp only [List.getElem?_toArray, List.getElem?_cons_succ, List.getElem?_cons_zero, Option.some.injEq] at ho; subst ho; (try dsimp only at hSw); go_simp; try with_reducible rfl)
  simp only [Act.put, List.setIfInBounds_toArray, List.set_cons_zero, List.set_cons_succ]
  refine tk_on (i := 8) (some 64) (v := ?_) (by kernel_rfl) (by kernel_rfl) (by kernel_rfl) (by kernel_rfl) (fun _ _ _ h => h) (by assumption) (fun o ho w' hSw => ?_) ?_
  rotate_left
  · (simp only [List.getElem?_toArray, List.getElem?_cons_succ, List.getElem?_cons_zero, Option.some.injEq] at ho; subst ho; (try dsimp only at hSw); go_simp; try with_reducible rfl)
  simp only [Act.put, List.setIfInBounds_toArray, List.set_cons_zero, List.set_cons_succ]
  refine tk_on (i := 9) (some 65) (v := ?_) (by kernel_rfl) (by kernel_rfl) (by kernel_rfl) (by kernel_rfl) (fun _ _ _ h => h) (by assumption) (fun o ho w' hSw => ?_) ?_
  rotate_left
  · (simp only [List.getElem?_toArray, List.getElem?_cons_succ, List.getElem?_cons_zero, Option.some.injEq] at ho; subst ho; (try dsimp only at hSw); go_simp; try with_reducible rfl)
  simp only [Act.put, List.setIfInBounds_toArray, List.set_cons_zero, List.set_cons_succ]
  refine tk_on (i := 10) (some 66) (v := ?_) (by kernel_rfl) (by kernel_rfl) (by kernel_rfl) (by kernel_rfl) (fun _ _ _ h => h) (by assumption) (fun o ho w' hSw => ?_) ?_
  rotate_left
  · (simp only [List.getElem?_toArray, List.getElem?_cons_succ, List.getElem?_cons_zero, Option.some.injEq] at ho; subst ho; (try dsimp only at hSw); go_simp; try with_reducible rfl)
  simp only [Act.put, List.setIfInBounds_toArray, List.set_cons_zero, List.set_cons_succ]
  refine tk_call (i := 11) (by kernel_rfl) (by kernel_rfl) (fun o ho K hK => ?_)
  simp only [List.getElem?_toArray, List.getElem?_cons_succ, List.getElem?_cons_zero, Option.some.injEq] at ho
  subst ho
  go_simp
  refine (CS2.out _ zz2).mono ?_
  rintro e u3 ⟨rfl, hb⟩
  have zz3 := zz2.trans (hb.mono zz2.size)
  clear hb zz2
  go_simp
  clear hHeld
  refine hK.out _ _ ⟨(s8.ret zz3).c0, (s8.ret zz3).c1, (s8.ret zz3).c2, (s8.ret zz3).c3, (s8.ret zz3).c4, (s8.ret zz3).c5, (s8.ret zz3).c6, (s8.ret zz3).c7, (r10.ret zz3).c0, (r10.ret zz3).c1, (r10.ret zz3).c2, (r10.ret zz3).c3, (r10.ret zz3).c4, (r10.ret zz3).c5, (r10.ret zz3).c6, (r10.ret zz3).c7, (t7.ret zz3).c0, (t7.ret zz3).c1, (k8.A.ret zz3).c0, (k8.A.ret zz3).c1⟩ (fun hHeld => ?_)
  clear hK K
  refine tk_on (i := 12) (some 68) (v := ?_) (by kernel_rfl) (by kernel_rfl) (by kernel_rfl) (by kernel_rfl) (fun _ _ _ h => h) (by assumption) (fun o ho w' hSw => ?_) ?_
  rotate_left
  · (simp only [List.getElem?_toArray, List.getElem?_cons_succ, List.getElem?_cons_zero, Option.some.injEq] at ho; subst ho; (try dsimp only at hSw); go_simp; try with_reducible rfl)
  simp only [Act.put, List.setIfInBounds_toArray, List.set_cons_zero, List.set_cons_succ]
  refine tk_on (i := 13) (some 69) (v := ?_) (by kernel_rfl) (by kernel_rfl) (by kernel_rfl) (by kernel_rfl) (fun _ _ _ h => h) (by assumption) (fun o ho w' hSw => ?_) ?_
  rotate_left
  · (simp only [List.getElem?_toArray, List.getElem?_cons_succ, List.getElem?_cons_zero, Option.some.injEq] at ho; subst ho; (try dsimp only at hSw); go_simp; try with_reducible rfl)
  simp only [Act.put, List.setIfInBounds_toArray, List.set_cons_zero, List.set_cons_succ]
  refine tk_on (i := 14) (some 70) (v := ?_) (by kernel_rfl) (by kernel_rfl) (by kernel_rfl) (by kernel_rfl) (fun _ _ _ h => h) (by assumption) (fun o ho w' hSw => ?_) ?_
  rotate_left
  · (simp only [List.getElem?_toArray, List.getElem?_cons_succ, List.getElem?_cons_zero, Option.some.injEq] at ho; subst ho; (try dsimp only at hSw); go_simp; try with_reducible rfl)
  simp only [Act.put, List.setIfInBounds_toArray, List.set_cons_zero, List.set_cons_succ]
  refine tk_on (i := 15) (some 71) (v := ?_) (by kernel_rfl) (by kernel_rfl) (by kernel_rfl) (by kernel_rfl) (fun _ _ _ h => h) (by assumption) (fun o ho w' hSw => ?_) ?_
  rotate_left
  · (simp only [List.getElem?_toArray, List.getElem?_cons_succ, List.getElem?_cons_zero, Option.some.injEq] at ho; subst ho; (try dsimp only at hSw); go_simp; try with_reducible rfl)
  simp only [Act.put, List.setIfInBounds_toArray, List.set_cons_zero, List.set_cons_succ]
  refine tk_on (i := 16) (some 72) (v := ?_) (by kernel_rfl) (by kernel_rfl) (by kernel_rfl) (by kernel_rfl) (fun _ _ _ h => h) (by assumption) (fun o ho w' hSw => ?_) ?_
  rotate_left
  · (simp only [List.getElem?_toArray, List.getElem?_cons_succ, List.getElem?_cons_zero, Option.some.injEq] at ho; subst ho; (try dsimp only at hSw); go_simp; try with_reducible rfl)
  simp only [Act.put, List.setIfInBounds_toArray, List.set_cons_zero, List.set_cons_succ]
  refine tk_on (i := 17) (some 73) (v := ?_) (by kernel_rfl) (by kernel_rfl) (by kernel_rfl) (by kernel_rfl) (fun _ _ _ h => h) (by assumption) (fun o ho w' hSw => ?_) ?_
  rotate_left
  · (simp only [List.getElem?_toArray, List.getElem?_cons_succ, List.getElem?_cons_zero, Option.some.injEq] at ho; subst ho; (try dsimp only at hSw); go_simp; try with_reducible rfl)
  simp only [Act.put, List.setIfInBounds_toArray, List.set_cons_zero, List.set_cons_succ]
  refine tk_on (i := 18) (some 74) (v := ?_) (by kernel_rfl) (by kernel_rfl) (by kernel_rfl) (by kernel_rfl) (fun _ _ _ h => h) (by assumption) (fun o ho w' hSw => ?_) ?_
  rotate_left
  · (simp only [List.getElem?_toArray, List.getElem?_cons_succ, List.getElem?_cons_zero, Option.some.injEq] at ho; subst ho; (try dsimp only at hSw); go_simp; try with_reducible rfl)
  simp only [Act.put, List.setIfInBounds_toArray, List.set_cons_zero, List.set_cons_succ]
  refine tk_on (i := 19) (some 75) (v := ?_) (by kernel_rfl) (by kernel_rfl) (by kernel_rfl) (by kernel_rfl) (fun _ _ _ h => h) (by assumption) (fun o ho w' hSw => ?_) ?_
  rotate_left
  · (simp only [List.getElem?_toArray, List.getElem?_cons_succ, List.getElem?_cons_zero, Option.some.injEq] at ho; subst ho; (try dsimp only at hSw); go_simp; try with_reducible rfl)
  simp only [Act.put, List.setIfInBounds_toArray, List.set_cons_zero, List.set_cons_succ]
  refine tk_on (i := 21) (some 77) (v := ?_) (by kernel_rfl) (by kernel_rfl) (by kernel_rfl) (by kernel_rfl) (fun _ _ _ h => h) (by assumption) (fun o ho w' hSw => ?_) ?_
  rotate_left
  · (simp only [List.getElem?_toArray, List.getElem?_cons_succ, List.getElem?_cons_zero, Option.some.injEq] at ho; subst ho; (try dsimp only at hSw); go_simp; try with_reducible rfl)
  simp only [Act.put, List.setIfInBounds_toArray, List.set_cons_zero, List.set_cons_succ]
  refine tk_call (i := 20) (by kernel_rfl) (by kernel_rfl) (fun o ho K hK => ?_)
  simp only [List.getElem?_toArray, List.getElem?_cons_succ, List.getElem?_cons_zero, Option.some.injEq] at ho
  subst ho
  go_simp
  refine (CK1.out _ zz3).mono ?_
  rintro e u4 ⟨rfl, hb⟩
  have zz4 := zz3.trans (hb.mono zz3.size)
  clear hb zz3
  go_simp
  clear hHeld
  refine hK.out _ _ ⟨(s8.ret zz4).c0, (s8.ret zz4).c1, (s8.ret zz4).c2, (s8.ret zz4).c3, (s8.ret zz4).c4, (s8.ret zz4).c5, (s8.ret zz4).c6, (s8.ret zz4).c7, (r10.ret zz4).c0, (r10.ret zz4).c1, (r10.ret zz4).c2, (r10.ret zz4).c3, (r10.ret zz4).c4, (r10.ret zz4).c5, (r10.ret zz4).c6, (r10.ret zz4).c7, (t7.ret zz4).c0, (t7.ret zz4).c1, (k8.A.ret zz4).c0, (k8.A.ret zz4).c1⟩ (fun hHeld => ?_)
  clear hK K
  refine tk_call (i := 22) (by kernel_rfl) (by kernel_rfl) (fun o ho K hK => ?_)
  simp only [List.getElem?_toArray, List.getElem?_cons_succ, List.getElem?_cons_zero, Option.some.injEq] at ho
  subst ho
  go_simp
  refine (CK2.out _ zz4).mono ?_
  rintro e u5 ⟨rfl, hb⟩
  have zz5 := zz4.trans (hb.mono zz4.size)
  clear hb zz4
  go_simp
  clear hHeld
  refine hK.out _ _ ⟨(s8.ret zz5).c0, (s8.ret zz5).c1, (s8.ret zz5).c2, (s8.ret zz5).c3, (s8.ret zz5).c4, (s8.ret zz5).c5, (s8.ret zz5).c6, (s8.ret zz5).c7, (r10.ret zz5).c0, (r10.ret zz5).c1, (r10.ret zz5).c2, (r10.ret zz5).c3, (r10.ret zz5).c4, (r10.ret zz5).c5, (r10.ret zz5).c6, (r10.ret zz5).c7, (t7.ret zz5).c0, (t7.ret zz5).c1, (k8.A.ret zz5).c0, (k8.A.ret zz5).c1⟩ (fun hHeld => ?_)
  clear hK K
  refine tk_on (i := 23) (some 79) (v := ?_) (by kernel_rfl) (by kernel_rfl) (by kernel_rfl) (by kernel_rfl) (fun _ _ _ h => h) (by assumption) (fun o ho w' hSw => ?_) ?_
  rotate_left
  · (simp only [List.getElem?_toArray, List.getElem?_cons_succ, List.getElem?_cons_zero, Option.some.injEq] at ho; subst ho; (try dsimp only at hSw); go_simp; try with_reducible rfl)
  simp only [Act.put, List.setIfInBounds_toArray, List.set_cons_zero, List.set_cons_succ]
  refine tk_on (i := 24) (some 80) (v := ?_) (by kernel_rfl) (by kernel_rfl) (by kernel_rfl) (by kernel_rfl) (fun _ _ _ h => h) (by assumption) (fun o ho w' hSw => ?_) ?_
  rotate_left
  · (simp only [List.getElem?_toArray, List.getElem?_cons_succ, List.getElem?_cons_zero, Option.some.injEq] at ho; subst ho; (try dsimp only at hSw); go_simp; try with_reducible rfl)
  simp only [Act.put, List.setIfInBounds_toArray, List.set_cons_zero, List.set_cons_succ]
  refine tk_on (i := 25) (some 17) (v := ?_) (by kernel_rfl) (by kernel_rfl) (by kernel_rfl) (by kernel_rfl) (fun _ _ _ h => h) (by assumption) (fun o ho w' hSw => ?_) ?_
  rotate_left
  · (simp only [List.getElem?_toArray, List.getElem?_cons_succ, List.getElem?_cons_zero, Option.some.injEq] at ho; subst ho; (try dsimp only at hSw); go_simp; try with_reducible rfl)
  simp only [Act.put, List.setIfInBounds_toArray, List.set_cons_zero, List.set_cons_succ]
  refine wpAnyH_done (by kernel_rfl) ?_ _
  clear hHeld CS1 CS2 CK1 CK2
  go_wp2_with fail
  have yy1 := zz5.drew
  refine wp_region_held_drew (S := fun w' => w'.cell? ⟨w3.heap.size, 0, none⟩ = some (.slice a1 M.length c1) ∧ w'.cell? ⟨w3.heap.size, 1, none⟩ = some (.int .i64 x) ∧ w'.cell? ⟨w.heap.size + 1, 0, none⟩ = some (.slice b K.length cb) ∧ w'.cell? ⟨w.heap.size + 1, 1, none⟩ = some (.int .i64 y) ∧ w'.cell? ⟨w.heap.size, 0, none⟩ = some (.slice a M.length ca) ∧ w'.cell? ⟨w.heap.size, 1, none⟩ = some (.int .i64 x) ∧ w'.cell? ⟨w8.heap.size, 0, none⟩ = some (.slice a5 M.length c5) ∧ w'.cell? ⟨w8.heap.size, 1, none⟩ = some (.int .i64 x)) (by kernel_rfl) ⟨(t7.ret yy1).c0, (t7.ret yy1).c1, (k8.B.ret yy1).c0, (k8.B.ret yy1).c1, (k8.A.ret yy1).c0, (k8.A.ret yy1).c1, (o16.ret yy1).c0, (o16.ret yy1).c1⟩ (fun hHeld => ?_)
  generalize u5.drew = V10 at yy1 hHeld ⊢
  refine tk_on (i := 0) (some 81) (v := ?_) (by kernel_rfl) (by kernel_rfl) (by kernel_rfl) (by kernel_rfl) (fun _ _ _ h => h) (by assumption) (fun o ho w' hSw => ?_) ?_
  rotate_left
  · (simp only [List.getElem?_toArray, List.getElem?_cons_zero, Option.some.injEq] at ho; subst ho; (try dsimp only at hSw); go_simp; try with_reducible rfl)
  simp only [Act.put, List.setIfInBounds_toArray, List.set_cons_zero, List.set_cons_succ]
  refine tk_on (i := 1) (some 82) (v := ?_) (by kernel_rfl) (by kernel_rfl) (by kernel_rfl) (by kernel_rfl) (fun _ _ _ h => h) (by assumption) (fun o ho w' hSw => ?_) ?_
  rotate_left
  · (simp only [List.getElem?_toArray, List.getElem?_cons_succ, List.getElem?_cons_zero, Option.some.injEq] at ho; subst ho; (try dsimp only at hSw); go_simp; try with_reducible rfl)
  simp only [Act.put, List.setIfInBounds_toArray, List.set_cons_zero, List.set_cons_succ]
  refine tk_on (i := 3) (some 84) (v := ?_) (by kernel_rfl) (by kernel_rfl) (by kernel_rfl) (by kernel_rfl) (fun _ _ _ h => h) (by assumption) (fun o ho w' hSw => ?_) ?_
  rotate_left
  · (simp only [List.getElem?_toArray, List.getElem?_cons_succ, List.getElem?_cons_zero, Option.some.injEq] at ho; subst ho; (try dsimp only at hSw); go_simp; try with_reducible rfl)
  simp only [Act.put, List.setIfInBounds_toArray, List.set_cons_zero, List.set_cons_succ]
  refine tk_on (i := 4) (some 85) (v := ?_) (by kernel_rfl) (by kernel_rfl) (by kernel_rfl) (by kernel_rfl) (fun _ _ _ h => h) (by assumption) (fun o ho w' hSw => ?_) ?_
  rotate_left
  · (simp only [List.getElem?_toArray, List.getElem?_cons_succ, List.getElem?_cons_zero, Option.some.injEq] at ho; subst ho; (try dsimp only at hSw); go_simp; try with_reducible rfl)
  simp only [Act.put, List.setIfInBounds_toArray, List.set_cons_zero, List.set_cons_succ]
  refine tk_call (i := 2) (by kernel_rfl) (by kernel_rfl) (fun o ho K hK => ?_)
  simp only [List.getElem?_toArray, List.getElem?_cons_succ, List.getElem?_cons_zero, Option.some.injEq] at ho
  subst ho
  go_simp
  refine (CT1.out _ yy1).mono ?_
  rintro e n2 ⟨rfl, hb⟩
  have yy2 := yy1.trans (hb.mono yy1.size)
  clear hb yy1
  go_simp
  clear hHeld
  refine hK.out _ _ ⟨(t7.ret yy2).c0, (t7.ret yy2).c1, (k8.B.ret yy2).c0, (k8.B.ret yy2).c1, (k8.A.ret yy2).c0, (k8.A.ret yy2).c1, (o16.ret yy2).c0, (o16.ret yy2).c1⟩ (fun hHeld => ?_)
  clear hK K
  refine tk_call (i := 5) (by kernel_rfl) (by kernel_rfl) (fun o ho K hK => ?_)
  simp only [List.getElem?_toArray, List.getElem?_cons_succ, List.getElem?_cons_zero, Option.some.injEq] at ho
  subst ho
  go_simp
  refine (CT2.out _ yy2).mono ?_
  rintro e n3 ⟨rfl, hb⟩
  have yy3 := yy2.trans (hb.mono yy2.size)
  clear hb yy2
  go_simp
  clear hHeld
  refine hK.out _ _ ⟨(t7.ret yy3).c0, (t7.ret yy3).c1, (k8.B.ret yy3).c0, (k8.B.ret yy3).c1, (k8.A.ret yy3).c0, (k8.A.ret yy3).c1, (o16.ret yy3).c0, (o16.ret yy3).c1⟩ (fun hHeld => ?_)
  clear hK K
  refine tk_on (i := 6) (some 87) (v := ?_) (by kernel_rfl) (by kernel_rfl) (by kernel_rfl) (by kernel_rfl) (fun _ _ _ h => h) (by assumption) (fun o ho w' hSw => ?_) ?_
  rotate_left
  · (simp only [List.getElem?_toArray, List.getElem?_cons_succ, List.getElem?_cons_zero, Option.some.injEq] at ho; subst ho; (try dsimp only at hSw); go_simp; try with_reducible rfl)
  simp only [Act.put, List.setIfInBounds_toArray, List.set_cons_zero, List.set_cons_succ]
  refine tk_on (i := 7) (some 88) (v := ?_) (by kernel_rfl) (by kernel_rfl) (by kernel_rfl) (by kernel_rfl) (fun _ _ _ h => h) (by assumption) (fun o ho w' hSw => ?_) ?_
  rotate_left
  · (simp only [List.getElem?_toArray, List.getElem?_cons_succ, List.getElem?_cons_zero, Option.some.injEq] at ho; subst ho; (try dsimp only at hSw); go_simp; try with_reducible rfl)
  simp only [Act.put, List.setIfInBounds_toArray, List.set_cons_zero, List.set_cons_succ]
  refine tk_on (i := 8) (some 89) (v := ?_) (by kernel_rfl) (by kernel_rfl) (by kernel_rfl) (by kernel_rfl) (fun _ _ _ h => h) (by assumption) (fun o ho w' hSw => ?_) ?_
  rotate_left
  · (simp only [List.getElem?_toArray, List.getElem?_cons_succ, List.getElem?_cons_zero, Option.some.injEq] at ho; subst ho; (try dsimp only at hSw); go_simp; try with_reducible rfl)
  simp only [Act.put, List.setIfInBounds_toArray, List.set_cons_zero, List.set_cons_succ]
  refine tk_on (i := 9) (some 90) (v := ?_) (by kernel_rfl) (by kernel_rfl) (by kernel_rfl) (by kernel_rfl) (fun _ _ _ h => h) (by assumption) (fun o ho w' hSw => ?_) ?_
  rotate_left
  · (simp only [List.getElem?_toArray, List.getElem?_cons_succ, List.getElem?_cons_zero, Option.some.injEq] at ho; subst ho; (try dsimp only at hSw); go_simp; try with_reducible rfl)
  simp only [Act.put, List.setIfInBounds_toArray, List.set_cons_zero, List.set_cons_succ]
  refine tk_call (i := 10) (by kernel_rfl) (by kernel_rfl) (fun o ho K hK => ?_)
  simp only [List.getElem?_toArray, List.getElem?_cons_succ, List.getElem?_cons_zero, Option.some.injEq] at ho
  subst ho
  go_simp
  refine (CT3.out _ yy3).mono ?_
  rintro e n4 ⟨rfl, hb⟩
  have yy4 := yy3.trans (hb.mono yy3.size)
  clear hb yy3
  go_simp
  clear hHeld
  refine hK.out _ _ ⟨(t7.ret yy4).c0, (t7.ret yy4).c1, (k8.B.ret yy4).c0, (k8.B.ret yy4).c1, (k8.A.ret yy4).c0, (k8.A.ret yy4).c1, (o16.ret yy4).c0, (o16.ret yy4).c1⟩ (fun hHeld => ?_)
  clear hK K
  refine tk_on (i := 11) (some 92) (v := ?_) (by kernel_rfl) (by kernel_rfl) (by kernel_rfl) (by kernel_rfl) (fun _ _ _ h => h) (by assumption) (fun o ho w' hSw => ?_) ?_
  rotate_left
  · (simp only [List.getElem?_toArray, List.getElem?_cons_succ, List.getElem?_cons_zero, Option.some.injEq] at ho; subst ho; (try dsimp only at hSw); go_simp; try with_reducible rfl)
  simp only [Act.put, List.setIfInBounds_toArray, List.set_cons_zero, List.set_cons_succ]
  refine tk_on (i := 12) (some 93) (v := ?_) (by kernel_rfl) (by kernel_rfl) (by kernel_rfl) (by kernel_rfl) (fun _ _ _ h => h) (by assumption) (fun o ho w' hSw => ?_) ?_
  rotate_left
  · (simp only [List.getElem?_toArray, List.getElem?_cons_succ, List.getElem?_cons_zero, Option.some.injEq] at ho; subst ho; (try dsimp only at hSw); go_simp; try with_reducible rfl)
  simp only [Act.put, List.setIfInBounds_toArray, List.set_cons_zero, List.set_cons_succ]
  refine tk_on (i := 13) (some 94) (v := ?_) (by kernel_rfl) (by kernel_rfl) (by kernel_rfl) (by kernel_rfl) (fun _ _ _ h => h) (by assumption) (fun o ho w' hSw => ?_) ?_
  rotate_left
  · (simp only [List.getElem?_toArray, List.getElem?_cons_succ, List.getElem?_cons_zero, Option.some.injEq] at ho; subst ho; (try dsimp only at hSw); go_simp; try with_reducible rfl)
  simp only [Act.put, List.setIfInBounds_toArray, List.set_cons_zero, List.set_cons_succ]
  refine tk_on (i := 14) (some 95) (v := ?_) (by kernel_rfl) (by kernel_rfl) (by kernel_rfl) (by kernel_rfl) (fun _ _ _ h => h) (by assumption) (fun o ho w' hSw => ?_) ?_
  rotate_left
  · (simp only [List.getElem?_toArray, List.getElem?_cons_succ, List.getElem?_cons_zero, Option.some.injEq] at ho; subst ho; (try dsimp only at hSw); go_simp; try with_reducible rfl)
  simp only [Act.put, List.setIfInBounds_toArray, List.set_cons_zero, List.set_cons_succ]
  refine tk_call (i := 15) (by kernel_rfl) (by kernel_rfl) (fun o ho K hK => ?_)
  simp only [List.getElem?_toArray, List.getElem?_cons_succ, List.getElem?_cons_zero, Option.some.injEq] at ho
  subst ho
  go_simp
  refine (CT4.out _ yy4).mono ?_
  rintro e n5 ⟨rfl, hb⟩
  have yy5 := yy4.trans (hb.mono yy4.size)
  clear hb yy4
  go_simp
  clear hHeld
  refine hK.out _ _ ⟨(t7.ret yy5).c0, (t7.ret yy5).c1, (k8.B.ret yy5).c0, (k8.B.ret yy5).c1, (k8.A.ret yy5).c0, (k8.A.ret yy5).c1, (o16.ret yy5).c0, (o16.ret yy5).c1⟩ (fun hHeld => ?_)
  clear hK K
  refine tk_on (i := 16) (some 97) (v := ?_) (by kernel_rfl) (by kernel_rfl) (by kernel_rfl) (by kernel_rfl) (fun _ _ _ h => h) (by assumption) (fun o ho w' hSw => ?_) ?_
  rotate_left
  · (simp only [List.getElem?_toArray, List.getElem?_cons_succ, List.getElem?_cons_zero, Option.some.injEq] at ho; subst ho; (try dsimp only at hSw); go_simp; try with_reducible rfl)
  simp only [Act.put, List.setIfInBounds_toArray, List.set_cons_zero, List.set_cons_succ]
  refine tk_on (i := 17) (some 18) (v := ?_) (by kernel_rfl) (by kernel_rfl) (by kernel_rfl) (by kernel_rfl) (fun _ _ _ h => h) (by assumption) (fun o ho w' hSw => ?_) ?_
  rotate_left
  · (simp only [List.getElem?_toArray, List.getElem?_cons_succ, List.getElem?_cons_zero, Option.some.injEq] at ho; subst ho; (try dsimp only at hSw); go_simp; try with_reducible rfl)
  simp only [Act.put, List.setIfInBounds_toArray, List.set_cons_zero, List.set_cons_succ]
  refine wpAnyH_done (by kernel_rfl) ?_ _
  clear hHeld CT1 CT2 CT3 CT4
  go_wp2_with fail
  have b10 := yy5
  have sp3 := (Q3.out.ret b10).sp
  obtain ⟨l3, g3⟩ := shown_sub rfl HM3.out LM.out GM.out
  obtain ⟨l5, g5⟩ : M.length ≤ 18 ∧ ∀ q ∈ M5, q.1.g.length ≤ 10 := ⟨LM.out, (small_of B1.out HM5.out).2.2⟩
  have hl3 := sp3.form
  refine (l21_spoil V5.heap.size w7.heap.size a3 _ c3 M3 n5 sp3 (by omega) (fun q hq => by have := g3 q hq; omega) LC1.out LC2.out).mono ?_
  rintro e wS ⟨rfl, hbS, hcS⟩
  have A1 := (k8.A.ret b10).retB hbS hlA
  have A7 := (t7.ret b10).retB hbS hl7
  have A16 := (o16.ret b10).keep hs7 hcS
  have OT := Lib.hid ((O5.out.ret b10).keep hcS)
  have bV := (z8.trans (b10.mono z8.size)).trans (hbS.mono hs35)
  have bw := (k8.q.trans (b10.mono k8.q.size)).trans (hbS.mono hsw5)
  have G5 := Lib.hid g5
  clear hbS hcS b10 sp3 l3 g3 l5 g5 hl3
  obtain ⟨x0, x1, x2, x3, x4⟩ := A16
  go_wp2_with fail
  refine (l21_spoil w7.heap.size wS.heap.size a5 M.length c5 M5 wS OT.out.sp (by have := LM.out; omega) (fun q hq => by have := G5.out q hq; omega) (fun g h => (OT.out.1.lt g h).2) (fun q hq g h => ((OT.out.2 q hq).lt g h).2)).mono ?_
  rintro e wT ⟨rfl, hbT, -⟩
  clear x0 x1 x2 x3 x4
  have E1 := A1.retB hbT hlA7
  have E7 := A7.retB hbT hl77
  have bV2 := bV.trans (hbT.mono hs37)
  have bw2 := bw.trans (hbT.mono hsw7)
  have FS : Calls Tryz.prog 20 #[.agg #[.slice a1 M.length c1, .int .i64 x], .agg #[.slice a M.length ca, .int .i64 x]] wT (Ret wT (.bool true)) := by
    have h := r21_Same _ _ N1 M wT (OW.out.ret bV2).items (HVR.out wT bw2) (by have := (small_of B1.out HN1.out).1.1; omega) (by have := (small_of B1.out rfl).1.1; omega) (fun q hq => by have := ((small_of B1.out HN1.out).1.2 q hq).2.2.1; omega) (fun q hq => by have := ((small_of B1.out rfl).1.2 q hq).2.2.1; omega) x x
    rw [HN1.out] at h
    rw [decide_eq_true rfl, Bool.true_and, beq_self_eq_true] at h
    exact h
  have FSH := Lib.hid FS
  clear FS hbT A1 A7 bV bw
  obtain ⟨x0, x1, x2, x3, x4⟩ := E1
  obtain ⟨y0, y1, y2, y3, y4⟩ := E7
  go_wp2_with fail
  refine FSH.out.mono ?_
  rintro e wU ⟨rfl, hb⟩
  go_wp2_with fail
  go_ret
  exact ⟨rfl, bw2.trans (hb.mono bw2.size)⟩
theorem tells21 (v u : Value) (x y : Int) (M K : List Im) (s : ByteArray) (w : World) (hv : IsItems v M w) (hu : IsItems u K w) (hm : ML w) (zs : s.size ≤ 9223372036854775807) :
    Calls Tryz.prog 3 #[.agg #[v, .int .i64 x], .agg #[u, .int .i64 y], .string s] w (Ret w (.bool true)) := by
  cases h1 : greatP (M.map Prod.fst) with
  | true => exact tells21_big v u x y M K s w hv hu zs (.inl h1)
  | false =>
    cases h2 : greatP (K.map Prod.fst) with
    | true => exact tells21_big v u x y M K s w hv hu zs (.inr (.inl h2))
    | false =>
      by_cases h3 : s.size ≤ 500
      · exact tells21_small v u x y M K s w hv hu hm h1 h2 h3
      · exact tells21_big v u x y M K s w hv hu zs (.inr (.inr (by omega)))
end Go.Proofs.YtfonkblbgadhmaaGreatDoor
