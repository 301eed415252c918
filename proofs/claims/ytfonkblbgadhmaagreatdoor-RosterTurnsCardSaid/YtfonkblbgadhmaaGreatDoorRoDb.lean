/- the document's with. PRINTED BY PROGRAM (gen_roda.py). -/
import Derived.Test.YtfonkblbgadhmaaGreatDoorRoDa
namespace Go.Proofs.YtfonkblbgadhmaaGreatDoor
open Go.RowKit Go.Lib

def loI (M : List Im) (t : List UInt8) : List Im := M.filter fun p => lessT p.1.j t
def hiI (M : List Im) (t : List UInt8) : List Im := M.filter fun p => lessT t p.1.j
def wiI (M : List Im) (x : Im) : List Im := loI (woI M x.1.j) x.1.j ++ x :: hiI (woI M x.1.j) x.1.j
theorem map_wiI (M : List Im) (x : Im) : (wiI M x).map Prod.fst = withL (M.map Prod.fst) x.1 := by
 unfold wiI withL loI hiI
 rw [← map_woI, List.map_append, List.map_cons, List.filter_map, List.filter_map]
 rfl
theorem loI_snoc (M : List Im) (t : List UInt8) (k : Nat) (hk : k < M.length) : loI (M.take (k + 1)) t = loI (M.take k) t ++ (if lessT M[k].1.j t then [M[k]] else []) := by
 unfold loI
 rw [List.take_succ_eq_append_getElem hk, List.filter_append]
 cases h : lessT M[k].1.j t <;> simp [h]
theorem hiI_snoc (M : List Im) (t : List UInt8) (k : Nat) (hk : k < M.length) : hiI (M.take (k + 1)) t = hiI (M.take k) t ++ (if lessT t M[k].1.j then [M[k]] else []) := by
 unfold hiI
 rw [List.take_succ_eq_append_getElem hk, List.filter_append]
 cases h : lessT t M[k].1.j <;> simp [h]
theorem wiI_mem (M : List Im) (x : Im) : ∀ p ∈ wiI M x, p = x ∨ p ∈ M := fun p hp => by
 unfold wiI loI hiI woI at hp
 rcases List.mem_append.1 hp with h | h
 ·exact .inr (List.mem_filter.1 (List.mem_filter.1 h).1).1
 ·rcases List.mem_cons.1 h with h | h
  ·exact .inl h
  ·exact .inr (List.mem_filter.1 (List.mem_filter.1 h).1).1
theorem wiI_len (M : List Im) (x : Im) : (wiI M x).length ≤ 2 * M.length + 1 := by
 unfold wiI loI hiI woI
 have h1 := List.length_filter_le (fun p : Im => lessT p.1.j x.1.j) (M.filter fun p => !(p.1.j == x.1.j))
 have h2 := List.length_filter_le (fun p : Im => lessT x.1.j p.1.j) (M.filter fun p => !(p.1.j == x.1.j))
 have h3 := List.length_filter_le (fun p : Im => !(p.1.j == x.1.j)) M
 rw [List.length_append, List.length_cons]
 omega
set_option maxHeartbeats 4000000 in
set_option maxRecDepth 100000 in
theorem r21_with (v : Value) (ver : Int) (M : List Im) (x : Im) (w : World) (hv : IsItems v M w) (hM : M.length ≤ 1000) (hz : ∀ p ∈ M, p.1.j.length ≤ 10000) (hx : x.1.j.length ≤ 10000) :
  Calls Tryz.prog 86 #[.agg #[v, .int .i64 ver], itA x] w (RowR w (wiI M x) ver) := by
 obtain ⟨a0, cap0, hf, -⟩ := hv.form
 obtain ⟨L0, hL⟩ : ∃ L, M.length = L := ⟨_, rfl⟩
 rw [hL] at hf hM
 subst hf
 obtain ⟨i0, hi, hz0, hz1, hz2⟩ := info_parts vinfo_item
 have r0 := Two.new w (.slice a0 L0 cap0) (.int .i64 ver) 24
 have q0 := (Below.refl w.heap.size w).alloc (Nat.le_refl _) (.cells #[.slice a0 L0 cap0, .int .i64 ver] 24)
 obtain ⟨W0, hW0⟩ : ∃ W, w.alloc (.cells #[.slice a0 L0 cap0, .int .i64 ver] 24) = W := ⟨_, rfl⟩
 have s0 : W0.heap.size = w.heap.size + 1 := by rw [← hW0]; simp
 rw [hW0] at r0 q0
 have al := (Below.refl W0.heap.size W0).alloc (Nat.le_refl _) (.cells (itC x).toArray 31)
 have x1 := It8.new W0 (.string ⟨x.1.j.toArray⟩) (.string ⟨x.1.n.toArray⟩) (gvI x) (.bool x.1.s.1) (.bool x.1.s.2.1) (.bool x.1.s.2.2.1) (.bool x.1.s.2.2.2) (.bool x.1.k) 31
 have r1 := r0.ret al
 have q1 := q0.trans (al.mono q0.size)
 obtain ⟨W1, hW1⟩ : ∃ W, W0.alloc (.cells (itC x).toArray 31) = W := ⟨_, rfl⟩
 have s1 : W1.heap.size = w.heap.size + 2 := by rw [← hW1]; simp; omega
 rw [hW1] at x1 r1 q1
 rw [s0] at x1
 have al2 := (Below.refl W1.heap.size W1).alloc (Nat.le_refl _) (.cells #[.slice none 0 0, .int .i64 0] 24)
 have z2 := Two.new W1 (.slice none 0 0) (.int .i64 0) 24
 have r2 := r1.ret al2
 have x2 := x1.ret al2
 have q2 := q1.trans (al2.mono q1.size)
 obtain ⟨W2, hW2⟩ : ∃ W, W1.alloc (.cells #[.slice none 0 0, .int .i64 0] 24) = W := ⟨_, rfl⟩
 have s2 : W2.heap.size = w.heap.size + 3 := by rw [← hW2]; simp; omega
 rw [hW2] at z2 r2 x2 q2
 rw [s1] at z2
 have HW : Hid (((w.alloc (.cells #[.slice a0 L0 cap0, .int .i64 ver] 24)).alloc (.cells #[.string ⟨x.1.j.toArray⟩, .string ⟨x.1.n.toArray⟩, gvI x, .bool x.1.s.1, .bool x.1.s.2.1, .bool x.1.s.2.2.1, .bool x.1.s.2.2.2, .bool x.1.k] 31)).alloc (.cells #[.slice none 0 0, .int .i64 0] 24) = W2) := Lib.hid (by rw [hW0, hW1, hW2])
 have CW := Lib.hid (r21_without (.slice a0 L0 cap0) ver M ⟨x.1.j.toArray⟩ W2 (hv.ret q2) (by omega))
 have hnl : (woI M x.1.j).length ≤ 1000 := Nat.le_trans (List.length_filter_le _ _) (by omega)
 have hzn : ∀ p ∈ woI M x.1.j, p.1.j.length ≤ 10000 := fun p hp => hz p (List.mem_filter.1 hp).1
 have hgn : ∀ p ∈ woI M x.1.j, IsGrp (gvI p) p.1.g w := fun p hp => hv.2 p (List.mem_filter.1 hp).1
 have hwi : wiI M x = loI (woI M x.1.j) x.1.j ++ x :: hiI (woI M x.1.j) x.1.j := rfl
 obtain ⟨N, hN⟩ : ∃ N, woI M x.1.j = N := ⟨_, rfl⟩
 obtain ⟨L, hLN⟩ : ∃ L, N.length = L := ⟨_, rfl⟩
 have hCW := CW.out
 simp only at hCW
 rw [hN] at hCW hnl hzn hgn hwi
 rw [hLN] at hnl
 have CW := Lib.hid hCW
 have HWI := Lib.hid hwi
 have HNL := Lib.hid hLN
 have ZN := Lib.hid hzn
 have GN := Lib.hid hgn
 have ZX : Hid ((⟨x.1.j.toArray⟩ : ByteArray).size ≤ 10000) := Lib.hid (by rw [← size_toList]; exact hx)
 have LL : Hid ((loI N x.1.j).length ≤ 1000) := Lib.hid (Nat.le_trans (List.length_filter_le _ _) (by omega))
 have S2 := Lib.hid s2
 clear hW0 hW1 hW2 s0 s1 s2 al al2 r0 r1 x1 q0 q1 hv hL hCW hwi hzn hgn hN hLN hz hx
 go_enter Tryz.func86, Tryz.ntmps86
 obtain ⟨l, c0, c1, f0, f1⟩ := id r2
 obtain ⟨l', d0, d1, d2, d3, d4, d5, d6, d7, -, -, -, -, -, -, -, -⟩ := id x2
 go_wp2_with fail
 rw [HW.out]
 go_wp2_with fail
 refine CW.out.mono ?_
 rintro e w2 ⟨a, c, rfl, hown, hb⟩
 clear l c0 c1 f0 f1 l' d0 d1 d2 d3 d4 d5 d6 d7
 rw [HNL.out] at hown
 have r3 := (r2.ret hb)
 have x3 := (x2.ret hb)
 have z3 := (z2.ret hb)
 have q3 := q2.trans (hb.mono q2.size)
 have ho3 := ownsRow_setCell_below (ownsRow_setCell_below hown (a := ⟨w.heap.size, 0, none⟩) (by have := S2.out; show w.heap.size < W2.heap.size; omega) (.slice a L c)) (a := ⟨w.heap.size, 1, none⟩) (by have := S2.out; show w.heap.size < W2.heap.size; omega) (.int .i64 ver)
 have hs3 : w.heap.size + 3 ≤ w2.heap.size := by rw [← S2.out]; exact hb.size
 clear hb r2 x2 z2 q2 hown
 obtain ⟨l, c0, c1, f0, f1⟩ := id r3
 rw [HNL.out]
 have R3 := Lib.hid ((r3.set0 (.slice a L c)).set1 (.int .i64 ver))
 have X3 := Lib.hid ((x3.other (g := w.heap.size) (o := 0) (by omega) (.slice a L c)).other (g := w.heap.size) (o := 1) (by omega) (.int .i64 ver))
 have Z3 := Lib.hid ((z3.other (g := w.heap.size) (o := 0) (by omega) (.slice a L c)).other (g := w.heap.size) (o := 1) (by omega) (.int .i64 ver))
 have Q3 := Lib.hid ((q3.setCell (p := ⟨w.heap.size, 0, none⟩) (Nat.le_refl _) (.slice a L c)).setCell (p := ⟨w.heap.size, 1, none⟩) (Nat.le_refl _) (.int .i64 ver))
 have HO3 := Lib.hid ho3
 have S3 : Hid (w.heap.size + 3 ≤ w2.heap.size) := Lib.hid (by have := z3.lt; have := hs3; omega)
 clear r3 x3 z3 q3 ho3 hs3
 go_wp2_with fail
 clear l c0 c1 f0 f1
 obtain ⟨W, hW⟩ : ∃ W, (w2.setCell ⟨w.heap.size, 0, none⟩ (.slice a L c)).setCell ⟨w.heap.size, 1, none⟩ (.int .i64 ver) = W := ⟨_, rfl⟩
 have hsz : W.heap.size = w2.heap.size := by rw [← hW]; simp
 rw [hW] at R3 X3 Z3 Q3 HO3 ⊢
 have hgw : ∀ p ∈ N, IsGrp (gvI p) p.1.g W := fun p hp => (GN.out p hp).ret Q3.out
 have V3 : Hid (IsItems (.slice a L c) N W) := Lib.hid ⟨by have := own_row HO3.out; rwa [HNL.out], hgw⟩
 have SW : Hid (w.heap.size + 3 ≤ W.heap.size) := Lib.hid (by rw [hsz]; exact S3.out)
 clear hW hsz S3 hgw HW CW HO3
 go_loopw [5, 6] (fun v i wx => ∃ k : Nat, k ≤ L ∧ i = .int .i64 k ∧ wx.ownsRow W.heap.size 31 8 v (loI (N.take k) x.1.j).length (itV (loI (N.take k) x.1.j)) ∧ Below W.heap.size W wx) (fun _ i _ => L - (intOf i).toNat)
 case atStart => exact ⟨0, Nat.zero_le _, rfl, World.ownsRow_nil _ _ _ _, Below.refl _ _⟩
 case round =>
  obtain ⟨k, hk, rfl, hown, hbw⟩ := hrel
  have hsz := hbw.size
  obtain ⟨rl, rc0, rc1, -, -⟩ := R3.out.ret hbw
  by_cases hlt : k < L
  ·have hkM : k < N.length := by rw [HNL.out]; exact hlt
   obtain ⟨b, off, cp, hf, hb0, hc⟩ := (V3.out.ret hbw).cell hkM
   rw [HNL.out] at hf
   simp only [Value.slice.injEq, true_and] at hf
   obtain ⟨rfl, rfl⟩ := hf
   have hsn := loI_snoc N x.1.j k hkM
   have hlen : (loI (N.take k) x.1.j).length ≤ k := Nat.le_trans (List.length_filter_le _ _) (by rw [List.length_take]; omega)
   have hzj := ZN.out N[k] (List.getElem_mem hkM)
   obtain ⟨p, hp⟩ : ∃ p, N[k] = p := ⟨_, rfl⟩
   rw [hp] at hc hsn hzj
   obtain ⟨F, hF⟩ : ∃ F, loI (N.take k) x.1.j = F := ⟨_, rfl⟩
   rw [hF] at hsn hown hlen
   have hcl := fun w => r21_less ⟨p.1.j.toArray⟩ ⟨x.1.j.toArray⟩ w (by rw [← size_toList]; exact hzj) ZX.out
   simp only at hcl
   obtain ⟨y, hy⟩ : ∃ y, lessT p.1.j x.1.j = y := ⟨_, rfl⟩
   rw [hy] at hsn hcl
   have CL := Lib.hid hcl
   have HS := Lib.hid hsn
   have HO := Lib.hid hown
   have HC := Lib.hid hc
   have HB0 := Lib.hid hb0
   clear hp hF hy hsn hown hcl hc hb0 hzj hkM
   go_wp2_with fail
   have z1 := Below.drew (Below.refl wr.heap.size wr)
   refine wp_region_held_drew (S := fun w' => w'.cell? ⟨b, off + k * 8, none⟩ = some (.string ⟨p.1.j.toArray⟩) ∧ w'.cell? ⟨w.heap.size, 0, none⟩ = some (.slice (some ⟨b, off, none⟩) L c) ∧ w'.cell? ⟨w.heap.size + 1, 0, none⟩ = some (.string ⟨x.1.j.toArray⟩)) (by kernel_rfl) ⟨((bcell z1).1 _ _ HB0.out).trans HC.out.1, (R3.out.ret (hbw.trans (z1.mono hsz))).c0, (X3.out.ret (hbw.trans (z1.mono hsz))).c0⟩ (fun hHeld => ?_)
   generalize wr.drew = V at z1 hHeld ⊢
   refine tk_start [(0, some 19), (1, some 20), (2, some 21), (3, some 22), (4, some 23), (5, some 24), (6, some 25), (7, some 26)] ?_
   iterate 8
    refine tk_step (v := ?_) (by kernel_rfl) (by kernel_rfl) (fun _ _ _ h => h) (by assumption) (fun o ho w' hSw => ?_) ?_
    rotate_left
    ·simp only [List.getElem?_toArray, List.getElem?_cons_succ, List.getElem?_cons_zero, Option.some.injEq] at ho; subst ho; (try dsimp only at hSw); go_simp; try with_reducible rfl
    simp only [Act.put, List.setIfInBounds_toArray, List.set_cons_zero, List.set_cons_succ]
   refine tk_end ?_
   refine tk_call (i := 8) (by kernel_rfl) (by kernel_rfl) (fun o ho K hK => ?_)
   simp only [List.getElem?_toArray, List.getElem?_cons_succ, List.getElem?_cons_zero, Option.some.injEq] at ho
   subst ho
   go_simp
   refine (CL.out _).mono ?_
   rintro e w2 ⟨rfl, hb⟩
   have z2 := z1.trans (hb.mono z1.size)
   clear hb z1
   go_simp
   clear hHeld
   refine hK.out _ _ ⟨((bcell z2).1 _ _ HB0.out).trans HC.out.1, (R3.out.ret (hbw.trans (z2.mono hsz))).c0, (X3.out.ret (hbw.trans (z2.mono hsz))).c0⟩ (fun hHeld => ?_)
   clear hK K
   refine wpAnyH_done (by kernel_rfl) ?_ _
   clear hHeld rl rc0 rc1
   have q2 := hbw.trans (z2.mono hsz)
   have ho2 := Lib.hid (own_below HO.out z2)
   obtain ⟨c0, c1, c2, c3, c4, c5, c6, c7⟩ := HC.out
   obtain ⟨qb, -⟩ := bcell z2
   have d0 := (qb _ _ HB0.out).trans c0
   have d1 := (qb _ _ HB0.out).trans c1
   have d2 := (qb _ _ HB0.out).trans c2
   have d3 := (qb _ _ HB0.out).trans c3
   have d4 := (qb _ _ HB0.out).trans c4
   have d5 := (qb _ _ HB0.out).trans c5
   have d6 := (qb _ _ HB0.out).trans c6
   have d7 := (qb _ _ HB0.out).trans c7
   obtain ⟨rl, rc0, rc1, -, -⟩ := R3.out.ret q2
   clear z2 c0 c1 c2 c3 c4 c5 c6 c7 qb
   cases y with
   | false =>
    have hS := HS.out
    simp only [Bool.false_eq_true, if_false, List.append_nil] at hS
    have HS := Lib.hid hS
    clear hS
    go_wp2_with fail
    go_roundw
    case rel => exact ⟨k + 1, by omega, by go_num, by rw [HS.out]; exact ho2.out, q2⟩
    case measure => simp [intOf]; omega
   | true =>
    have hle : F.length ≤ 3000 := by omega
    go_wp2_with (at_builtin; refine Hid.out ?_)
    refine Lib.hid ?_
    refine wpList_app_row rfl _ _ _ rfl W.heap.size 31 i0 _ 8 64 Tryz.underlying22 hi hz0 hz1 hz2 rfl (by omega) _ (F).length (itV (F)) rfl (ho2.out.alloc _) (.slice (some ⟨w2.heap.size, 0, none⟩) 1 1) (by rfl) 1 (itC p) (new_row8 w2 p) (itC_one p) (by omega) (by omega) (by have := q2.size; simp; omega) ?_
    intro v' w' hown' hgrow
    have q3 := (q2.alloc q2.size (.cells (itC p).toArray 31)).grown (w' := w') hgrow (by have := q2.size; simp; omega) (fun k hk => (ho2.out.lt k hk).1)
    have HO3 := Lib.hid hown'
    clear hown' hgrow
    go_wp2_with fail
    go_roundw
    case rel => exact ⟨k + 1, by omega, by go_num, by rw [HS.out]; simp only [if_true]; rw [List.length_append, itV_app]; simpa [itV] using HO3.out, q3⟩
    case measure => simp [intOf]; omega
  ·have hfull : N.take k = N := List.take_of_length_le (by rw [HNL.out]; omega)
   rw [hfull] at hown
   obtain ⟨rx, e0, e1, e2, e3, e4, e5, e6, e7, -⟩ := X3.out.ret hbw
   have HO := Lib.hid hown
   clear hfull hown hk
   have hll := LL.out
   go_wp2_with (at_builtin; refine Hid.out ?_)
   refine Lib.hid ?_
   refine wpList_app_row rfl _ _ _ rfl W.heap.size 31 i0 _ 8 64 Tryz.underlying22 hi hz0 hz1 hz2 rfl (by omega) _ (loI N x.1.j).length (itV (loI N x.1.j)) rfl (HO.out.alloc _) (.slice (some ⟨wr.heap.size, 0, none⟩) 1 1) (by rfl) 1 (itC x) (new_row8 wr x) (itC_one x) (by omega) (by omega) (by simp; omega) ?_
   intro v' w' hown' hgrow
   have q5 := (hbw.alloc hbw.size (.cells (itC x).toArray 31)).grown (w' := w') hgrow (by simp; omega) (fun k hk => (HO.out.lt k hk).1)
   have HO1 : Hid (w'.ownsRow W.heap.size 31 8 v' (loI N x.1.j ++ [x]).length (itV (loI N x.1.j ++ [x]))) := Lib.hid (by rw [List.length_append, itV_app]; simpa [itV] using hown')
   clear hown' hgrow rx e0 e1 e2 e3 e4 e5 e6 e7 hll hsz HO hbw hlt rl rc0 rc1
   go_wp2_with fail
   go_loopw [5, 7] (fun v i wx => ∃ k : Nat, k ≤ L ∧ i = .int .i64 k ∧ wx.ownsRow W.heap.size 31 8 v ((loI N x.1.j ++ [x]) ++ hiI (N.take k) x.1.j).length (itV ((loI N x.1.j ++ [x]) ++ hiI (N.take k) x.1.j)) ∧ Below W.heap.size W wx) (fun _ i _ => L - (intOf i).toNat)
   case atStart => exact ⟨0, Nat.zero_le _, rfl, by simpa [hiI] using HO1.out, q5⟩
   case round =>
    obtain ⟨k, hk, rfl, hown, hbw⟩ := hrel
    have hsz := hbw.size
    obtain ⟨rl, rc0, rc1, -, -⟩ := R3.out.ret hbw
    by_cases hlt : k < L
    ·have hkM : k < N.length := by rw [HNL.out]; exact hlt
     obtain ⟨b, off, cp, hf, hb0, hc⟩ := (V3.out.ret hbw).cell hkM
     rw [HNL.out] at hf
     simp only [Value.slice.injEq, true_and] at hf
     obtain ⟨rfl, rfl⟩ := hf
     have hsn := hiI_snoc N x.1.j k hkM
     have hlen : (hiI (N.take k) x.1.j).length ≤ k := Nat.le_trans (List.length_filter_le _ _) (by rw [List.length_take]; omega)
     have hzj := ZN.out N[k] (List.getElem_mem hkM)
     obtain ⟨p, hp⟩ : ∃ p, N[k] = p := ⟨_, rfl⟩
     rw [hp] at hc hsn hzj
     obtain ⟨F, hF⟩ : ∃ F, hiI (N.take k) x.1.j = F := ⟨_, rfl⟩
     rw [hF] at hsn hown hlen
     have hcl := fun w => r21_less ⟨x.1.j.toArray⟩ ⟨p.1.j.toArray⟩ w ZX.out (by rw [← size_toList]; exact hzj)
     simp only at hcl
     obtain ⟨y, hy⟩ : ∃ y, lessT x.1.j p.1.j = y := ⟨_, rfl⟩
     rw [hy] at hsn hcl
     have CL := Lib.hid hcl
     have HS := Lib.hid hsn
     have HO := Lib.hid hown
     have HC := Lib.hid hc
     have HB0 := Lib.hid hb0
     clear hp hF hy hsn hown hcl hc hb0 hzj hkM
     go_wp2_with fail
     have z1 := Below.drew (Below.refl wr.heap.size wr)
     refine wp_region_held_drew (S := fun w' => w'.cell? ⟨b, off + k * 8, none⟩ = some (.string ⟨p.1.j.toArray⟩) ∧ w'.cell? ⟨w.heap.size, 0, none⟩ = some (.slice (some ⟨b, off, none⟩) L c) ∧ w'.cell? ⟨w.heap.size + 1, 0, none⟩ = some (.string ⟨x.1.j.toArray⟩)) (by kernel_rfl) ⟨((bcell z1).1 _ _ HB0.out).trans HC.out.1, (R3.out.ret (hbw.trans (z1.mono hsz))).c0, (X3.out.ret (hbw.trans (z1.mono hsz))).c0⟩ (fun hHeld => ?_)
     generalize wr.drew = V at z1 hHeld ⊢
     refine tk_start [(0, some 47), (1, some 48), (2, some 49), (3, some 50), (4, some 51), (5, some 52), (6, some 53), (7, some 54)] ?_
     iterate 8
      refine tk_step (v := ?_) (by kernel_rfl) (by kernel_rfl) (fun _ _ _ h => h) (by assumption) (fun o ho w' hSw => ?_) ?_
      rotate_left
      ·simp only [List.getElem?_toArray, List.getElem?_cons_succ, List.getElem?_cons_zero, Option.some.injEq] at ho; subst ho; (try dsimp only at hSw); go_simp; try with_reducible rfl
      simp only [Act.put, List.setIfInBounds_toArray, List.set_cons_zero, List.set_cons_succ]
     refine tk_end ?_
     refine tk_call (i := 8) (by kernel_rfl) (by kernel_rfl) (fun o ho K hK => ?_)
     simp only [List.getElem?_toArray, List.getElem?_cons_succ, List.getElem?_cons_zero, Option.some.injEq] at ho
     subst ho
     go_simp
     refine (CL.out _).mono ?_
     rintro e w2 ⟨rfl, hb⟩
     have z2 := z1.trans (hb.mono z1.size)
     clear hb z1
     go_simp
     clear hHeld
     refine hK.out _ _ ⟨((bcell z2).1 _ _ HB0.out).trans HC.out.1, (R3.out.ret (hbw.trans (z2.mono hsz))).c0, (X3.out.ret (hbw.trans (z2.mono hsz))).c0⟩ (fun hHeld => ?_)
     clear hK K
     refine wpAnyH_done (by kernel_rfl) ?_ _
     clear hHeld rl rc0 rc1
     have q2 := hbw.trans (z2.mono hsz)
     have ho2 := Lib.hid (own_below HO.out z2)
     obtain ⟨c0, c1, c2, c3, c4, c5, c6, c7⟩ := HC.out
     obtain ⟨qb, -⟩ := bcell z2
     have d0 := (qb _ _ HB0.out).trans c0
     have d1 := (qb _ _ HB0.out).trans c1
     have d2 := (qb _ _ HB0.out).trans c2
     have d3 := (qb _ _ HB0.out).trans c3
     have d4 := (qb _ _ HB0.out).trans c4
     have d5 := (qb _ _ HB0.out).trans c5
     have d6 := (qb _ _ HB0.out).trans c6
     have d7 := (qb _ _ HB0.out).trans c7
     obtain ⟨rl, rc0, rc1, -, -⟩ := R3.out.ret q2
     clear z2 c0 c1 c2 c3 c4 c5 c6 c7 qb
     cases y with
     | false =>
      have hS := HS.out
      simp only [Bool.false_eq_true, if_false, List.append_nil] at hS
      have HS := Lib.hid hS
      clear hS
      go_wp2_with fail
      go_roundw
      case rel => exact ⟨k + 1, by omega, by go_num, by rw [HS.out]; exact ho2.out, q2⟩
      case measure => simp [intOf]; omega
     | true =>
      have hle : ((loI N x.1.j ++ [x]) ++ F).length ≤ 3000 := by have := LL.out; simp only [List.length_append, List.length_cons, List.length_nil]; omega
      go_wp2_with (at_builtin; refine Hid.out ?_)
      refine Lib.hid ?_
      refine wpList_app_row rfl _ _ _ rfl W.heap.size 31 i0 _ 8 64 Tryz.underlying22 hi hz0 hz1 hz2 rfl (by omega) _ ((loI N x.1.j ++ [x]) ++ F).length (itV ((loI N x.1.j ++ [x]) ++ F)) rfl (ho2.out.alloc _) (.slice (some ⟨w2.heap.size, 0, none⟩) 1 1) (by rfl) 1 (itC p) (new_row8 w2 p) (itC_one p) (by omega) (by omega) (by have := q2.size; simp; omega) ?_
      intro v' w' hown' hgrow
      have q3 := (q2.alloc q2.size (.cells (itC p).toArray 31)).grown (w' := w') hgrow (by have := q2.size; simp; omega) (fun k hk => (ho2.out.lt k hk).1)
      have HO3 := Lib.hid hown'
      clear hown' hgrow
      go_wp2_with fail
      go_roundw
      case rel => exact ⟨k + 1, by omega, by go_num, by rw [HS.out]; simp only [if_true]; rw [← List.append_assoc, List.length_append, itV_app]; simpa [itV] using HO3.out, q3⟩
      case measure => simp [intOf]; omega
    ·have hfull : N.take k = N := List.take_of_length_le (by rw [HNL.out]; omega)
     have hwe : (loI N x.1.j ++ [x]) ++ hiI N x.1.j = wiI M x := by rw [HWI.out, List.append_assoc]; rfl
     rw [hfull, hwe] at hown
     obtain ⟨Nf, hNf⟩ : ∃ Nf, wiI M x = Nf := ⟨_, rfl⟩
     rw [hNf] at hown ⊢
     obtain ⟨a', c', rfl, -⟩ := row_form hown
     have hl1 : w.heap.size < W.heap.size := by have := SW.out; omega
     have hl2 : w.heap.size + 2 < W.heap.size := by have := SW.out; omega
     have hq := Q3.out.trans (hbw.mono (by omega : w.heap.size ≤ W.heap.size))
     have ho3 := ownsRow_setCell_below hown (a := ⟨w.heap.size, 0, none⟩) hl1 (.slice a' Nf.length c')
     have ho4 := ownsRow_setCell_below ho3 (a := ⟨w.heap.size + 2, 0, none⟩) hl2 (.slice a' Nf.length c')
     have ho5 := ownsRow_setCell_below ho4 (a := ⟨w.heap.size + 2, 1, none⟩) hl2 (.int .i64 ver)
     have r0 := R3.out.ret hbw
     have z0 := Z3.out.ret hbw
     have HO := Lib.hid ho5
     have HQ := Lib.hid (((hq.setCell (p := ⟨w.heap.size, 0, none⟩) (Nat.le_refl _) (.slice a' Nf.length c')).setCell (p := ⟨w.heap.size + 2, 0, none⟩) (by show w.heap.size ≤ w.heap.size + 2; omega) (.slice a' Nf.length c')).setCell (p := ⟨w.heap.size + 2, 1, none⟩) (by show w.heap.size ≤ w.heap.size + 2; omega) (.int .i64 ver))
     have z3 := z0.other (g := w.heap.size) (o := 0) (by omega) (.slice a' Nf.length c')
     have HZ := Lib.hid ((z3.set0 (.slice a' Nf.length c')).set1 (.int .i64 ver))
     have HNF := Lib.hid hNf
     clear hfull hwe hown ho3 ho4 ho5 hq z3 hNf
     obtain ⟨l, c0, c1, f0, f1⟩ := r0
     obtain ⟨m, d0, d1, e0, e1⟩ := z0
     go_wp2_with fail
     refine bodyPost_ret (ret_two1 rfl rfl HZ.out) rfl ⟨a', c', by rw [HNF.out], by rw [HNF.out]; exact HO.out.mono (by have := SW.out; omega), HQ.out⟩
end Go.Proofs.YtfonkblbgadhmaaGreatDoor
