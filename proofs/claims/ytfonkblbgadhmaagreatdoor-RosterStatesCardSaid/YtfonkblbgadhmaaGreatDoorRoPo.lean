/- law21's others, turns. PRINTED BY PROGRAM (gen_ropm.py). -/
import Derived.Test.YtfonkblbgadhmaaGreatDoorRoPm
namespace Go.Proofs.YtfonkblbgadhmaaGreatDoor
open Go.RowKit Go.Lib

/-- an element's cells, at each later world. -/
theorem item_cells {v : Value} {M : List Im} {w : World} (h : IsItems v M w) {k : Nat} (hk : k < M.length) {p : Im} (hp : M[k] = p) : ∃ b off cap, v = .slice (some ⟨b, off, none⟩) M.length cap ∧ ∀ w', Below w.heap.size w w' →
  (w'.cell? ⟨b, off + k * 8, none⟩ = some (.string ⟨p.1.j.toArray⟩) ∧ w'.cell? ⟨b, off + k * 8 + 1, none⟩ = some (.string ⟨p.1.n.toArray⟩) ∧ w'.cell? ⟨b, off + k * 8 + 2, none⟩ = some (gvI p) ∧
   w'.cell? ⟨b, off + k * 8 + 3, none⟩ = some (.bool p.1.s.1) ∧ w'.cell? ⟨b, off + k * 8 + 4, none⟩ = some (.bool p.1.s.2.1) ∧ w'.cell? ⟨b, off + k * 8 + 5, none⟩ = some (.bool p.1.s.2.2.1) ∧
   w'.cell? ⟨b, off + k * 8 + 6, none⟩ = some (.bool p.1.s.2.2.2) ∧ w'.cell? ⟨b, off + k * 8 + 7, none⟩ = some (.bool p.1.k)) := by
 subst hp
 obtain ⟨b, off, cap, h1, h2, c0, c1, c2, c3, c4, c5, c6, c7⟩ := h.cell hk
 refine ⟨b, off, cap, h1, fun w' hb => ?_⟩
 obtain ⟨q, -⟩ := bcell hb
 exact ⟨(q _ _ h2).trans c0, (q _ _ h2).trans c1, (q _ _ h2).trans c2, (q _ _ h2).trans c3, (q _ _ h2).trans c4, (q _ _ h2).trans c5, (q _ _ h2).trans c6, (q _ _ h2).trans c7⟩
theorem Sx.pre {w0 w : World} {bs : Bs} (h : Sx w0 bs w) (n : Nat) : Sx w0 (bs.take n) w := ⟨fun b hb => h.bx b (List.mem_of_mem_take hb), h.pw.sublist (List.take_sublist n bs), h.q⟩
theorem grp_own {B n : Nat} {v : Value} {g : List (List UInt8)} {w : World} {e : TypeId} (h : w.ownsRow B e 1 v n (strV g)) (hn : g.length = n) : IsGrp v g w := by subst hn; exact IsGrp.own h
theorem same_it {p p' : Im} {w : World} (h : IsGrp (gvI p) p.1.g w) (h' : IsGrp (gvI p') p'.1.g w) (z : p.1.g.length ≤ 1000) (z' : p'.1.g.length ≤ 1000) {b : Bool} (hb : decide (p.1 = p'.1) = b) :
  Calls Tryz.prog 15 #[itA p, itA p'] w (Ret w (.bool b)) := by
 have k := r21_SameItem p p' w h h' (by omega) (by omega)
 rw [hb] at k
 exact k
set_option maxHeartbeats 4000000 in
set_option maxRecDepth 100000 in
theorem l21_others (v u : Value) (ver ver' : Int) (M K : List Im) (t : List UInt8) (w : World) (hv : IsItems v M w) (hu : IsItems u K w) (hM : M.length ≤ 1000) (hK : K.length ≤ 1000) (hg : ∀ p ∈ M, p.1.g.length ≤ 1000) (hgk : ∀ p ∈ K, p.1.g.length ≤ 1000) (ho : othersL (M.map Prod.fst) (K.map Prod.fst) t) :
  Calls Tryz.prog 63 #[.agg #[v, .int .i64 ver], .agg #[u, .int .i64 ver'], .string ⟨t.toArray⟩] w (Ret w (.bool true)) := by
 obtain ⟨a0, cap0, hf, -⟩ := hv.form
 obtain ⟨b0, cap1, hf1, -⟩ := hu.form
 obtain ⟨L0, hL⟩ : ∃ L, M.length = L := ⟨_, rfl⟩
 obtain ⟨K0, hKL⟩ : ∃ L, K.length = L := ⟨_, rfl⟩
 rw [hL] at hf
 rw [hKL] at hf1
 subst hf
 subst hf1
 have CF := Lib.hid (fun (s : ByteArray) (w' : World) (hb : Below w.heap.size w w') => ro_Find (.slice b0 K0 cap1) ver' K s w' (hu.ret hb) hK hgk)
 have HV := Lib.hid hv
 have HL := Lib.hid hL
 have HG := Lib.hid hg
 have HO := Lib.hid ho
 have hL0 : L0 ≤ 1000 := by omega
 clear hv hu hM hK hg hgk ho hL hKL
 obtain ⟨W0, hW, y0, bs⟩ := Sx.start2 w [.slice a0 L0 cap0, .int .i64 ver] 24 [.slice b0 K0 cap1, .int .i64 ver'] 24
 have HW := Lib.hid hW
 clear hW
 have q := bs.q
 go_enter Tryz.func63, Tryz.ntmps63
 go_wp2_with fail
 rw [HW.out]
 go_loopw [7] (fun i wx => ∃ k : Nat, k ≤ L0 ∧ i = .int .i64 k ∧ Sx w [(w.heap.size, [.slice a0 L0 cap0, .int .i64 ver]), (w.heap.size + 1, [.slice b0 K0 cap1, .int .i64 ver'])] wx) (fun i _ => L0 - (intOf i).toNat)
 case atStart => exact ⟨0, Nat.zero_le _, rfl, bs⟩
 case round =>
  clear bs q
  obtain ⟨k, hk, rfl, bs⟩ := hrel
  have q := bs.q
  by_cases hlt : k < L0
  ·have hkM : k < M.length := by rw [HL.out]; exact hlt
   obtain ⟨pk, hpk⟩ : ∃ p, M[k] = p := ⟨_, rfl⟩
   have hmem : pk ∈ M := by rw [← hpk]; exact List.getElem_mem hkM
   obtain ⟨b, off, cp, hf, hc⟩ := item_cells HV.out hkM hpk
   rw [HL.out] at hf
   simp only [Value.slice.injEq, true_and] at hf
   obtain ⟨rfl, rfl⟩ := hf
   have EC := Lib.hid hc
   have PG := Lib.hid (HV.out.2 pk hmem)
   have ZG := Lib.hid (HG.out pk hmem)
   have hoth := HO.out pk.1 (List.mem_map_of_mem hmem)
   have wk : (k : Int) < (L0 : Int) := by omega
   have cf := CF.out ⟨pk.1.j.toArray⟩
   unfold Fnd21 at cf
   simp only at cf
   clear hc hpk hkM hmem
   by_cases hjt : pk.1.j = t
   ·subst hjt
    obtain ⟨Y, hY⟩ : ∃ Y, (findL (K.map Prod.fst) pk.1.j).getD it0 = Y := ⟨_, rfl⟩
    obtain ⟨B, hB⟩ : ∃ B, (findL (K.map Prod.fst) pk.1.j).isSome = B := ⟨_, rfl⟩
    rw [hY, hB] at cf
    have CFF := Lib.hid cf
    clear hY hB cf hoth
    have c_r0 := bs.at 0 0 rfl rfl
    have c_r1 := bs.at 0 1 rfl rfl
    have c_o0 := bs.at 1 0 rfl rfl
    have c_o1 := bs.at 1 1 rfl rfl
    go_wp2_with fail
    clear c_r0 c_r1 c_o0 c_o1
    replace bs := bs.ret (Below.drew (Below.refl _ _))
    replace q := bs.q
    have y21 : wr.drew.heap.size = wr.heap.size := rfl
    refine wp_region_held_drew (S := fun w' => w'.cell? ⟨w.heap.size, 0, none⟩ = some (.slice (some ⟨b, off, none⟩) L0 cap0) ∧ w'.cell? ⟨w.heap.size + 1, 0, none⟩ = some (.slice b0 K0 cap1) ∧ w'.cell? ⟨w.heap.size + 1, 1, none⟩ = some (.int .i64 ver') ∧ w'.cell? ⟨b, off + k * 8, none⟩ = some (.string ⟨pk.1.j.toArray⟩)) (by kernel_rfl) ⟨bs.at 0 0 rfl rfl, bs.at 1 0 rfl rfl, bs.at 1 1 rfl rfl, (EC.out _ q).1⟩ (fun hHeld => ?_)
    generalize wr.drew = w21 at bs q y21 hHeld ⊢
    refine tk_start [(0, some 18), (1, some 19), (2, some 20), (3, some 21), (4, some 22), (5, some 23), (6, some 24)] ?_
    iterate 7
     refine tk_step (v := ?_) (by kernel_rfl) (by kernel_rfl) (fun _ _ _ h => h) (by assumption) (fun o ho w' hSw => ?_) ?_
     rotate_left
     ·simp only [List.getElem?_toArray, List.getElem?_cons_succ, List.getElem?_cons_zero, Option.some.injEq] at ho; subst ho; (try dsimp only at hSw); go_simp; try with_reducible rfl
     simp only [Act.put, List.setIfInBounds_toArray, List.set_cons_zero, List.set_cons_succ]
    refine tk_end ?_
    refine wpAnyH_ready (rs := [7, 11]) (by kernel_rfl) (by simp) ?_
    refine tk_cons (by kernel_rfl) (fun o ho K hK => ?_) ?_
    ·simp only [List.getElem?_toArray, List.getElem?_cons_succ, List.getElem?_cons_zero, Option.some.injEq] at ho
     subst ho
     go_simp
     refine (CFF.out w21 q).mono ?_
     rintro e w22 ⟨ga, gc, rfl, hgo, hb⟩
     have o_g := OwX.mk' bs hgo
     replace bs := bs.ret hb
     replace q := bs.q
     clear hb
     clear hgo
     go_simp
     clear hHeld
     refine hK.out _ _ ⟨bs.at 0 0 rfl rfl, bs.at 1 0 rfl rfl, bs.at 1 1 rfl rfl, (EC.out _ q).1⟩ (fun hHeld => ?_)
     clear hK K
     refine tk_start [(8, some 17), (9, some 26), (10, some 27)] ?_
     iterate 3
      refine tk_step (v := ?_) (by kernel_rfl) (by kernel_rfl) (fun _ _ _ h => h) (by assumption) (fun o ho w' hSw => ?_) ?_
      rotate_left
      ·simp only [List.getElem?_toArray, List.getElem?_cons_succ, List.getElem?_cons_zero, Option.some.injEq] at ho; subst ho; (try dsimp only at hSw); go_simp; try with_reducible rfl
      simp only [Act.put, List.setIfInBounds_toArray, List.set_cons_zero, List.set_cons_succ]
     refine tk_end ?_
     refine tk_call (i := 11) (by kernel_rfl) (by kernel_rfl) (fun o ho K hK => ?_)
     simp only [List.getElem?_toArray, List.getElem?_cons_succ, List.getElem?_cons_zero, Option.some.injEq] at ho
     subst ho
     go_simp
     obtain ⟨w23, hw23, y23, al, bs⟩ := bs.alloc (w22.heap.size) rfl [.string ⟨#[]⟩, .string ⟨#[]⟩, .slice none 0 0, .bool false, .bool false, .bool false, .bool false, .bool false] 31
     replace o_g := o_g.alloc (w22.heap.size) rfl al
     clear al
     replace q := bs.q
     rw [hw23]
     clear hHeld
     refine hK.out _ _ ⟨bs.at 0 0 rfl rfl, bs.at 1 0 rfl rfl, bs.at 1 1 rfl rfl, (EC.out _ q).1⟩ (fun hHeld => ?_)
     clear hK K
     refine tk_call (i := 12) (by kernel_rfl) (by kernel_rfl) (fun o ho K hK => ?_)
     simp only [List.getElem?_toArray, List.getElem?_cons_succ, List.getElem?_cons_zero, Option.some.injEq] at ho
     subst ho
     have c_x0 := bs.at 2 0 rfl rfl
     have f_x0 := bs.fz 2 0 rfl rfl
     have c_x1 := bs.at 2 1 rfl rfl
     have f_x1 := bs.fz 2 1 rfl rfl
     have c_x2 := bs.at 2 2 rfl rfl
     have f_x2 := bs.fz 2 2 rfl rfl
     have c_x3 := bs.at 2 3 rfl rfl
     have f_x3 := bs.fz 2 3 rfl rfl
     have c_x4 := bs.at 2 4 rfl rfl
     have f_x4 := bs.fz 2 4 rfl rfl
     have c_x5 := bs.at 2 5 rfl rfl
     have f_x5 := bs.fz 2 5 rfl rfl
     have c_x6 := bs.at 2 6 rfl rfl
     have f_x6 := bs.fz 2 6 rfl rfl
     have c_x7 := bs.at 2 7 rfl rfl
     have f_x7 := bs.fz 2 7 rfl rfl
     go_simp
     clear c_x0 f_x0 c_x1 f_x1 c_x2 f_x2 c_x3 f_x3 c_x4 f_x4 c_x5 f_x5 c_x6 f_x6 c_x7 f_x7
     obtain ⟨w24, hw24, y24, bs⟩ := bs.sets 2 0 [.string ⟨(Y, (ga, gc)).1.j.toArray⟩, .string ⟨(Y, (ga, gc)).1.n.toArray⟩, gvI (Y, (ga, gc)), .bool (Y, (ga, gc)).1.s.1, .bool (Y, (ga, gc)).1.s.2.1, .bool (Y, (ga, gc)).1.s.2.2.1, .bool (Y, (ga, gc)).1.s.2.2.2, .bool (Y, (ga, gc)).1.k] rfl (Nat.le_of_ble_eq_true rfl)
     replace o_g := o_g.sets 2 rfl hw24
     replace q := bs.q
     simp only [World.setCells, Nat.reduceAdd] at hw24
     rw [hw24]
     clear hHeld
     refine hK.out _ _ ⟨bs.at 0 0 rfl rfl, bs.at 1 0 rfl rfl, bs.at 1 1 rfl rfl, (EC.out _ q).1⟩ (fun hHeld => ?_)
     clear hK K
     refine tk_on (i := 13) (some 9) (v := ?_) (by kernel_rfl) (by kernel_rfl) (by kernel_rfl) (by kernel_rfl) (fun _ _ _ h => h) (by assumption) (fun o ho w' hSw => ?_) ?_
     rotate_left
     ·(simp only [List.getElem?_toArray, List.getElem?_cons_succ, List.getElem?_cons_zero, Option.some.injEq] at ho; subst ho; (try dsimp only at hSw); go_simp; try with_reducible rfl)
     simp only [Act.put, List.setIfInBounds_toArray, List.set_cons_zero, List.set_cons_succ]
     refine wpAnyH_done (by kernel_rfl) ?_ _
     clear hHeld
     go_wp2_with fail
     replace o_g := o_g.ret (Below.drew (Below.refl _ _))
     replace bs := bs.ret (Below.drew (Below.refl _ _))
     replace q := bs.q
     have y25 : w24.drew.heap.size = w24.heap.size := rfl
     refine wp_region_held_drew (S := fun w' => w'.cell? ⟨w.heap.size, 0, none⟩ = some (.slice (some ⟨b, off, none⟩) L0 cap0) ∧ w'.cell? ⟨b, off + k * 8, none⟩ = some (.string ⟨pk.1.j.toArray⟩) ∧ w'.cell? ⟨b, off + k * 8 + 1, none⟩ = some (.string ⟨pk.1.n.toArray⟩) ∧ w'.cell? ⟨b, off + k * 8 + 2, none⟩ = some (gvI pk) ∧ w'.cell? ⟨b, off + k * 8 + 3, none⟩ = some (.bool pk.1.s.1) ∧ w'.cell? ⟨b, off + k * 8 + 4, none⟩ = some (.bool pk.1.s.2.1) ∧ w'.cell? ⟨b, off + k * 8 + 5, none⟩ = some (.bool pk.1.s.2.2.1) ∧ w'.cell? ⟨b, off + k * 8 + 6, none⟩ = some (.bool pk.1.s.2.2.2) ∧ w'.cell? ⟨b, off + k * 8 + 7, none⟩ = some (.bool pk.1.k) ∧ w'.cell? ⟨w22.heap.size, 0, none⟩ = some (.string ⟨(Y, (ga, gc)).1.j.toArray⟩) ∧ w'.cell? ⟨w22.heap.size, 1, none⟩ = some (.string ⟨(Y, (ga, gc)).1.n.toArray⟩) ∧ w'.cell? ⟨w22.heap.size, 2, none⟩ = some (gvI (Y, (ga, gc))) ∧ w'.cell? ⟨w22.heap.size, 3, none⟩ = some (.bool (Y, (ga, gc)).1.s.1) ∧ w'.cell? ⟨w22.heap.size, 4, none⟩ = some (.bool (Y, (ga, gc)).1.s.2.1) ∧ w'.cell? ⟨w22.heap.size, 5, none⟩ = some (.bool (Y, (ga, gc)).1.s.2.2.1) ∧ w'.cell? ⟨w22.heap.size, 6, none⟩ = some (.bool (Y, (ga, gc)).1.s.2.2.2) ∧ w'.cell? ⟨w22.heap.size, 7, none⟩ = some (.bool (Y, (ga, gc)).1.k)) (by kernel_rfl) ⟨bs.at 0 0 rfl rfl, (EC.out _ q).1, (EC.out _ q).2.1, (EC.out _ q).2.2.1, (EC.out _ q).2.2.2.1, (EC.out _ q).2.2.2.2.1, (EC.out _ q).2.2.2.2.2.1, (EC.out _ q).2.2.2.2.2.2.1, (EC.out _ q).2.2.2.2.2.2.2, bs.at 2 0 rfl rfl, bs.at 2 1 rfl rfl, bs.at 2 2 rfl rfl, bs.at 2 3 rfl rfl, bs.at 2 4 rfl rfl, bs.at 2 5 rfl rfl, bs.at 2 6 rfl rfl, bs.at 2 7 rfl rfl⟩ (fun hHeld => ?_)
     generalize w24.drew = w25 at bs o_g q y25 hHeld ⊢
     refine tk_start [(0, some 28), (1, some 29), (2, some 30), (3, some 31), (4, some 32), (5, some 33), (6, some 34), (7, some 35), (8, some 36)] ?_
     iterate 9
      refine tk_step (v := ?_) (by kernel_rfl) (by kernel_rfl) (fun _ _ _ h => h) (by assumption) (fun o ho w' hSw => ?_) ?_
      rotate_left
      ·simp only [List.getElem?_toArray, List.getElem?_cons_succ, List.getElem?_cons_zero, Option.some.injEq] at ho; subst ho; (try dsimp only at hSw); go_simp; try with_reducible rfl
      simp only [Act.put, List.setIfInBounds_toArray, List.set_cons_zero, List.set_cons_succ]
     refine tk_end ?_
     refine tk_off (i := 9) (some 37) (by kernel_rfl) (by kernel_rfl) (by kernel_rfl) (by kernel_rfl) (fun _ _ _ h => h) (by assumption) ?_
     simp only [Act.put, List.setIfInBounds_toArray, List.set_cons_zero, List.set_cons_succ]
     refine tk_off (i := 10) (some 38) (by kernel_rfl) (by kernel_rfl) (by kernel_rfl) (by kernel_rfl) (fun _ _ _ h => h) (by assumption) ?_
     simp only [Act.put, List.setIfInBounds_toArray, List.set_cons_zero, List.set_cons_succ]
     refine tk_off (i := 11) (some 39) (by kernel_rfl) (by kernel_rfl) (by kernel_rfl) (by kernel_rfl) (fun _ _ _ h => h) (by assumption) ?_
     simp only [Act.put, List.setIfInBounds_toArray, List.set_cons_zero, List.set_cons_succ]
     refine tk_off (i := 12) (some 40) (by kernel_rfl) (by kernel_rfl) (by kernel_rfl) (by kernel_rfl) (fun _ _ _ h => h) (by assumption) ?_
     simp only [Act.put, List.setIfInBounds_toArray, List.set_cons_zero, List.set_cons_succ]
     refine tk_off (i := 13) (some 41) (by kernel_rfl) (by kernel_rfl) (by kernel_rfl) (by kernel_rfl) (fun _ _ _ h => h) (by assumption) ?_
     simp only [Act.put, List.setIfInBounds_toArray, List.set_cons_zero, List.set_cons_succ]
     refine tk_off (i := 14) (some 42) (by kernel_rfl) (by kernel_rfl) (by kernel_rfl) (by kernel_rfl) (fun _ _ _ h => h) (by assumption) ?_
     simp only [Act.put, List.setIfInBounds_toArray, List.set_cons_zero, List.set_cons_succ]
     refine tk_off (i := 15) (some 43) (by kernel_rfl) (by kernel_rfl) (by kernel_rfl) (by kernel_rfl) (fun _ _ _ h => h) (by assumption) ?_
     simp only [Act.put, List.setIfInBounds_toArray, List.set_cons_zero, List.set_cons_succ]
     refine tk_off (i := 16) (some 44) (by kernel_rfl) (by kernel_rfl) (by kernel_rfl) (by kernel_rfl) (fun _ _ _ h => h) (by assumption) ?_
     simp only [Act.put, List.setIfInBounds_toArray, List.set_cons_zero, List.set_cons_succ]
     refine tk_off (i := 17) (some 45) (by kernel_rfl) (by kernel_rfl) (by kernel_rfl) (by kernel_rfl) (fun _ _ _ h => h) (by assumption) ?_
     simp only [Act.put, List.setIfInBounds_toArray, List.set_cons_zero, List.set_cons_succ]
     refine tk_off (i := 18) (some 46) (by kernel_rfl) (by kernel_rfl) (by kernel_rfl) (by kernel_rfl) (fun _ _ _ h => h) (by assumption) ?_
     simp only [Act.put, List.setIfInBounds_toArray, List.set_cons_zero, List.set_cons_succ]
     refine tk_off (i := 19) (some 47) (by kernel_rfl) (by kernel_rfl) (by kernel_rfl) (by kernel_rfl) (fun _ _ _ h => h) (by assumption) ?_
     simp only [Act.put, List.setIfInBounds_toArray, List.set_cons_zero, List.set_cons_succ]
     refine tk_off (i := 20) (some 48) (by kernel_rfl) (by kernel_rfl) (by kernel_rfl) (by kernel_rfl) (fun _ _ _ h => h) (by assumption) ?_
     simp only [Act.put, List.setIfInBounds_toArray, List.set_cons_zero, List.set_cons_succ]
     refine tk_on (i := 21) (some 49) (v := ?_) (by kernel_rfl) (by kernel_rfl) (by kernel_rfl) (by kernel_rfl) (fun _ _ _ h => h) (by assumption) (fun o ho w' hSw => ?_) ?_
     rotate_left
     ·(simp only [List.getElem?_toArray, List.getElem?_cons_succ, List.getElem?_cons_zero, Option.some.injEq] at ho; subst ho; (try dsimp only at hSw); go_simp; try with_reducible rfl)
     simp only [Act.put, List.setIfInBounds_toArray, List.set_cons_zero, List.set_cons_succ]
     refine wpAnyH_done (by kernel_rfl) ?_ _
     clear hHeld
     go_wp2_with fail
     go_roundw
     case rel => exact ⟨k + 1, by omega, by go_num, bs.pre 2⟩
     case measure => simp [intOf]; omega
    refine tk_cons (by kernel_rfl) (fun o ho K hK => ?_) ?_
    ·simp only [List.getElem?_toArray, List.getElem?_cons_succ, List.getElem?_cons_zero, Option.some.injEq] at ho
     subst ho
     go_simp
     obtain ⟨w22, hw22, y22, al, bs⟩ := bs.alloc (wr.heap.size) (by omega) [.string ⟨#[]⟩, .string ⟨#[]⟩, .slice none 0 0, .bool false, .bool false, .bool false, .bool false, .bool false] 31
     clear al
     replace q := bs.q
     rw [hw22]
     clear hHeld
     refine hK.out _ _ ⟨bs.at 0 0 rfl rfl, bs.at 1 0 rfl rfl, bs.at 1 1 rfl rfl, (EC.out _ q).1⟩ (fun hHeld => ?_)
     clear hK K
     refine tk_call (i := 7) (by kernel_rfl) (by kernel_rfl) (fun o ho K hK => ?_)
     simp only [List.getElem?_toArray, List.getElem?_cons_succ, List.getElem?_cons_zero, Option.some.injEq] at ho
     subst ho
     go_simp
     refine (CFF.out w22 q).mono ?_
     rintro e w23 ⟨ga, gc, rfl, hgo, hb⟩
     have o_g := OwX.mk' bs hgo
     replace bs := bs.ret hb
     replace q := bs.q
     clear hb
     clear hgo
     go_simp
     clear hHeld
     refine hK.out _ _ ⟨bs.at 0 0 rfl rfl, bs.at 1 0 rfl rfl, bs.at 1 1 rfl rfl, (EC.out _ q).1⟩ (fun hHeld => ?_)
     clear hK K
     refine tk_start [(8, some 17), (9, some 26), (10, some 27)] ?_
     iterate 3
      refine tk_step (v := ?_) (by kernel_rfl) (by kernel_rfl) (fun _ _ _ h => h) (by assumption) (fun o ho w' hSw => ?_) ?_
      rotate_left
      ·simp only [List.getElem?_toArray, List.getElem?_cons_succ, List.getElem?_cons_zero, Option.some.injEq] at ho; subst ho; (try dsimp only at hSw); go_simp; try with_reducible rfl
      simp only [Act.put, List.setIfInBounds_toArray, List.set_cons_zero, List.set_cons_succ]
     refine tk_end ?_
     refine tk_call (i := 12) (by kernel_rfl) (by kernel_rfl) (fun o ho K hK => ?_)
     simp only [List.getElem?_toArray, List.getElem?_cons_succ, List.getElem?_cons_zero, Option.some.injEq] at ho
     subst ho
     have c_x0 := bs.at 2 0 rfl rfl
     have f_x0 := bs.fz 2 0 rfl rfl
     have c_x1 := bs.at 2 1 rfl rfl
     have f_x1 := bs.fz 2 1 rfl rfl
     have c_x2 := bs.at 2 2 rfl rfl
     have f_x2 := bs.fz 2 2 rfl rfl
     have c_x3 := bs.at 2 3 rfl rfl
     have f_x3 := bs.fz 2 3 rfl rfl
     have c_x4 := bs.at 2 4 rfl rfl
     have f_x4 := bs.fz 2 4 rfl rfl
     have c_x5 := bs.at 2 5 rfl rfl
     have f_x5 := bs.fz 2 5 rfl rfl
     have c_x6 := bs.at 2 6 rfl rfl
     have f_x6 := bs.fz 2 6 rfl rfl
     have c_x7 := bs.at 2 7 rfl rfl
     have f_x7 := bs.fz 2 7 rfl rfl
     go_simp
     clear c_x0 f_x0 c_x1 f_x1 c_x2 f_x2 c_x3 f_x3 c_x4 f_x4 c_x5 f_x5 c_x6 f_x6 c_x7 f_x7
     obtain ⟨w24, hw24, y24, bs⟩ := bs.sets 2 0 [.string ⟨(Y, (ga, gc)).1.j.toArray⟩, .string ⟨(Y, (ga, gc)).1.n.toArray⟩, gvI (Y, (ga, gc)), .bool (Y, (ga, gc)).1.s.1, .bool (Y, (ga, gc)).1.s.2.1, .bool (Y, (ga, gc)).1.s.2.2.1, .bool (Y, (ga, gc)).1.s.2.2.2, .bool (Y, (ga, gc)).1.k] rfl (Nat.le_of_ble_eq_true rfl)
     replace o_g := o_g.sets 2 rfl hw24
     replace q := bs.q
     simp only [World.setCells, Nat.reduceAdd] at hw24
     rw [hw24]
     clear hHeld
     refine hK.out _ _ ⟨bs.at 0 0 rfl rfl, bs.at 1 0 rfl rfl, bs.at 1 1 rfl rfl, (EC.out _ q).1⟩ (fun hHeld => ?_)
     clear hK K
     refine tk_on (i := 13) (some 9) (v := ?_) (by kernel_rfl) (by kernel_rfl) (by kernel_rfl) (by kernel_rfl) (fun _ _ _ h => h) (by assumption) (fun o ho w' hSw => ?_) ?_
     rotate_left
     ·(simp only [List.getElem?_toArray, List.getElem?_cons_succ, List.getElem?_cons_zero, Option.some.injEq] at ho; subst ho; (try dsimp only at hSw); go_simp; try with_reducible rfl)
     simp only [Act.put, List.setIfInBounds_toArray, List.set_cons_zero, List.set_cons_succ]
     refine wpAnyH_done (by kernel_rfl) ?_ _
     clear hHeld
     go_wp2_with fail
     replace o_g := o_g.ret (Below.drew (Below.refl _ _))
     replace bs := bs.ret (Below.drew (Below.refl _ _))
     replace q := bs.q
     have y25 : w24.drew.heap.size = w24.heap.size := rfl
     refine wp_region_held_drew (S := fun w' => w'.cell? ⟨w.heap.size, 0, none⟩ = some (.slice (some ⟨b, off, none⟩) L0 cap0) ∧ w'.cell? ⟨b, off + k * 8, none⟩ = some (.string ⟨pk.1.j.toArray⟩) ∧ w'.cell? ⟨b, off + k * 8 + 1, none⟩ = some (.string ⟨pk.1.n.toArray⟩) ∧ w'.cell? ⟨b, off + k * 8 + 2, none⟩ = some (gvI pk) ∧ w'.cell? ⟨b, off + k * 8 + 3, none⟩ = some (.bool pk.1.s.1) ∧ w'.cell? ⟨b, off + k * 8 + 4, none⟩ = some (.bool pk.1.s.2.1) ∧ w'.cell? ⟨b, off + k * 8 + 5, none⟩ = some (.bool pk.1.s.2.2.1) ∧ w'.cell? ⟨b, off + k * 8 + 6, none⟩ = some (.bool pk.1.s.2.2.2) ∧ w'.cell? ⟨b, off + k * 8 + 7, none⟩ = some (.bool pk.1.k) ∧ w'.cell? ⟨wr.heap.size, 0, none⟩ = some (.string ⟨(Y, (ga, gc)).1.j.toArray⟩) ∧ w'.cell? ⟨wr.heap.size, 1, none⟩ = some (.string ⟨(Y, (ga, gc)).1.n.toArray⟩) ∧ w'.cell? ⟨wr.heap.size, 2, none⟩ = some (gvI (Y, (ga, gc))) ∧ w'.cell? ⟨wr.heap.size, 3, none⟩ = some (.bool (Y, (ga, gc)).1.s.1) ∧ w'.cell? ⟨wr.heap.size, 4, none⟩ = some (.bool (Y, (ga, gc)).1.s.2.1) ∧ w'.cell? ⟨wr.heap.size, 5, none⟩ = some (.bool (Y, (ga, gc)).1.s.2.2.1) ∧ w'.cell? ⟨wr.heap.size, 6, none⟩ = some (.bool (Y, (ga, gc)).1.s.2.2.2) ∧ w'.cell? ⟨wr.heap.size, 7, none⟩ = some (.bool (Y, (ga, gc)).1.k)) (by kernel_rfl) ⟨bs.at 0 0 rfl rfl, (EC.out _ q).1, (EC.out _ q).2.1, (EC.out _ q).2.2.1, (EC.out _ q).2.2.2.1, (EC.out _ q).2.2.2.2.1, (EC.out _ q).2.2.2.2.2.1, (EC.out _ q).2.2.2.2.2.2.1, (EC.out _ q).2.2.2.2.2.2.2, bs.at 2 0 rfl rfl, bs.at 2 1 rfl rfl, bs.at 2 2 rfl rfl, bs.at 2 3 rfl rfl, bs.at 2 4 rfl rfl, bs.at 2 5 rfl rfl, bs.at 2 6 rfl rfl, bs.at 2 7 rfl rfl⟩ (fun hHeld => ?_)
     generalize w24.drew = w25 at bs o_g q y25 hHeld ⊢
     refine tk_start [(0, some 28), (1, some 29), (2, some 30), (3, some 31), (4, some 32), (5, some 33), (6, some 34), (7, some 35), (8, some 36)] ?_
     iterate 9
      refine tk_step (v := ?_) (by kernel_rfl) (by kernel_rfl) (fun _ _ _ h => h) (by assumption) (fun o ho w' hSw => ?_) ?_
      rotate_left
      ·simp only [List.getElem?_toArray, List.getElem?_cons_succ, List.getElem?_cons_zero, Option.some.injEq] at ho; subst ho; (try dsimp only at hSw); go_simp; try with_reducible rfl
      simp only [Act.put, List.setIfInBounds_toArray, List.set_cons_zero, List.set_cons_succ]
     refine tk_end ?_
     refine tk_off (i := 9) (some 37) (by kernel_rfl) (by kernel_rfl) (by kernel_rfl) (by kernel_rfl) (fun _ _ _ h => h) (by assumption) ?_
     simp only [Act.put, List.setIfInBounds_toArray, List.set_cons_zero, List.set_cons_succ]
     refine tk_off (i := 10) (some 38) (by kernel_rfl) (by kernel_rfl) (by kernel_rfl) (by kernel_rfl) (fun _ _ _ h => h) (by assumption) ?_
     simp only [Act.put, List.setIfInBounds_toArray, List.set_cons_zero, List.set_cons_succ]
     refine tk_off (i := 11) (some 39) (by kernel_rfl) (by kernel_rfl) (by kernel_rfl) (by kernel_rfl) (fun _ _ _ h => h) (by assumption) ?_
     simp only [Act.put, List.setIfInBounds_toArray, List.set_cons_zero, List.set_cons_succ]
     refine tk_off (i := 12) (some 40) (by kernel_rfl) (by kernel_rfl) (by kernel_rfl) (by kernel_rfl) (fun _ _ _ h => h) (by assumption) ?_
     simp only [Act.put, List.setIfInBounds_toArray, List.set_cons_zero, List.set_cons_succ]
     refine tk_off (i := 13) (some 41) (by kernel_rfl) (by kernel_rfl) (by kernel_rfl) (by kernel_rfl) (fun _ _ _ h => h) (by assumption) ?_
     simp only [Act.put, List.setIfInBounds_toArray, List.set_cons_zero, List.set_cons_succ]
     refine tk_off (i := 14) (some 42) (by kernel_rfl) (by kernel_rfl) (by kernel_rfl) (by kernel_rfl) (fun _ _ _ h => h) (by assumption) ?_
     simp only [Act.put, List.setIfInBounds_toArray, List.set_cons_zero, List.set_cons_succ]
     refine tk_off (i := 15) (some 43) (by kernel_rfl) (by kernel_rfl) (by kernel_rfl) (by kernel_rfl) (fun _ _ _ h => h) (by assumption) ?_
     simp only [Act.put, List.setIfInBounds_toArray, List.set_cons_zero, List.set_cons_succ]
     refine tk_off (i := 16) (some 44) (by kernel_rfl) (by kernel_rfl) (by kernel_rfl) (by kernel_rfl) (fun _ _ _ h => h) (by assumption) ?_
     simp only [Act.put, List.setIfInBounds_toArray, List.set_cons_zero, List.set_cons_succ]
     refine tk_off (i := 17) (some 45) (by kernel_rfl) (by kernel_rfl) (by kernel_rfl) (by kernel_rfl) (fun _ _ _ h => h) (by assumption) ?_
     simp only [Act.put, List.setIfInBounds_toArray, List.set_cons_zero, List.set_cons_succ]
     refine tk_off (i := 18) (some 46) (by kernel_rfl) (by kernel_rfl) (by kernel_rfl) (by kernel_rfl) (fun _ _ _ h => h) (by assumption) ?_
     simp only [Act.put, List.setIfInBounds_toArray, List.set_cons_zero, List.set_cons_succ]
     refine tk_off (i := 19) (some 47) (by kernel_rfl) (by kernel_rfl) (by kernel_rfl) (by kernel_rfl) (fun _ _ _ h => h) (by assumption) ?_
     simp only [Act.put, List.setIfInBounds_toArray, List.set_cons_zero, List.set_cons_succ]
     refine tk_off (i := 20) (some 48) (by kernel_rfl) (by kernel_rfl) (by kernel_rfl) (by kernel_rfl) (fun _ _ _ h => h) (by assumption) ?_
     simp only [Act.put, List.setIfInBounds_toArray, List.set_cons_zero, List.set_cons_succ]
     refine tk_on (i := 21) (some 49) (v := ?_) (by kernel_rfl) (by kernel_rfl) (by kernel_rfl) (by kernel_rfl) (fun _ _ _ h => h) (by assumption) (fun o ho w' hSw => ?_) ?_
     rotate_left
     ·(simp only [List.getElem?_toArray, List.getElem?_cons_succ, List.getElem?_cons_zero, Option.some.injEq] at ho; subst ho; (try dsimp only at hSw); go_simp; try with_reducible rfl)
     simp only [Act.put, List.setIfInBounds_toArray, List.set_cons_zero, List.set_cons_succ]
     refine wpAnyH_done (by kernel_rfl) ?_ _
     clear hHeld
     go_wp2_with fail
     go_roundw
     case rel => exact ⟨k + 1, by omega, by go_num, bs.pre 2⟩
     case measure => simp [intOf]; omega
    exact AllReadyH.nil
   ·have he : (pk.1.j == t) = false := by simp [hjt]
    rw [hoth hjt] at cf
    simp only [Option.getD_some, Option.isSome_some] at cf
    have CFF := Lib.hid cf
    clear cf hoth
    have c_r0 := bs.at 0 0 rfl rfl
    have c_r1 := bs.at 0 1 rfl rfl
    have c_o0 := bs.at 1 0 rfl rfl
    have c_o1 := bs.at 1 1 rfl rfl
    go_wp2_with fail
    clear c_r0 c_r1 c_o0 c_o1
    replace bs := bs.ret (Below.drew (Below.refl _ _))
    replace q := bs.q
    have y21 : wr.drew.heap.size = wr.heap.size := rfl
    refine wp_region_held_drew (S := fun w' => w'.cell? ⟨w.heap.size, 0, none⟩ = some (.slice (some ⟨b, off, none⟩) L0 cap0) ∧ w'.cell? ⟨w.heap.size + 1, 0, none⟩ = some (.slice b0 K0 cap1) ∧ w'.cell? ⟨w.heap.size + 1, 1, none⟩ = some (.int .i64 ver') ∧ w'.cell? ⟨b, off + k * 8, none⟩ = some (.string ⟨pk.1.j.toArray⟩)) (by kernel_rfl) ⟨bs.at 0 0 rfl rfl, bs.at 1 0 rfl rfl, bs.at 1 1 rfl rfl, (EC.out _ q).1⟩ (fun hHeld => ?_)
    generalize wr.drew = w21 at bs q y21 hHeld ⊢
    refine tk_start [(0, some 18), (1, some 19), (2, some 20), (3, some 21), (4, some 22), (5, some 23), (6, some 24)] ?_
    iterate 7
     refine tk_step (v := ?_) (by kernel_rfl) (by kernel_rfl) (fun _ _ _ h => h) (by assumption) (fun o ho w' hSw => ?_) ?_
     rotate_left
     ·simp only [List.getElem?_toArray, List.getElem?_cons_succ, List.getElem?_cons_zero, Option.some.injEq] at ho; subst ho; (try dsimp only at hSw); go_simp; try with_reducible rfl
     simp only [Act.put, List.setIfInBounds_toArray, List.set_cons_zero, List.set_cons_succ]
    refine tk_end ?_
    refine wpAnyH_ready (rs := [7, 11]) (by kernel_rfl) (by simp) ?_
    refine tk_cons (by kernel_rfl) (fun o ho K hK => ?_) ?_
    ·simp only [List.getElem?_toArray, List.getElem?_cons_succ, List.getElem?_cons_zero, Option.some.injEq] at ho
     subst ho
     go_simp
     refine (CFF.out w21 q).mono ?_
     rintro e w22 ⟨ga, gc, rfl, hgo, hb⟩
     have o_g := OwX.mk' bs hgo
     replace bs := bs.ret hb
     replace q := bs.q
     clear hb
     clear hgo
     go_simp
     clear hHeld
     refine hK.out _ _ ⟨bs.at 0 0 rfl rfl, bs.at 1 0 rfl rfl, bs.at 1 1 rfl rfl, (EC.out _ q).1⟩ (fun hHeld => ?_)
     clear hK K
     refine tk_start [(8, some 17), (9, some 26), (10, some 27)] ?_
     iterate 3
      refine tk_step (v := ?_) (by kernel_rfl) (by kernel_rfl) (fun _ _ _ h => h) (by assumption) (fun o ho w' hSw => ?_) ?_
      rotate_left
      ·simp only [List.getElem?_toArray, List.getElem?_cons_succ, List.getElem?_cons_zero, Option.some.injEq] at ho; subst ho; (try dsimp only at hSw); go_simp; try with_reducible rfl
      simp only [Act.put, List.setIfInBounds_toArray, List.set_cons_zero, List.set_cons_succ]
     refine tk_end ?_
     refine tk_call (i := 11) (by kernel_rfl) (by kernel_rfl) (fun o ho K hK => ?_)
     simp only [List.getElem?_toArray, List.getElem?_cons_succ, List.getElem?_cons_zero, Option.some.injEq] at ho
     subst ho
     go_simp
     obtain ⟨w23, hw23, y23, al, bs⟩ := bs.alloc (w22.heap.size) rfl [.string ⟨#[]⟩, .string ⟨#[]⟩, .slice none 0 0, .bool false, .bool false, .bool false, .bool false, .bool false] 31
     replace o_g := o_g.alloc (w22.heap.size) rfl al
     clear al
     replace q := bs.q
     rw [hw23]
     clear hHeld
     refine hK.out _ _ ⟨bs.at 0 0 rfl rfl, bs.at 1 0 rfl rfl, bs.at 1 1 rfl rfl, (EC.out _ q).1⟩ (fun hHeld => ?_)
     clear hK K
     refine tk_call (i := 12) (by kernel_rfl) (by kernel_rfl) (fun o ho K hK => ?_)
     simp only [List.getElem?_toArray, List.getElem?_cons_succ, List.getElem?_cons_zero, Option.some.injEq] at ho
     subst ho
     have c_x0 := bs.at 2 0 rfl rfl
     have f_x0 := bs.fz 2 0 rfl rfl
     have c_x1 := bs.at 2 1 rfl rfl
     have f_x1 := bs.fz 2 1 rfl rfl
     have c_x2 := bs.at 2 2 rfl rfl
     have f_x2 := bs.fz 2 2 rfl rfl
     have c_x3 := bs.at 2 3 rfl rfl
     have f_x3 := bs.fz 2 3 rfl rfl
     have c_x4 := bs.at 2 4 rfl rfl
     have f_x4 := bs.fz 2 4 rfl rfl
     have c_x5 := bs.at 2 5 rfl rfl
     have f_x5 := bs.fz 2 5 rfl rfl
     have c_x6 := bs.at 2 6 rfl rfl
     have f_x6 := bs.fz 2 6 rfl rfl
     have c_x7 := bs.at 2 7 rfl rfl
     have f_x7 := bs.fz 2 7 rfl rfl
     go_simp
     clear c_x0 f_x0 c_x1 f_x1 c_x2 f_x2 c_x3 f_x3 c_x4 f_x4 c_x5 f_x5 c_x6 f_x6 c_x7 f_x7
     obtain ⟨w24, hw24, y24, bs⟩ := bs.sets 2 0 [.string ⟨(pk.1, (ga, gc)).1.j.toArray⟩, .string ⟨(pk.1, (ga, gc)).1.n.toArray⟩, gvI (pk.1, (ga, gc)), .bool (pk.1, (ga, gc)).1.s.1, .bool (pk.1, (ga, gc)).1.s.2.1, .bool (pk.1, (ga, gc)).1.s.2.2.1, .bool (pk.1, (ga, gc)).1.s.2.2.2, .bool (pk.1, (ga, gc)).1.k] rfl (Nat.le_of_ble_eq_true rfl)
     replace o_g := o_g.sets 2 rfl hw24
     replace q := bs.q
     simp only [World.setCells, Nat.reduceAdd] at hw24
     rw [hw24]
     clear hHeld
     refine hK.out _ _ ⟨bs.at 0 0 rfl rfl, bs.at 1 0 rfl rfl, bs.at 1 1 rfl rfl, (EC.out _ q).1⟩ (fun hHeld => ?_)
     clear hK K
     refine tk_on (i := 13) (some 9) (v := ?_) (by kernel_rfl) (by kernel_rfl) (by kernel_rfl) (by kernel_rfl) (fun _ _ _ h => h) (by assumption) (fun o ho w' hSw => ?_) ?_
     rotate_left
     ·(simp only [List.getElem?_toArray, List.getElem?_cons_succ, List.getElem?_cons_zero, Option.some.injEq] at ho; subst ho; (try dsimp only at hSw); go_simp; try with_reducible rfl)
     simp only [Act.put, List.setIfInBounds_toArray, List.set_cons_zero, List.set_cons_succ]
     refine wpAnyH_done (by kernel_rfl) ?_ _
     clear hHeld
     go_wp2_with fail
     replace o_g := o_g.ret (Below.drew (Below.refl _ _))
     replace bs := bs.ret (Below.drew (Below.refl _ _))
     replace q := bs.q
     have y25 : w24.drew.heap.size = w24.heap.size := rfl
     refine wp_region_held_drew (S := fun w' => w'.cell? ⟨w.heap.size, 0, none⟩ = some (.slice (some ⟨b, off, none⟩) L0 cap0) ∧ w'.cell? ⟨b, off + k * 8, none⟩ = some (.string ⟨pk.1.j.toArray⟩) ∧ w'.cell? ⟨b, off + k * 8 + 1, none⟩ = some (.string ⟨pk.1.n.toArray⟩) ∧ w'.cell? ⟨b, off + k * 8 + 2, none⟩ = some (gvI pk) ∧ w'.cell? ⟨b, off + k * 8 + 3, none⟩ = some (.bool pk.1.s.1) ∧ w'.cell? ⟨b, off + k * 8 + 4, none⟩ = some (.bool pk.1.s.2.1) ∧ w'.cell? ⟨b, off + k * 8 + 5, none⟩ = some (.bool pk.1.s.2.2.1) ∧ w'.cell? ⟨b, off + k * 8 + 6, none⟩ = some (.bool pk.1.s.2.2.2) ∧ w'.cell? ⟨b, off + k * 8 + 7, none⟩ = some (.bool pk.1.k) ∧ w'.cell? ⟨w22.heap.size, 0, none⟩ = some (.string ⟨(pk.1, (ga, gc)).1.j.toArray⟩) ∧ w'.cell? ⟨w22.heap.size, 1, none⟩ = some (.string ⟨(pk.1, (ga, gc)).1.n.toArray⟩) ∧ w'.cell? ⟨w22.heap.size, 2, none⟩ = some (gvI (pk.1, (ga, gc))) ∧ w'.cell? ⟨w22.heap.size, 3, none⟩ = some (.bool (pk.1, (ga, gc)).1.s.1) ∧ w'.cell? ⟨w22.heap.size, 4, none⟩ = some (.bool (pk.1, (ga, gc)).1.s.2.1) ∧ w'.cell? ⟨w22.heap.size, 5, none⟩ = some (.bool (pk.1, (ga, gc)).1.s.2.2.1) ∧ w'.cell? ⟨w22.heap.size, 6, none⟩ = some (.bool (pk.1, (ga, gc)).1.s.2.2.2) ∧ w'.cell? ⟨w22.heap.size, 7, none⟩ = some (.bool (pk.1, (ga, gc)).1.k)) (by kernel_rfl) ⟨bs.at 0 0 rfl rfl, (EC.out _ q).1, (EC.out _ q).2.1, (EC.out _ q).2.2.1, (EC.out _ q).2.2.2.1, (EC.out _ q).2.2.2.2.1, (EC.out _ q).2.2.2.2.2.1, (EC.out _ q).2.2.2.2.2.2.1, (EC.out _ q).2.2.2.2.2.2.2, bs.at 2 0 rfl rfl, bs.at 2 1 rfl rfl, bs.at 2 2 rfl rfl, bs.at 2 3 rfl rfl, bs.at 2 4 rfl rfl, bs.at 2 5 rfl rfl, bs.at 2 6 rfl rfl, bs.at 2 7 rfl rfl⟩ (fun hHeld => ?_)
     generalize w24.drew = w25 at bs o_g q y25 hHeld ⊢
     refine tk_start [(0, some 28), (1, some 29), (2, some 30), (3, some 31), (4, some 32), (5, some 33), (6, some 34), (7, some 35), (8, some 36), (9, some 37), (10, some 38), (11, some 39), (12, some 40), (13, some 41), (14, some 42), (15, some 43), (16, some 44), (17, some 45)] ?_
     iterate 18
      refine tk_step (v := ?_) (by kernel_rfl) (by kernel_rfl) (fun _ _ _ h => h) (by assumption) (fun o ho w' hSw => ?_) ?_
      rotate_left
      ·simp only [List.getElem?_toArray, List.getElem?_cons_succ, List.getElem?_cons_zero, Option.some.injEq] at ho; subst ho; (try dsimp only at hSw); go_simp; try with_reducible rfl
      simp only [Act.put, List.setIfInBounds_toArray, List.set_cons_zero, List.set_cons_succ]
     refine tk_end ?_
     refine tk_call (i := 18) (by kernel_rfl) (by kernel_rfl) (fun o ho K hK => ?_)
     simp only [List.getElem?_toArray, List.getElem?_cons_succ, List.getElem?_cons_zero, Option.some.injEq] at ho
     subst ho
     go_simp
     refine (same_it (p := (pk.1, (ga, gc))) (p' := pk) (grp_own o_g.1 rfl) (PG.out.ret q) ZG.out ZG.out (decide_eq_true rfl)).mono ?_
     rintro e w26 ⟨rfl, hb⟩
     replace o_g := o_g.ret hb
     replace bs := bs.ret hb
     replace q := bs.q
     clear hb
     go_simp
     clear hHeld
     refine hK.out _ _ ⟨bs.at 0 0 rfl rfl, (EC.out _ q).1, (EC.out _ q).2.1, (EC.out _ q).2.2.1, (EC.out _ q).2.2.2.1, (EC.out _ q).2.2.2.2.1, (EC.out _ q).2.2.2.2.2.1, (EC.out _ q).2.2.2.2.2.2.1, (EC.out _ q).2.2.2.2.2.2.2, bs.at 2 0 rfl rfl, bs.at 2 1 rfl rfl, bs.at 2 2 rfl rfl, bs.at 2 3 rfl rfl, bs.at 2 4 rfl rfl, bs.at 2 5 rfl rfl, bs.at 2 6 rfl rfl, bs.at 2 7 rfl rfl⟩ (fun hHeld => ?_)
     clear hK K
     refine tk_start [(19, some 47), (20, some 48), (21, some 49)] ?_
     iterate 3
      refine tk_step (v := ?_) (by kernel_rfl) (by kernel_rfl) (fun _ _ _ h => h) (by assumption) (fun o ho w' hSw => ?_) ?_
      rotate_left
      ·simp only [List.getElem?_toArray, List.getElem?_cons_succ, List.getElem?_cons_zero, Option.some.injEq] at ho; subst ho; (try dsimp only at hSw); go_simp; try with_reducible rfl
      simp only [Act.put, List.setIfInBounds_toArray, List.set_cons_zero, List.set_cons_succ]
     refine tk_end ?_
     refine wpAnyH_done (by kernel_rfl) ?_ _
     clear hHeld
     go_wp2_with fail
     go_roundw
     case rel => exact ⟨k + 1, by omega, by go_num, bs.pre 2⟩
     case measure => simp [intOf]; omega
    refine tk_cons (by kernel_rfl) (fun o ho K hK => ?_) ?_
    ·simp only [List.getElem?_toArray, List.getElem?_cons_succ, List.getElem?_cons_zero, Option.some.injEq] at ho
     subst ho
     go_simp
     obtain ⟨w22, hw22, y22, al, bs⟩ := bs.alloc (wr.heap.size) (by omega) [.string ⟨#[]⟩, .string ⟨#[]⟩, .slice none 0 0, .bool false, .bool false, .bool false, .bool false, .bool false] 31
     clear al
     replace q := bs.q
     rw [hw22]
     clear hHeld
     refine hK.out _ _ ⟨bs.at 0 0 rfl rfl, bs.at 1 0 rfl rfl, bs.at 1 1 rfl rfl, (EC.out _ q).1⟩ (fun hHeld => ?_)
     clear hK K
     refine tk_call (i := 7) (by kernel_rfl) (by kernel_rfl) (fun o ho K hK => ?_)
     simp only [List.getElem?_toArray, List.getElem?_cons_succ, List.getElem?_cons_zero, Option.some.injEq] at ho
     subst ho
     go_simp
     refine (CFF.out w22 q).mono ?_
     rintro e w23 ⟨ga, gc, rfl, hgo, hb⟩
     have o_g := OwX.mk' bs hgo
     replace bs := bs.ret hb
     replace q := bs.q
     clear hb
     clear hgo
     go_simp
     clear hHeld
     refine hK.out _ _ ⟨bs.at 0 0 rfl rfl, bs.at 1 0 rfl rfl, bs.at 1 1 rfl rfl, (EC.out _ q).1⟩ (fun hHeld => ?_)
     clear hK K
     refine tk_start [(8, some 17), (9, some 26), (10, some 27)] ?_
     iterate 3
      refine tk_step (v := ?_) (by kernel_rfl) (by kernel_rfl) (fun _ _ _ h => h) (by assumption) (fun o ho w' hSw => ?_) ?_
      rotate_left
      ·simp only [List.getElem?_toArray, List.getElem?_cons_succ, List.getElem?_cons_zero, Option.some.injEq] at ho; subst ho; (try dsimp only at hSw); go_simp; try with_reducible rfl
      simp only [Act.put, List.setIfInBounds_toArray, List.set_cons_zero, List.set_cons_succ]
     refine tk_end ?_
     refine tk_call (i := 12) (by kernel_rfl) (by kernel_rfl) (fun o ho K hK => ?_)
     simp only [List.getElem?_toArray, List.getElem?_cons_succ, List.getElem?_cons_zero, Option.some.injEq] at ho
     subst ho
     have c_x0 := bs.at 2 0 rfl rfl
     have f_x0 := bs.fz 2 0 rfl rfl
     have c_x1 := bs.at 2 1 rfl rfl
     have f_x1 := bs.fz 2 1 rfl rfl
     have c_x2 := bs.at 2 2 rfl rfl
     have f_x2 := bs.fz 2 2 rfl rfl
     have c_x3 := bs.at 2 3 rfl rfl
     have f_x3 := bs.fz 2 3 rfl rfl
     have c_x4 := bs.at 2 4 rfl rfl
     have f_x4 := bs.fz 2 4 rfl rfl
     have c_x5 := bs.at 2 5 rfl rfl
     have f_x5 := bs.fz 2 5 rfl rfl
     have c_x6 := bs.at 2 6 rfl rfl
     have f_x6 := bs.fz 2 6 rfl rfl
     have c_x7 := bs.at 2 7 rfl rfl
     have f_x7 := bs.fz 2 7 rfl rfl
     go_simp
     clear c_x0 f_x0 c_x1 f_x1 c_x2 f_x2 c_x3 f_x3 c_x4 f_x4 c_x5 f_x5 c_x6 f_x6 c_x7 f_x7
     obtain ⟨w24, hw24, y24, bs⟩ := bs.sets 2 0 [.string ⟨(pk.1, (ga, gc)).1.j.toArray⟩, .string ⟨(pk.1, (ga, gc)).1.n.toArray⟩, gvI (pk.1, (ga, gc)), .bool (pk.1, (ga, gc)).1.s.1, .bool (pk.1, (ga, gc)).1.s.2.1, .bool (pk.1, (ga, gc)).1.s.2.2.1, .bool (pk.1, (ga, gc)).1.s.2.2.2, .bool (pk.1, (ga, gc)).1.k] rfl (Nat.le_of_ble_eq_true rfl)
     replace o_g := o_g.sets 2 rfl hw24
     replace q := bs.q
     simp only [World.setCells, Nat.reduceAdd] at hw24
     rw [hw24]
     clear hHeld
     refine hK.out _ _ ⟨bs.at 0 0 rfl rfl, bs.at 1 0 rfl rfl, bs.at 1 1 rfl rfl, (EC.out _ q).1⟩ (fun hHeld => ?_)
     clear hK K
     refine tk_on (i := 13) (some 9) (v := ?_) (by kernel_rfl) (by kernel_rfl) (by kernel_rfl) (by kernel_rfl) (fun _ _ _ h => h) (by assumption) (fun o ho w' hSw => ?_) ?_
     rotate_left
     ·(simp only [List.getElem?_toArray, List.getElem?_cons_succ, List.getElem?_cons_zero, Option.some.injEq] at ho; subst ho; (try dsimp only at hSw); go_simp; try with_reducible rfl)
     simp only [Act.put, List.setIfInBounds_toArray, List.set_cons_zero, List.set_cons_succ]
     refine wpAnyH_done (by kernel_rfl) ?_ _
     clear hHeld
     go_wp2_with fail
     replace o_g := o_g.ret (Below.drew (Below.refl _ _))
     replace bs := bs.ret (Below.drew (Below.refl _ _))
     replace q := bs.q
     have y25 : w24.drew.heap.size = w24.heap.size := rfl
     refine wp_region_held_drew (S := fun w' => w'.cell? ⟨w.heap.size, 0, none⟩ = some (.slice (some ⟨b, off, none⟩) L0 cap0) ∧ w'.cell? ⟨b, off + k * 8, none⟩ = some (.string ⟨pk.1.j.toArray⟩) ∧ w'.cell? ⟨b, off + k * 8 + 1, none⟩ = some (.string ⟨pk.1.n.toArray⟩) ∧ w'.cell? ⟨b, off + k * 8 + 2, none⟩ = some (gvI pk) ∧ w'.cell? ⟨b, off + k * 8 + 3, none⟩ = some (.bool pk.1.s.1) ∧ w'.cell? ⟨b, off + k * 8 + 4, none⟩ = some (.bool pk.1.s.2.1) ∧ w'.cell? ⟨b, off + k * 8 + 5, none⟩ = some (.bool pk.1.s.2.2.1) ∧ w'.cell? ⟨b, off + k * 8 + 6, none⟩ = some (.bool pk.1.s.2.2.2) ∧ w'.cell? ⟨b, off + k * 8 + 7, none⟩ = some (.bool pk.1.k) ∧ w'.cell? ⟨wr.heap.size, 0, none⟩ = some (.string ⟨(pk.1, (ga, gc)).1.j.toArray⟩) ∧ w'.cell? ⟨wr.heap.size, 1, none⟩ = some (.string ⟨(pk.1, (ga, gc)).1.n.toArray⟩) ∧ w'.cell? ⟨wr.heap.size, 2, none⟩ = some (gvI (pk.1, (ga, gc))) ∧ w'.cell? ⟨wr.heap.size, 3, none⟩ = some (.bool (pk.1, (ga, gc)).1.s.1) ∧ w'.cell? ⟨wr.heap.size, 4, none⟩ = some (.bool (pk.1, (ga, gc)).1.s.2.1) ∧ w'.cell? ⟨wr.heap.size, 5, none⟩ = some (.bool (pk.1, (ga, gc)).1.s.2.2.1) ∧ w'.cell? ⟨wr.heap.size, 6, none⟩ = some (.bool (pk.1, (ga, gc)).1.s.2.2.2) ∧ w'.cell? ⟨wr.heap.size, 7, none⟩ = some (.bool (pk.1, (ga, gc)).1.k)) (by kernel_rfl) ⟨bs.at 0 0 rfl rfl, (EC.out _ q).1, (EC.out _ q).2.1, (EC.out _ q).2.2.1, (EC.out _ q).2.2.2.1, (EC.out _ q).2.2.2.2.1, (EC.out _ q).2.2.2.2.2.1, (EC.out _ q).2.2.2.2.2.2.1, (EC.out _ q).2.2.2.2.2.2.2, bs.at 2 0 rfl rfl, bs.at 2 1 rfl rfl, bs.at 2 2 rfl rfl, bs.at 2 3 rfl rfl, bs.at 2 4 rfl rfl, bs.at 2 5 rfl rfl, bs.at 2 6 rfl rfl, bs.at 2 7 rfl rfl⟩ (fun hHeld => ?_)
     generalize w24.drew = w25 at bs o_g q y25 hHeld ⊢
     refine tk_start [(0, some 28), (1, some 29), (2, some 30), (3, some 31), (4, some 32), (5, some 33), (6, some 34), (7, some 35), (8, some 36), (9, some 37), (10, some 38), (11, some 39), (12, some 40), (13, some 41), (14, some 42), (15, some 43), (16, some 44), (17, some 45)] ?_
     iterate 18
      refine tk_step (v := ?_) (by kernel_rfl) (by kernel_rfl) (fun _ _ _ h => h) (by assumption) (fun o ho w' hSw => ?_) ?_
      rotate_left
      ·simp only [List.getElem?_toArray, List.getElem?_cons_succ, List.getElem?_cons_zero, Option.some.injEq] at ho; subst ho; (try dsimp only at hSw); go_simp; try with_reducible rfl
      simp only [Act.put, List.setIfInBounds_toArray, List.set_cons_zero, List.set_cons_succ]
     refine tk_end ?_
     refine tk_call (i := 18) (by kernel_rfl) (by kernel_rfl) (fun o ho K hK => ?_)
     simp only [List.getElem?_toArray, List.getElem?_cons_succ, List.getElem?_cons_zero, Option.some.injEq] at ho
     subst ho
     go_simp
     refine (same_it (p := (pk.1, (ga, gc))) (p' := pk) (grp_own o_g.1 rfl) (PG.out.ret q) ZG.out ZG.out (decide_eq_true rfl)).mono ?_
     rintro e w26 ⟨rfl, hb⟩
     replace o_g := o_g.ret hb
     replace bs := bs.ret hb
     replace q := bs.q
     clear hb
     go_simp
     clear hHeld
     refine hK.out _ _ ⟨bs.at 0 0 rfl rfl, (EC.out _ q).1, (EC.out _ q).2.1, (EC.out _ q).2.2.1, (EC.out _ q).2.2.2.1, (EC.out _ q).2.2.2.2.1, (EC.out _ q).2.2.2.2.2.1, (EC.out _ q).2.2.2.2.2.2.1, (EC.out _ q).2.2.2.2.2.2.2, bs.at 2 0 rfl rfl, bs.at 2 1 rfl rfl, bs.at 2 2 rfl rfl, bs.at 2 3 rfl rfl, bs.at 2 4 rfl rfl, bs.at 2 5 rfl rfl, bs.at 2 6 rfl rfl, bs.at 2 7 rfl rfl⟩ (fun hHeld => ?_)
     clear hK K
     refine tk_start [(19, some 47), (20, some 48), (21, some 49)] ?_
     iterate 3
      refine tk_step (v := ?_) (by kernel_rfl) (by kernel_rfl) (fun _ _ _ h => h) (by assumption) (fun o ho w' hSw => ?_) ?_
      rotate_left
      ·simp only [List.getElem?_toArray, List.getElem?_cons_succ, List.getElem?_cons_zero, Option.some.injEq] at ho; subst ho; (try dsimp only at hSw); go_simp; try with_reducible rfl
      simp only [Act.put, List.setIfInBounds_toArray, List.set_cons_zero, List.set_cons_succ]
     refine tk_end ?_
     refine wpAnyH_done (by kernel_rfl) ?_ _
     clear hHeld
     go_wp2_with fail
     go_roundw
     case rel => exact ⟨k + 1, by omega, by go_num, bs.pre 2⟩
     case measure => simp [intOf]; omega
    exact AllReadyH.nil
  ·obtain rfl : L0 = k := by omega
   have c_r0 := bs.at 0 0 rfl rfl
   have c_r1 := bs.at 0 1 rfl rfl
   go_wp2_with fail
   go_ret
   exact ⟨rfl, q⟩
theorem may_small {L : List It} {v : Int} (h : mayR L v = true) : ∀ x ∈ L, subMay x.s = true := fun x hx => by
 have h1 := (may_facts21 h).1 x hx
 unfold itemP at h1
 simp only [Bool.and_eq_true] at h1
 exact h1.2.2.1
theorem see_len {L : List It} {t : List UInt8} (hg : ∀ x ∈ L, x.g.length ≤ 1000) : (seeL L t).1.g.length ≤ 1000 := by
 unfold seeL
 cases h : findL L t with
 | none => exact Nat.zero_le _
 | some x =>
  simp only
  split
  ·exact hg x (find_some h).1
  ·exact Nat.zero_le _
set_option maxHeartbeats 16000000 in
set_option maxRecDepth 100000 in
theorem l21_turns (v u : Value) (ver ver' : Int) (M K : List Im) (t : List UInt8) (push st : Bool) (w : World) (hv : IsItems v M w) (hu : IsItems u K w) (hm : ML w) (hs : SmallI M) (hs' : SmallI K) (ho : TurnsOk (M.map Prod.fst) ver (K.map Prod.fst) ver' t push st) :
  Calls Tryz.prog 32 #[.agg #[v, .int .i64 ver], .agg #[u, .int .i64 ver'], .string ⟨t.toArray⟩, .bool push, .bool st] w (Ret w (.bool true)) := by
 obtain ⟨a0, cap0, hf, -⟩ := hv.form
 obtain ⟨b0, cap1, hf1, -⟩ := hu.form
 obtain ⟨L0, hL⟩ : ∃ L, M.length = L := ⟨_, rfl⟩
 obtain ⟨K0, hKL⟩ : ∃ L, K.length = L := ⟨_, rfl⟩
 rw [hL] at hf
 rw [hKL] at hf1
 subst hf
 subst hf1
 obtain ⟨ho1, ho2, ho3, ho4, ho5, ho6, ho7⟩ := ho
 obtain ⟨-, -, -, hv0, hv1⟩ := may_facts21 ho1
 unfold mostV at hv1 ho5
 have gM : ∀ p ∈ M, p.1.g.length ≤ 1000 := fun p hp => (hs.2 p hp).2.2.1
 have gK : ∀ p ∈ K, p.1.g.length ≤ 1000 := fun p hp => (hs'.2 p hp).2.2.1
 have sM : (seeL (M.map Prod.fst) t).1.g.length ≤ 1000 := see_len fun x hx => by
  obtain ⟨p, hp, rfl⟩ := List.mem_map.1 hx
  exact gM p hp
 have sK : (seeL (K.map Prod.fst) t).1.g.length ≤ 1000 := see_len fun x hx => by
  obtain ⟨p, hp, rfl⟩ := List.mem_map.1 hx
  exact gK p hp
 have C1 := fun (w' : World) (hb : Below w.heap.size w w') => l21_seen (.slice a0 L0 cap0) ver M t w' (hv.ret hb) hs.1 gM (may_small ho1)
 have C2 := fun (w' : World) (hb : Below w.heap.size w w') => l21_seen (.slice b0 K0 cap1) ver' K t w' (hu.ret hb) hs'.1 gK (may_small ho2)
 have C3 := fun (w' : World) (hb : Below w.heap.size w w') => ro_Check (.slice b0 K0 cap1) ver' K w' (hu.ret hb) hs' (hm.ret hb)
 rw [ho2] at C3
 simp only [if_true] at C3
 have C4 := Lib.hid fun (w' : World) (hb : Below w.heap.size w w') => l21_others (.slice a0 L0 cap0) (.slice b0 K0 cap1) ver ver' M K t w' (hv.ret hb) (hu.ret hb) hs.1 hs'.1 gM gK ho6
 have C5 := Lib.hid fun (w' : World) (hb : Below w.heap.size w w') => l21_others (.slice b0 K0 cap1) (.slice a0 L0 cap0) ver' ver K M t w' (hu.ret hb) (hv.ret hb) hs'.1 hs.1 gK gM ho7
 have C3 := Lib.hid C3
 unfold See21 at C1 C2
 unfold changedL at ho3
 obtain ⟨A, hA⟩ : ∃ A, (seeL (M.map Prod.fst) t).1 = A := ⟨_, rfl⟩
 obtain ⟨BA, hBA⟩ : ∃ A, (seeL (M.map Prod.fst) t).2 = A := ⟨_, rfl⟩
 obtain ⟨B, hB⟩ : ∃ A, (seeL (K.map Prod.fst) t).1 = A := ⟨_, rfl⟩
 obtain ⟨BB, hBB⟩ : ∃ A, (seeL (K.map Prod.fst) t).2 = A := ⟨_, rfl⟩
 rw [hA, hBA] at C1
 rw [hB, hBB] at C2
 rw [hA, hBA, hB, hBB] at ho3
 rw [hA] at sM
 rw [hB] at sK
 obtain ⟨D, hD⟩ : ∃ D, decide (A = B) = D := ⟨_, rfl⟩
 obtain ⟨C, hC⟩ : ∃ C, ((BA != BB) || !decide (A = B)) = C := ⟨_, rfl⟩
 rw [hC] at ho3
 rw [hD] at hC
 have C1 := Lib.hid C1
 have C2 := Lib.hid C2
 have SM := Lib.hid sM
 have SK := Lib.hid sK
 have HD := Lib.hid hD
 have HC := Lib.hid hC
 have H3 := Lib.hid ho3
 have H4 := Lib.hid ho4
 have H5 := Lib.hid ho5
 clear hv hu hm hs hs' ho1 ho2 ho3 ho4 ho5 ho6 ho7 gM gK sM sK hA hBA hB hBB hD hC hL hKL
 obtain ⟨W0, hW, y0, bs⟩ := Sx.start2 w [.slice a0 L0 cap0, .int .i64 ver] 24 [.slice b0 K0 cap1, .int .i64 ver'] 24
 have HW := Lib.hid hW
 clear hW
 have q := bs.q
 go_enter Tryz.func32, Tryz.ntmps32
 have c_r0 := bs.at 0 0 rfl rfl
 have c_r1 := bs.at 0 1 rfl rfl
 have c_o0 := bs.at 1 0 rfl rfl
 have c_o1 := bs.at 1 1 rfl rfl
 go_wp2_with fail
 rw [HW.out]
 refine (C1.out W0 q).mono ?_
 rintro e w1 ⟨ga, gc, rfl, hrow, hb⟩
 clear c_r0 c_r1 c_o0 c_o1
 have o_g := OwX.mk' bs hrow
 replace bs := bs.ret hb
 replace q := bs.q
 clear hb
 clear hrow
 have c_r0 := bs.at 0 0 rfl rfl
 have c_r1 := bs.at 0 1 rfl rfl
 have c_o0 := bs.at 1 0 rfl rfl
 have c_o1 := bs.at 1 1 rfl rfl
 have d0 := (bs.lit (w1.heap.size) rfl [.string ⟨A.j.toArray⟩, .string ⟨A.n.toArray⟩, .slice ga A.g.length gc, .bool A.s.1, .bool A.s.2.1, .bool A.s.2.2.1, .bool A.s.2.2.2, .bool A.k] 31)
 have c0_o0 := d0.at 1 0 rfl rfl
 have c0_o1 := d0.at 1 1 rfl rfl
 have c0_r0 := d0.at 0 0 rfl rfl
 have c0_r1 := d0.at 0 1 rfl rfl
 go_wp2_with fail
 clear c_r0 c_r1 c_o0 c_o1 d0 c0_o0 c0_o1 c0_r0 c0_r1
 obtain ⟨w2, hw2, y2, al, bs⟩ := bs.alloc (w1.heap.size) rfl [.string ⟨A.j.toArray⟩, .string ⟨A.n.toArray⟩, .slice ga A.g.length gc, .bool A.s.1, .bool A.s.2.1, .bool A.s.2.2.1, .bool A.s.2.2.2, .bool A.k] 31
 replace o_g := o_g.alloc (w1.heap.size) rfl al
 clear al
 replace q := bs.q
 rw [hw2]
 refine (C2.out w2 q).mono ?_
 rintro e w3 ⟨gb, gd, rfl, hrow, hb⟩
 have o_h := OwX.mk' bs hrow
 replace o_g := o_g.ret hb
 replace bs := bs.ret hb
 replace q := bs.q
 clear hb
 clear hrow
 have c_r0 := bs.at 0 0 rfl rfl
 have c_r1 := bs.at 0 1 rfl rfl
 have c_o0 := bs.at 1 0 rfl rfl
 have c_o1 := bs.at 1 1 rfl rfl
 go_upto_region 3 with fail
 clear c_r0 c_r1 c_o0 c_o1
 obtain ⟨w4, hw4, y4, al, bs⟩ := bs.alloc (w3.heap.size) rfl [.string ⟨B.j.toArray⟩, .string ⟨B.n.toArray⟩, .slice gb B.g.length gd, .bool B.s.1, .bool B.s.2.1, .bool B.s.2.2.1, .bool B.s.2.2.2, .bool B.k] 31
 replace o_g := o_g.alloc (w3.heap.size) rfl al
 replace o_h := o_h.alloc (w3.heap.size) rfl al
 clear al
 replace q := bs.q
 rw [hw4]
 go_cut [15] (fun c wx => c = .bool C ∧ Sx w [(w.heap.size, [.slice a0 L0 cap0, .int .i64 ver]), (w.heap.size + 1, [.slice b0 K0 cap1, .int .i64 ver']), (w1.heap.size, [.string ⟨A.j.toArray⟩, .string ⟨A.n.toArray⟩, .slice ga A.g.length gc, .bool A.s.1, .bool A.s.2.1, .bool A.s.2.2.1, .bool A.s.2.2.2, .bool A.k]), (w3.heap.size, [.string ⟨B.j.toArray⟩, .string ⟨B.n.toArray⟩, .slice gb B.g.length gd, .bool B.s.1, .bool B.s.2.1, .bool B.s.2.2.1, .bool B.s.2.2.2, .bool B.k])] wx)
 case first =>
  have hC := HC.out
  clear HC
  cases BA with
  | false =>
   cases BB with
   | false =>
    obtain rfl : C = !D := by rw [← hC]; rfl
    have c_a0 := bs.at 2 0 rfl rfl
    have c_a1 := bs.at 2 1 rfl rfl
    have c_a2 := bs.at 2 2 rfl rfl
    have c_a3 := bs.at 2 3 rfl rfl
    have c_a4 := bs.at 2 4 rfl rfl
    have c_a5 := bs.at 2 5 rfl rfl
    have c_a6 := bs.at 2 6 rfl rfl
    have c_a7 := bs.at 2 7 rfl rfl
    have c_b0 := bs.at 3 0 rfl rfl
    have c_b1 := bs.at 3 1 rfl rfl
    have c_b2 := bs.at 3 2 rfl rfl
    have c_b3 := bs.at 3 3 rfl rfl
    have c_b4 := bs.at 3 4 rfl rfl
    have c_b5 := bs.at 3 5 rfl rfl
    have c_b6 := bs.at 3 6 rfl rfl
    have c_b7 := bs.at 3 7 rfl rfl
    go_wp2_with fail
    refine (same_it (p := (A, (ga, gc))) (p' := (B, (gb, gd))) (grp_own o_g.1 rfl) (grp_own o_h.1 rfl) SM.out SK.out HD.out).mono ?_
    rintro e w5 ⟨rfl, hb⟩
    clear c_a0 c_a1 c_a2 c_a3 c_a4 c_a5 c_a6 c_a7 c_b0 c_b1 c_b2 c_b3 c_b4 c_b5 c_b6 c_b7
    replace o_g := o_g.ret hb
    replace o_h := o_h.ret hb
    replace bs := bs.ret hb
    replace q := bs.q
    clear hb
    go_wp2_with fail
    go_meet
    exact ⟨rfl, bs⟩
   | true =>
    obtain rfl : C = true := by rw [← hC]; rfl
    have c_a0 := bs.at 2 0 rfl rfl
    have c_a1 := bs.at 2 1 rfl rfl
    have c_a2 := bs.at 2 2 rfl rfl
    have c_a3 := bs.at 2 3 rfl rfl
    have c_a4 := bs.at 2 4 rfl rfl
    have c_a5 := bs.at 2 5 rfl rfl
    have c_a6 := bs.at 2 6 rfl rfl
    have c_a7 := bs.at 2 7 rfl rfl
    have c_b0 := bs.at 3 0 rfl rfl
    have c_b1 := bs.at 3 1 rfl rfl
    have c_b2 := bs.at 3 2 rfl rfl
    have c_b3 := bs.at 3 3 rfl rfl
    have c_b4 := bs.at 3 4 rfl rfl
    have c_b5 := bs.at 3 5 rfl rfl
    have c_b6 := bs.at 3 6 rfl rfl
    have c_b7 := bs.at 3 7 rfl rfl
    go_wp2_with fail
    go_meet
    exact ⟨rfl, bs⟩
  | true =>
   cases BB with
   | false =>
    obtain rfl : C = true := by rw [← hC]; rfl
    have c_a0 := bs.at 2 0 rfl rfl
    have c_a1 := bs.at 2 1 rfl rfl
    have c_a2 := bs.at 2 2 rfl rfl
    have c_a3 := bs.at 2 3 rfl rfl
    have c_a4 := bs.at 2 4 rfl rfl
    have c_a5 := bs.at 2 5 rfl rfl
    have c_a6 := bs.at 2 6 rfl rfl
    have c_a7 := bs.at 2 7 rfl rfl
    have c_b0 := bs.at 3 0 rfl rfl
    have c_b1 := bs.at 3 1 rfl rfl
    have c_b2 := bs.at 3 2 rfl rfl
    have c_b3 := bs.at 3 3 rfl rfl
    have c_b4 := bs.at 3 4 rfl rfl
    have c_b5 := bs.at 3 5 rfl rfl
    have c_b6 := bs.at 3 6 rfl rfl
    have c_b7 := bs.at 3 7 rfl rfl
    go_wp2_with fail
    go_meet
    exact ⟨rfl, bs⟩
   | true =>
    obtain rfl : C = !D := by rw [← hC]; rfl
    have c_a0 := bs.at 2 0 rfl rfl
    have c_a1 := bs.at 2 1 rfl rfl
    have c_a2 := bs.at 2 2 rfl rfl
    have c_a3 := bs.at 2 3 rfl rfl
    have c_a4 := bs.at 2 4 rfl rfl
    have c_a5 := bs.at 2 5 rfl rfl
    have c_a6 := bs.at 2 6 rfl rfl
    have c_a7 := bs.at 2 7 rfl rfl
    have c_b0 := bs.at 3 0 rfl rfl
    have c_b1 := bs.at 3 1 rfl rfl
    have c_b2 := bs.at 3 2 rfl rfl
    have c_b3 := bs.at 3 3 rfl rfl
    have c_b4 := bs.at 3 4 rfl rfl
    have c_b5 := bs.at 3 5 rfl rfl
    have c_b6 := bs.at 3 6 rfl rfl
    have c_b7 := bs.at 3 7 rfl rfl
    go_wp2_with fail
    refine (same_it (p := (A, (ga, gc))) (p' := (B, (gb, gd))) (grp_own o_g.1 rfl) (grp_own o_h.1 rfl) SM.out SK.out HD.out).mono ?_
    rintro e w5 ⟨rfl, hb⟩
    clear c_a0 c_a1 c_a2 c_a3 c_a4 c_a5 c_a6 c_a7 c_b0 c_b1 c_b2 c_b3 c_b4 c_b5 c_b6 c_b7
    replace o_g := o_g.ret hb
    replace o_h := o_h.ret hb
    replace bs := bs.ret hb
    replace q := bs.q
    clear hb
    go_wp2_with fail
    go_meet
    exact ⟨rfl, bs⟩
 case rest =>
  obtain ⟨rfl, hh⟩ := hcut
  clear bs o_g o_h q
  have bs := hh
  have q := bs.q
  clear hh
  have h3 := H3.out
  have h4 := H4.out
  have h5 := H5.out
  clear HD HC
  cases C with
  | false =>
   cases st with
   | false =>
    obtain rfl : push = false := h3
    obtain rfl := h4 rfl
    clear h4 h5
    have c_r0 := bs.at 0 0 rfl rfl
    have c_r1 := bs.at 0 1 rfl rfl
    have c_o0 := bs.at 1 0 rfl rfl
    have c_o1 := bs.at 1 1 rfl rfl
    go_wp2_with fail
    refine (C3.out wc q).mono ?_
    rintro e w51 ⟨rfl, hb⟩
    clear c_r0 c_r1 c_o0 c_o1
    replace bs := bs.ret hb
    replace q := bs.q
    clear hb
    have c_r0 := bs.at 0 0 rfl rfl
    have c_r1 := bs.at 0 1 rfl rfl
    have c_o0 := bs.at 1 0 rfl rfl
    have c_o1 := bs.at 1 1 rfl rfl
    go_wp2_with fail
    refine (C4.out w51 q).mono ?_
    rintro e w52 ⟨rfl, hb⟩
    clear c_r0 c_r1 c_o0 c_o1
    replace bs := bs.ret hb
    replace q := bs.q
    clear hb
    have c_r0 := bs.at 0 0 rfl rfl
    have c_r1 := bs.at 0 1 rfl rfl
    have c_o0 := bs.at 1 0 rfl rfl
    have c_o1 := bs.at 1 1 rfl rfl
    go_wp2_with fail
    refine (C5.out w52 q).mono ?_
    rintro e w53 ⟨rfl, hb⟩
    clear c_r0 c_r1 c_o0 c_o1
    replace bs := bs.ret hb
    replace q := bs.q
    clear hb
    go_wp2_with fail
    go_ret
    exact ⟨rfl, q⟩
   | true =>
    obtain rfl : push = true := h3
    by_cases hlt : ver < 9007199254740991
    ·obtain rfl := h5 rfl hlt
     have hn : ¬ (ver + 1 = ver) := by omega
     have hn2 : ((ver + 1) == ver) = false := beq_false_of_ne (by omega)
     clear h4 h5
     have c_r0 := bs.at 0 0 rfl rfl
     have c_r1 := bs.at 0 1 rfl rfl
     have c_o0 := bs.at 1 0 rfl rfl
     have c_o1 := bs.at 1 1 rfl rfl
     go_wp2_with fail
     refine (C3.out wc q).mono ?_
     rintro e w51 ⟨rfl, hb⟩
     clear c_r0 c_r1 c_o0 c_o1
     replace bs := bs.ret hb
     replace q := bs.q
     clear hb
     have c_r0 := bs.at 0 0 rfl rfl
     have c_r1 := bs.at 0 1 rfl rfl
     have c_o0 := bs.at 1 0 rfl rfl
     have c_o1 := bs.at 1 1 rfl rfl
     go_wp2_with fail
     refine (C4.out w51 q).mono ?_
     rintro e w52 ⟨rfl, hb⟩
     clear c_r0 c_r1 c_o0 c_o1
     replace bs := bs.ret hb
     replace q := bs.q
     clear hb
     have c_r0 := bs.at 0 0 rfl rfl
     have c_r1 := bs.at 0 1 rfl rfl
     have c_o0 := bs.at 1 0 rfl rfl
     have c_o1 := bs.at 1 1 rfl rfl
     go_wp2_with fail
     refine (C5.out w52 q).mono ?_
     rintro e w53 ⟨rfl, hb⟩
     clear c_r0 c_r1 c_o0 c_o1
     replace bs := bs.ret hb
     replace q := bs.q
     clear hb
     go_wp2_with fail
     go_ret
     exact ⟨rfl, q⟩
    ·clear h4 h5
     have hn3 : (ver < 9007199254740991) = False := eq_false hlt
     by_cases hb1 : ver' = ver
     ·subst hb1
      have c_r0 := bs.at 0 0 rfl rfl
      have c_r1 := bs.at 0 1 rfl rfl
      have c_o0 := bs.at 1 0 rfl rfl
      have c_o1 := bs.at 1 1 rfl rfl
      go_wp2_with fail
      refine (C3.out wc q).mono ?_
      rintro e w51 ⟨rfl, hb⟩
      clear c_r0 c_r1 c_o0 c_o1
      replace bs := bs.ret hb
      replace q := bs.q
      clear hb
      have c_r0 := bs.at 0 0 rfl rfl
      have c_r1 := bs.at 0 1 rfl rfl
      have c_o0 := bs.at 1 0 rfl rfl
      have c_o1 := bs.at 1 1 rfl rfl
      go_wp2_with fail
      refine (C4.out w51 q).mono ?_
      rintro e w52 ⟨rfl, hb⟩
      clear c_r0 c_r1 c_o0 c_o1
      replace bs := bs.ret hb
      replace q := bs.q
      clear hb
      have c_r0 := bs.at 0 0 rfl rfl
      have c_r1 := bs.at 0 1 rfl rfl
      have c_o0 := bs.at 1 0 rfl rfl
      have c_o1 := bs.at 1 1 rfl rfl
      go_wp2_with fail
      refine (C5.out w52 q).mono ?_
      rintro e w53 ⟨rfl, hb⟩
      clear c_r0 c_r1 c_o0 c_o1
      replace bs := bs.ret hb
      replace q := bs.q
      clear hb
      go_wp2_with fail
      go_ret
      exact ⟨rfl, q⟩
     ·have hn : (ver' == ver) = false := beq_false_of_ne hb1
      have c_r0 := bs.at 0 0 rfl rfl
      have c_r1 := bs.at 0 1 rfl rfl
      have c_o0 := bs.at 1 0 rfl rfl
      have c_o1 := bs.at 1 1 rfl rfl
      go_wp2_with fail
      refine (C3.out wc q).mono ?_
      rintro e w51 ⟨rfl, hb⟩
      clear c_r0 c_r1 c_o0 c_o1
      replace bs := bs.ret hb
      replace q := bs.q
      clear hb
      have c_r0 := bs.at 0 0 rfl rfl
      have c_r1 := bs.at 0 1 rfl rfl
      have c_o0 := bs.at 1 0 rfl rfl
      have c_o1 := bs.at 1 1 rfl rfl
      go_wp2_with fail
      refine (C4.out w51 q).mono ?_
      rintro e w52 ⟨rfl, hb⟩
      clear c_r0 c_r1 c_o0 c_o1
      replace bs := bs.ret hb
      replace q := bs.q
      clear hb
      have c_r0 := bs.at 0 0 rfl rfl
      have c_r1 := bs.at 0 1 rfl rfl
      have c_o0 := bs.at 1 0 rfl rfl
      have c_o1 := bs.at 1 1 rfl rfl
      go_wp2_with fail
      refine (C5.out w52 q).mono ?_
      rintro e w53 ⟨rfl, hb⟩
      clear c_r0 c_r1 c_o0 c_o1
      replace bs := bs.ret hb
      replace q := bs.q
      clear hb
      go_wp2_with fail
      go_ret
      exact ⟨rfl, q⟩
  | true =>
   cases st with
   | false =>
    obtain rfl : push = true := h3
    by_cases hlt : ver < 9007199254740991
    ·obtain rfl := h5 rfl hlt
     have hn : ¬ (ver + 1 = ver) := by omega
     have hn2 : ((ver + 1) == ver) = false := beq_false_of_ne (by omega)
     clear h4 h5
     have c_r0 := bs.at 0 0 rfl rfl
     have c_r1 := bs.at 0 1 rfl rfl
     have c_o0 := bs.at 1 0 rfl rfl
     have c_o1 := bs.at 1 1 rfl rfl
     go_wp2_with fail
     refine (C3.out wc q).mono ?_
     rintro e w51 ⟨rfl, hb⟩
     clear c_r0 c_r1 c_o0 c_o1
     replace bs := bs.ret hb
     replace q := bs.q
     clear hb
     have c_r0 := bs.at 0 0 rfl rfl
     have c_r1 := bs.at 0 1 rfl rfl
     have c_o0 := bs.at 1 0 rfl rfl
     have c_o1 := bs.at 1 1 rfl rfl
     go_wp2_with fail
     refine (C4.out w51 q).mono ?_
     rintro e w52 ⟨rfl, hb⟩
     clear c_r0 c_r1 c_o0 c_o1
     replace bs := bs.ret hb
     replace q := bs.q
     clear hb
     have c_r0 := bs.at 0 0 rfl rfl
     have c_r1 := bs.at 0 1 rfl rfl
     have c_o0 := bs.at 1 0 rfl rfl
     have c_o1 := bs.at 1 1 rfl rfl
     go_wp2_with fail
     refine (C5.out w52 q).mono ?_
     rintro e w53 ⟨rfl, hb⟩
     clear c_r0 c_r1 c_o0 c_o1
     replace bs := bs.ret hb
     replace q := bs.q
     clear hb
     go_wp2_with fail
     go_ret
     exact ⟨rfl, q⟩
    ·clear h4 h5
     have hn3 : (ver < 9007199254740991) = False := eq_false hlt
     by_cases hb1 : ver' = ver
     ·subst hb1
      have c_r0 := bs.at 0 0 rfl rfl
      have c_r1 := bs.at 0 1 rfl rfl
      have c_o0 := bs.at 1 0 rfl rfl
      have c_o1 := bs.at 1 1 rfl rfl
      go_wp2_with fail
      refine (C3.out wc q).mono ?_
      rintro e w51 ⟨rfl, hb⟩
      clear c_r0 c_r1 c_o0 c_o1
      replace bs := bs.ret hb
      replace q := bs.q
      clear hb
      have c_r0 := bs.at 0 0 rfl rfl
      have c_r1 := bs.at 0 1 rfl rfl
      have c_o0 := bs.at 1 0 rfl rfl
      have c_o1 := bs.at 1 1 rfl rfl
      go_wp2_with fail
      refine (C4.out w51 q).mono ?_
      rintro e w52 ⟨rfl, hb⟩
      clear c_r0 c_r1 c_o0 c_o1
      replace bs := bs.ret hb
      replace q := bs.q
      clear hb
      have c_r0 := bs.at 0 0 rfl rfl
      have c_r1 := bs.at 0 1 rfl rfl
      have c_o0 := bs.at 1 0 rfl rfl
      have c_o1 := bs.at 1 1 rfl rfl
      go_wp2_with fail
      refine (C5.out w52 q).mono ?_
      rintro e w53 ⟨rfl, hb⟩
      clear c_r0 c_r1 c_o0 c_o1
      replace bs := bs.ret hb
      replace q := bs.q
      clear hb
      go_wp2_with fail
      go_ret
      exact ⟨rfl, q⟩
     ·have hn : (ver' == ver) = false := beq_false_of_ne hb1
      have c_r0 := bs.at 0 0 rfl rfl
      have c_r1 := bs.at 0 1 rfl rfl
      have c_o0 := bs.at 1 0 rfl rfl
      have c_o1 := bs.at 1 1 rfl rfl
      go_wp2_with fail
      refine (C3.out wc q).mono ?_
      rintro e w51 ⟨rfl, hb⟩
      clear c_r0 c_r1 c_o0 c_o1
      replace bs := bs.ret hb
      replace q := bs.q
      clear hb
      have c_r0 := bs.at 0 0 rfl rfl
      have c_r1 := bs.at 0 1 rfl rfl
      have c_o0 := bs.at 1 0 rfl rfl
      have c_o1 := bs.at 1 1 rfl rfl
      go_wp2_with fail
      refine (C4.out w51 q).mono ?_
      rintro e w52 ⟨rfl, hb⟩
      clear c_r0 c_r1 c_o0 c_o1
      replace bs := bs.ret hb
      replace q := bs.q
      clear hb
      have c_r0 := bs.at 0 0 rfl rfl
      have c_r1 := bs.at 0 1 rfl rfl
      have c_o0 := bs.at 1 0 rfl rfl
      have c_o1 := bs.at 1 1 rfl rfl
      go_wp2_with fail
      refine (C5.out w52 q).mono ?_
      rintro e w53 ⟨rfl, hb⟩
      clear c_r0 c_r1 c_o0 c_o1
      replace bs := bs.ret hb
      replace q := bs.q
      clear hb
      go_wp2_with fail
      go_ret
      exact ⟨rfl, q⟩
   | true =>
    obtain rfl : push = true := h3
    by_cases hlt : ver < 9007199254740991
    ·obtain rfl := h5 rfl hlt
     have hn : ¬ (ver + 1 = ver) := by omega
     have hn2 : ((ver + 1) == ver) = false := beq_false_of_ne (by omega)
     clear h4 h5
     have c_r0 := bs.at 0 0 rfl rfl
     have c_r1 := bs.at 0 1 rfl rfl
     have c_o0 := bs.at 1 0 rfl rfl
     have c_o1 := bs.at 1 1 rfl rfl
     go_wp2_with fail
     refine (C3.out wc q).mono ?_
     rintro e w51 ⟨rfl, hb⟩
     clear c_r0 c_r1 c_o0 c_o1
     replace bs := bs.ret hb
     replace q := bs.q
     clear hb
     have c_r0 := bs.at 0 0 rfl rfl
     have c_r1 := bs.at 0 1 rfl rfl
     have c_o0 := bs.at 1 0 rfl rfl
     have c_o1 := bs.at 1 1 rfl rfl
     go_wp2_with fail
     refine (C4.out w51 q).mono ?_
     rintro e w52 ⟨rfl, hb⟩
     clear c_r0 c_r1 c_o0 c_o1
     replace bs := bs.ret hb
     replace q := bs.q
     clear hb
     have c_r0 := bs.at 0 0 rfl rfl
     have c_r1 := bs.at 0 1 rfl rfl
     have c_o0 := bs.at 1 0 rfl rfl
     have c_o1 := bs.at 1 1 rfl rfl
     go_wp2_with fail
     refine (C5.out w52 q).mono ?_
     rintro e w53 ⟨rfl, hb⟩
     clear c_r0 c_r1 c_o0 c_o1
     replace bs := bs.ret hb
     replace q := bs.q
     clear hb
     go_wp2_with fail
     go_ret
     exact ⟨rfl, q⟩
    ·clear h4 h5
     have hn3 : (ver < 9007199254740991) = False := eq_false hlt
     by_cases hb1 : ver' = ver
     ·subst hb1
      have c_r0 := bs.at 0 0 rfl rfl
      have c_r1 := bs.at 0 1 rfl rfl
      have c_o0 := bs.at 1 0 rfl rfl
      have c_o1 := bs.at 1 1 rfl rfl
      go_wp2_with fail
      refine (C3.out wc q).mono ?_
      rintro e w51 ⟨rfl, hb⟩
      clear c_r0 c_r1 c_o0 c_o1
      replace bs := bs.ret hb
      replace q := bs.q
      clear hb
      have c_r0 := bs.at 0 0 rfl rfl
      have c_r1 := bs.at 0 1 rfl rfl
      have c_o0 := bs.at 1 0 rfl rfl
      have c_o1 := bs.at 1 1 rfl rfl
      go_wp2_with fail
      refine (C4.out w51 q).mono ?_
      rintro e w52 ⟨rfl, hb⟩
      clear c_r0 c_r1 c_o0 c_o1
      replace bs := bs.ret hb
      replace q := bs.q
      clear hb
      have c_r0 := bs.at 0 0 rfl rfl
      have c_r1 := bs.at 0 1 rfl rfl
      have c_o0 := bs.at 1 0 rfl rfl
      have c_o1 := bs.at 1 1 rfl rfl
      go_wp2_with fail
      refine (C5.out w52 q).mono ?_
      rintro e w53 ⟨rfl, hb⟩
      clear c_r0 c_r1 c_o0 c_o1
      replace bs := bs.ret hb
      replace q := bs.q
      clear hb
      go_wp2_with fail
      go_ret
      exact ⟨rfl, q⟩
     ·have hn : (ver' == ver) = false := beq_false_of_ne hb1
      have c_r0 := bs.at 0 0 rfl rfl
      have c_r1 := bs.at 0 1 rfl rfl
      have c_o0 := bs.at 1 0 rfl rfl
      have c_o1 := bs.at 1 1 rfl rfl
      go_wp2_with fail
      refine (C3.out wc q).mono ?_
      rintro e w51 ⟨rfl, hb⟩
      clear c_r0 c_r1 c_o0 c_o1
      replace bs := bs.ret hb
      replace q := bs.q
      clear hb
      have c_r0 := bs.at 0 0 rfl rfl
      have c_r1 := bs.at 0 1 rfl rfl
      have c_o0 := bs.at 1 0 rfl rfl
      have c_o1 := bs.at 1 1 rfl rfl
      go_wp2_with fail
      refine (C4.out w51 q).mono ?_
      rintro e w52 ⟨rfl, hb⟩
      clear c_r0 c_r1 c_o0 c_o1
      replace bs := bs.ret hb
      replace q := bs.q
      clear hb
      have c_r0 := bs.at 0 0 rfl rfl
      have c_r1 := bs.at 0 1 rfl rfl
      have c_o0 := bs.at 1 0 rfl rfl
      have c_o1 := bs.at 1 1 rfl rfl
      go_wp2_with fail
      refine (C5.out w52 q).mono ?_
      rintro e w53 ⟨rfl, hb⟩
      clear c_r0 c_r1 c_o0 c_o1
      replace bs := bs.ret hb
      replace q := bs.q
      clear hb
      go_wp2_with fail
      go_ret
      exact ⟨rfl, q⟩
end Go.Proofs.YtfonkblbgadhmaaGreatDoor
