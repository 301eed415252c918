/- the document's seen, asked, Put, Set, Gone, Drop. PRINTED BY PROGRAM (gen_rodc.py). -/
import Derived.Test.YtfonkblbgadhmaaGreatDoorRoDb
import Derived.Test.YtfonkblbgadhmaaGreatDoorRoSx
namespace Go.Proofs.YtfonkblbgadhmaaGreatDoor
open Go.RowKit Go.Lib

/-- what is answered: a roster in memory of the call's own, and the error. -/
def RosC (w : World) (L : List It) (ver code : Int) (e : Ending) (w' : World) : Prop := ∃ a c, e = .returned (.tuple #[.agg #[.slice a L.length c, .int .i64 ver], .int .i64 code]) ∧ OwnR w L (.slice a L.length c) w'
theorem RosC.zero {w w' : World} {ver code : Int} (hb : Below w.heap.size w w') : RosC w [] ver code (.returned (.tuple #[.agg #[.slice none 0 0, .int .i64 ver], .int .i64 code])) w' := ⟨none, 0, rfl, [], rfl, OwnItems.nil _ _, hb⟩
/-- what the document finds, as one value. -/
def FndD (w0 w : World) (L : List It) (t : List UInt8) (e : Ending) (w' : World) : Prop := Below w.heap.size w w' ∧ ∃ p : Im, e = .returned (.tuple #[itA p, .bool (findL L t).isSome]) ∧ p.1 = wasL L t ∧ IsGrp (gvI p) p.1.g w0
theorem r21_FindD (v : Value) (ver : Int) (M : List Im) (t : List UInt8) (w0 : World) (hv : IsItems v M w0) (hM : M.length ≤ 1000) (w : World) (hb0 : Below w0.heap.size w0 w) :
  Calls Tryz.prog 11 #[.agg #[v, .int .i64 ver], .string ⟨t.toArray⟩] w (FndD w0 w (M.map Prod.fst) t) := by
 refine (r21_Find v ver M ⟨t.toArray⟩ w (hv.ret hb0) hM).mono ?_
 rintro e w' ⟨hb, ⟨p, hp, h1, h2⟩ | ⟨h1, h2⟩⟩
 ·have h1' : findL (M.map Prod.fst) t = some p.1 := h1
  exact ⟨hb, p, by rw [h2, h1']; rfl, by unfold wasL; rw [h1']; rfl, hv.2 p hp⟩
 ·have h1' : findL (M.map Prod.fst) t = none := h1
  exact ⟨hb, (it0, (none, 0)), by rw [h2, h1']; rfl, by unfold wasL; rw [h1']; rfl, IsGrp.nil _⟩
theorem adr_ex (t : List UInt8) (h : t.length ≤ 10000) : ∃ X Y Z : ByteArray, ∀ w, Calls Tryz.prog 83 #[.string ⟨t.toArray⟩] w (Ret w (.tuple #[.agg #[.string X, .string Y, .string Z], .bool (adrOk t)])) :=
 ⟨_, _, _, fun w => r21_Address ⟨t.toArray⟩ w (by rw [← size_toList]; exact h)⟩
set_option maxHeartbeats 1000000 in
theorem r21_seen_w (j n : ByteArray) (ga : Option Addr) (L ca : Nat) (a b c d k : Bool) (w : World) :
  Calls Tryz.prog 113 #[.agg #[.string j, .string n, .slice ga L ca, .bool a, .bool b, .bool c, .bool d, .bool k]] w (Ret w (.tuple #[.string (if k then subName a c else ⟨#[]⟩), .bool (k && b)])) := by
 have CW := Lib.hid (fun w => ref20_Word a b c d w)
 cases k with
 | false =>
  have q0 := (Below.refl w.heap.size w).alloc (Nat.le_refl _) (.cells #[.string j, .string n, .slice ga L ca, .bool a, .bool b, .bool c, .bool d, .bool false] 31)
  go_enter Tryz.func113, Tryz.ntmps113
  go_wp2_with fail
  go_ret2
  exact ⟨rfl, q0⟩
 | true =>
  obtain ⟨W0, hW, y0, bs⟩ := Sx.start1 w [.string j, .string n, .slice ga L ca, .bool a, .bool b, .bool c, .bool d, .bool true] 31
  have HW := Lib.hid hW
  clear hW
  have q := bs.q
  go_enter Tryz.func113, Tryz.ntmps113
  go_wp2_with fail
  rw [HW.out]
  replace bs := bs.ret (Below.drew (Below.refl _ _))
  replace q := bs.q
  have y1 : W0.drew.heap.size = W0.heap.size := rfl
  refine wp_region_held_drew (S := fun w' => w'.cell? ⟨w.heap.size, 3, none⟩ = some (.bool a) ∧ w'.cell? ⟨w.heap.size, 4, none⟩ = some (.bool b) ∧ w'.cell? ⟨w.heap.size, 5, none⟩ = some (.bool c) ∧ w'.cell? ⟨w.heap.size, 6, none⟩ = some (.bool d)) (by kernel_rfl) ⟨bs.at 0 3 rfl rfl, bs.at 0 4 rfl rfl, bs.at 0 5 rfl rfl, bs.at 0 6 rfl rfl⟩ (fun hHeld => ?_)
  generalize W0.drew = w1 at bs q y1 hHeld ⊢
  refine tk_start [(0, some 7), (1, some 8), (3, some 10), (4, some 11), (5, some 12)] ?_
  iterate 5
   refine tk_step (v := ?_) (by kernel_rfl) (by kernel_rfl) (fun _ _ _ h => h) (by assumption) (fun o ho w' hSw => ?_) ?_
   rotate_left
   ·simp only [List.getElem?_toArray, List.getElem?_cons_succ, List.getElem?_cons_zero, Option.some.injEq] at ho; subst ho; (try dsimp only at hSw); go_simp; try with_reducible rfl
   simp only [Act.put, List.setIfInBounds_toArray, List.set_cons_zero, List.set_cons_succ]
  refine tk_end ?_
  refine tk_call (i := 2) (by kernel_rfl) (by kernel_rfl) (fun o ho K hK => ?_)
  simp only [List.getElem?_toArray, List.getElem?_cons_succ, List.getElem?_cons_zero, Option.some.injEq] at ho
  subst ho
  go_simp
  refine (CW.out _).mono ?_
  rintro e w2 ⟨rfl, hb⟩
  replace bs := bs.ret hb
  replace q := bs.q
  clear hb
  go_simp
  clear hHeld
  refine hK.out _ _ ⟨bs.at 0 3 rfl rfl, bs.at 0 4 rfl rfl, bs.at 0 5 rfl rfl, bs.at 0 6 rfl rfl⟩ (fun hHeld => ?_)
  clear hK K
  refine tk_start [(6, some 2), (7, some 3)] ?_
  iterate 2
   refine tk_step (v := ?_) (by kernel_rfl) (by kernel_rfl) (fun _ _ _ h => h) (by assumption) (fun o ho w' hSw => ?_) ?_
   rotate_left
   ·simp only [List.getElem?_toArray, List.getElem?_cons_succ, List.getElem?_cons_zero, Option.some.injEq] at ho; subst ho; (try dsimp only at hSw); go_simp; try with_reducible rfl
   simp only [Act.put, List.setIfInBounds_toArray, List.set_cons_zero, List.set_cons_succ]
  refine tk_end ?_
  refine wpAnyH_done (by kernel_rfl) ?_ _
  clear hHeld
  go_wp2_with fail
  go_ret2
  exact ⟨rfl, q⟩
set_option maxRecDepth 100000 in
theorem r21_seen (p : Im) (w : World) : Calls Tryz.prog 113 #[itA p] w (Ret w (.tuple #[.string ⟨(seenP p.1).1.toArray⟩, .bool (seenP p.1).2])) := by
 have h := r21_seen_w ⟨p.1.j.toArray⟩ ⟨p.1.n.toArray⟩ p.2.1 p.1.g.length p.2.2 p.1.s.1 p.1.s.2.1 p.1.s.2.2.1 p.1.s.2.2.2 p.1.k w
 have e1 : (if p.1.k then subName p.1.s.1 p.1.s.2.2.1 else (⟨#[]⟩ : ByteArray)) = ⟨(seenP p.1).1.toArray⟩ := by
  unfold seenP
  cases p.1.k with
  | false => rfl
  | true =>
   simp only [if_true]
   generalize subName p.1.s.1 p.1.s.2.2.1 = s
   rfl
 have e2 : (p.1.k && p.1.s.2.1) = (seenP p.1).2 := by unfold seenP; cases p.1.k <;> rfl
 rw [e1, e2] at h
 exact h
set_option maxHeartbeats 1000000 in
theorem r21_next (v : Value) (ver : Int) (w : World) (h1 : ∃ a n c, v = .slice a n c) (h0 : 0 ≤ ver) (h2 : ver ≤ mostV) :
  Calls Tryz.prog 85 #[.agg #[v, .int .i64 ver]] w (Ret w (.agg #[v, .int .i64 (nextV ver)])) := by
 obtain ⟨a, n, c, rfl⟩ := h1
 unfold mostV at h2
 have hw : IntKind.i64.wrap (ver + 1) = ver + 1 := IntWalk.i64_in _ (by omega)
 by_cases hle : ver + 1 ≤ 9007199254740991
 ·have hn : nextV ver = (ver + 1) := by unfold nextV mostV; rw [if_pos hle]
  rw [hn]
  have hmn : min (ver + 1) 9007199254740991 = ver + 1 := Int.min_eq_left hle
  clear hn
  obtain ⟨W0, hW, y0, bs⟩ := Sx.start2 w [.slice a n c, .int .i64 (ver + 1)] 24 [.slice a n c, .int .i64 (ver + 1)] 24
  have HW := Lib.hid hW
  clear hW
  have q := bs.q
  go_enter Tryz.func85, Tryz.ntmps85
  go_wp2_with fail
  rw [HW.out]
  refine bodyPost_ret (ret_r1 rfl rfl (bs.box 1 rfl)) rfl (⟨rfl, q⟩)
 ·have hn : nextV ver = 9007199254740991 := by unfold nextV mostV; rw [if_neg hle]
  rw [hn]
  have hmn : min (ver + 1) 9007199254740991 = 9007199254740991 := Int.min_eq_right (by omega)
  clear hn
  obtain ⟨W0, hW, y0, bs⟩ := Sx.start2 w [.slice a n c, .int .i64 9007199254740991] 24 [.slice a n c, .int .i64 9007199254740991] 24
  have HW := Lib.hid hW
  clear hW
  have q := bs.q
  go_enter Tryz.func85, Tryz.ntmps85
  go_wp2_with fail
  rw [HW.out]
  refine bodyPost_ret (ret_r1 rfl rfl (bs.box 1 rfl)) rfl (⟨rfl, q⟩)
set_option maxHeartbeats 4000000 in
set_option maxRecDepth 100000 in
theorem r21_Put (v : Value) (ver : Int) (M : List Im) (t n : List UInt8) (vg : Value) (g : List (List UInt8)) (w : World) (hv : IsItems v M w) (hs : SmallI M) (hmay : mayR (M.map Prod.fst) ver = true) (hg : IsGrp vg g w) (zt : t.length ≤ 10000) (zn : n.length ≤ 10000) (zg : g.length ≤ 1000) (zx : ∀ x ∈ g, x.length ≤ 10000) :
  Calls Tryz.prog 58 #[.agg #[v, .int .i64 ver], .string ⟨t.toArray⟩, .string ⟨n.toArray⟩, vg] w (RosC w (setP (M.map Prod.fst) ver t n g).1 (setP (M.map Prod.fst) ver t n g).2 (setC (M.map Prod.fst) ver t n g)) := by
 obtain ⟨a0, cap0, hf, -⟩ := hv.form
 obtain ⟨-, ag, cg, rfl, -⟩ := id hg
 obtain ⟨L0, hL⟩ : ∃ L, M.length = L := ⟨_, rfl⟩
 rw [hL] at hf
 subst hf
 obtain ⟨hall, hch, hl16, hv0, hv1⟩ := may_facts21 hmay
 rw [List.length_map, hL] at hl16
 obtain ⟨X, Y, Z, CA⟩ := adr_ex t zt
 have CW := fun (w' : World) (hb : Below w.heap.size w w') => r21_words ⟨n.toArray⟩ (.slice ag g.length cg) g w' (by rw [← size_toList]; exact zn) (hg.ret hb) zg zx
 have CF := fun (w' : World) (hb : Below w.heap.size w w') => r21_FindD (.slice a0 L0 cap0) ver M t w hv (by omega) w' hb
 have hth := find_there (t := t) hch
 unfold setP setC
 rw [if_pos hmay]
 simp only at CW
 cases hA : adrOk t with
 | false =>
  rw [hA] at CA
  simp only [Bool.false_and, Bool.false_eq_true, if_false]
  have CA := Lib.hid CA
  clear hv hg hs hall hch hth CW CF hA hmay zt zn zg zx hL
  obtain ⟨W0, hW, y0, bs⟩ := Sx.start2 w [.slice a0 L0 cap0, .int .i64 ver] 24 [.slice none 0 0, .int .i64 0] 24
  have HW := Lib.hid hW
  clear hW
  have q := bs.q
  go_enter Tryz.func58, Tryz.ntmps58
  go_wp2_with fail
  rw [HW.out]
  refine (CA.out W0).mono ?_
  rintro e w1 ⟨rfl, hb⟩
  replace bs := bs.ret hb
  replace q := bs.q
  clear hb
  have d0 := (bs.lit (w1.heap.size) rfl [.string X, .string Y, .string Z] 85)
  have c0_z0 := d0.at 1 0 rfl rfl
  have f0_z0 := d0.fz 1 0 rfl rfl
  have c0_z1 := d0.at 1 1 rfl rfl
  have f0_z1 := d0.fz 1 1 rfl rfl
  go_wp2_with fail
  clear d0 c0_z0 f0_z0 c0_z1 f0_z1
  obtain ⟨w2, hw2, y2, al, bs⟩ := bs.alloc (w1.heap.size) rfl [.string X, .string Y, .string Z] 85
  clear al
  obtain ⟨w3, hw3, y3, bs⟩ := bs.sets 1 0 [.slice none 0 0, .int .i64 0] rfl (Nat.le_of_ble_eq_true rfl)
  replace q := bs.q
  rw [hw2]
  simp only [World.setCells, Nat.reduceAdd] at hw3
  rw [hw3]
  refine bodyPost_ret (ret_r2 rfl rfl rfl (bs.box 1 rfl)) rfl (RosC.zero q)
 | true =>
  rw [hA] at CA
  cases hB : wordsP n g with
  | false =>
   have CW := fun w' hb => by have := CW w' hb; rw [hB] at this; exact this
   simp only [Bool.and_false, Bool.false_eq_true, if_false]
   have CA := Lib.hid CA
   have CW := Lib.hid CW
   clear hv hg hs hall hch hth CF hA hB hmay zt zn zg zx hL
   obtain ⟨W0, hW, y0, bs⟩ := Sx.start2 w [.slice a0 L0 cap0, .int .i64 ver] 24 [.slice none 0 0, .int .i64 0] 24
   have HW := Lib.hid hW
   clear hW
   have q := bs.q
   go_enter Tryz.func58, Tryz.ntmps58
   go_wp2_with fail
   rw [HW.out]
   refine (CA.out W0).mono ?_
   rintro e w1 ⟨rfl, hb⟩
   replace bs := bs.ret hb
   replace q := bs.q
   clear hb
   have c_r0 := bs.at 0 0 rfl rfl
   have c_r1 := bs.at 0 1 rfl rfl
   have c_z0 := bs.at 1 0 rfl rfl
   have f_z0 := bs.fz 1 0 rfl rfl
   have c_z1 := bs.at 1 1 rfl rfl
   have f_z1 := bs.fz 1 1 rfl rfl
   go_wp2_with fail
   clear c_r0 c_r1 c_z0 f_z0 c_z1 f_z1
   obtain ⟨w2, hw2, y2, al, bs⟩ := bs.alloc (w1.heap.size) rfl [.string X, .string Y, .string Z] 85
   clear al
   replace q := bs.q
   rw [hw2]
   refine (CW.out w2 q).mono ?_
   rintro e w3 ⟨rfl, hb⟩
   replace bs := bs.ret hb
   replace q := bs.q
   clear hb
   have c_r0 := bs.at 0 0 rfl rfl
   have c_r1 := bs.at 0 1 rfl rfl
   have c_z0 := bs.at 1 0 rfl rfl
   have f_z0 := bs.fz 1 0 rfl rfl
   have c_z1 := bs.at 1 1 rfl rfl
   have f_z1 := bs.fz 1 1 rfl rfl
   go_wp2_with fail
   clear c_r0 c_r1 c_z0 f_z0 c_z1 f_z1
   obtain ⟨w4, hw4, y4, bs⟩ := bs.sets 1 0 [.slice none 0 0, .int .i64 0] rfl (Nat.le_of_ble_eq_true rfl)
   replace q := bs.q
   simp only [World.setCells, Nat.reduceAdd] at hw4
   rw [hw4]
   refine bodyPost_ret (ret_r2 rfl rfl rfl (bs.box 1 rfl)) rfl (RosC.zero q)
  | true =>
   have CW := fun w' hb => by have := CW w' hb; rw [hB] at this; exact this
   simp only [Bool.and_true, if_true]
   rw [List.length_map, hL]
   have HV := Lib.hid hv
   have HG := Lib.hid hg
   have ZG := Lib.hid zg
   have ZT := Lib.hid zt
   have HV0 := Lib.hid hv0
   have HV1 := Lib.hid hv1
   have ZJ := Lib.hid (fun p hp => (hs.2 p hp).1)
   have GZ := Lib.hid (fun p hp => (hs.2 p hp).2.2.1)
   have CA := Lib.hid CA
   have CW := Lib.hid CW
   have CF := Lib.hid CF
   have HPUT : Hid (withL (M.map Prod.fst) (setI (M.map Prod.fst) t n g) = putL (M.map Prod.fst) (setI (M.map Prod.fst) t n g)) := Lib.hid (with_put hch (fun y hy => itemP_adr (hall y hy)) hA)
   cases hT : thereL (M.map Prod.fst) t with
   | true =>
    rw [hT] at hth
    simp only [Bool.true_or, if_true]
    have HTH := Lib.hid hth
    clear hv hg hs hall hch hth hA hB hmay zt zn zg zx hT hv0 hv1
    obtain ⟨W0, hW, y0, bs⟩ := Sx.start2 w [.slice a0 L0 cap0, .int .i64 ver] 24 [.slice none 0 0, .int .i64 0] 24
    have HW := Lib.hid hW
    clear hW
    have q := bs.q
    go_enter Tryz.func58, Tryz.ntmps58
    go_wp2_with fail
    rw [HW.out]
    refine (CA.out W0).mono ?_
    rintro e w1 ⟨rfl, hb⟩
    replace bs := bs.ret hb
    replace q := bs.q
    clear hb
    have c_r0 := bs.at 0 0 rfl rfl
    have c_r1 := bs.at 0 1 rfl rfl
    have c_z0 := bs.at 1 0 rfl rfl
    have f_z0 := bs.fz 1 0 rfl rfl
    have c_z1 := bs.at 1 1 rfl rfl
    have f_z1 := bs.fz 1 1 rfl rfl
    go_wp2_with fail
    clear c_r0 c_r1 c_z0 f_z0 c_z1 f_z1
    obtain ⟨w2, hw2, y2, al, bs⟩ := bs.alloc (w1.heap.size) rfl [.string X, .string Y, .string Z] 85
    clear al
    replace q := bs.q
    rw [hw2]
    refine (CW.out w2 q).mono ?_
    rintro e w3 ⟨rfl, hb⟩
    replace bs := bs.ret hb
    replace q := bs.q
    clear hb
    have c_r0 := bs.at 0 0 rfl rfl
    have c_r1 := bs.at 0 1 rfl rfl
    go_wp2_with fail
    clear c_r0 c_r1
    refine (CF.out w3 q).mono ?_
    rintro e w4 ⟨hb, p, rfl, hp, hgp⟩
    replace bs := bs.ret hb
    replace q := bs.q
    clear hb
    have HP := Lib.hid hp
    clear hp
    rw [HTH.out]
    have d0 := (bs.lit (w4.heap.size) rfl [.string ⟨p.1.j.toArray⟩, .string ⟨p.1.n.toArray⟩, gvI p, .bool p.1.s.1, .bool p.1.s.2.1, .bool p.1.s.2.2.1, .bool p.1.s.2.2.2, .bool p.1.k] 31)
    have c0_r0 := d0.at 0 0 rfl rfl
    have c0_r1 := d0.at 0 1 rfl rfl
    have d1 := (bs.lit (w4.heap.size) rfl [.string ⟨t.toArray⟩, .string ⟨n.toArray⟩, .slice ag g.length cg, .bool p.1.s.1, .bool p.1.s.2.1, .bool p.1.s.2.2.1, .bool p.1.s.2.2.2, .bool true] 31)
    have c1_r0 := d1.at 0 0 rfl rfl
    have c1_r1 := d1.at 0 1 rfl rfl
    go_wp2_with fail
    clear d0 c0_r0 c0_r1 d1 c1_r0 c1_r1
    obtain ⟨w5, hw5, y5, al, bs⟩ := bs.alloc (w4.heap.size) rfl [.string ⟨t.toArray⟩, .string ⟨n.toArray⟩, .slice ag g.length cg, .bool p.1.s.1, .bool p.1.s.2.1, .bool p.1.s.2.2.1, .bool p.1.s.2.2.2, .bool true] 31
    clear al
    replace q := bs.q
    rw [hw5]
    clear hgp
    have hx : ((t, n, g, p.1.s, true), (ag, cg)).1 = setI (M.map Prod.fst) t n g := by rw [HP.out]
    obtain ⟨x, hxx⟩ : ∃ x : Im, ((t, n, g, p.1.s, true), (ag, cg)) = x := ⟨_, rfl⟩
    have CT := r21_with (.slice a0 L0 cap0) ver M ((t, n, g, p.1.s, true), (ag, cg)) w5 (HV.out.ret q) (by omega) ZJ.out (by exact ZT.out)
    rw [hxx] at hx
    have hxj : wiI M ((t, n, g, p.1.s, true), (ag, cg)) = wiI M x := by rw [hxx]
    rw [hxj] at CT
    refine (CT).mono ?_
    rintro e w6 ⟨a1, c1, rfl, hr1, hb⟩
    have o_f := OwX.mk' bs hr1
    replace bs := bs.ret hb
    replace q := bs.q
    clear hb
    clear hr1 hxj
    have hnl := wiI_len M x
    obtain ⟨K, hK⟩ : ∃ K, (wiI M x).length = K := ⟨_, rfl⟩
    rw [hK] at hnl o_f ⊢
    go_wp2_with fail
    refine ((r21_next (.slice a1 K c1) ver w6 ⟨_, _, _, rfl⟩ HV0.out HV1.out)).mono ?_
    rintro e w7 ⟨rfl, hb⟩
    replace o_f := o_f.ret hb
    replace bs := bs.ret hb
    replace q := bs.q
    clear hb
    have hit : IsItems (.slice a1 (wiI M x).length c1) (wiI M x) w7 := by
     refine ⟨by rw [hK]; exact own_row o_f.1, fun p' hp' => ?_⟩
     rcases wiI_mem M x p' hp' with rfl | h
     ·rw [← hxx]; exact HG.out.ret q
     ·exact (HV.out.2 p' h).ret q
    have hgz : ∀ p' ∈ wiI M x, p'.1.g.length ≤ 1000 := fun p' hp' => by
     rcases wiI_mem M x p' hp' with rfl | h
     ·rw [← hxx]; exact ZG.out
     ·exact GZ.out p' h
    rw [hK] at hit
    go_wp2_with fail
    refine ((r21_Twin (.slice a1 K c1) (nextV ver) (wiI M x) w7 hit (by omega) hgz)).mono ?_
    rintro e w8 ⟨a2, c2, rfl, N, hN, hown, hb⟩
    have o_m := OwnX.mk' bs hown
    replace o_f := o_f.ret hb
    replace bs := bs.ret hb
    replace q := bs.q
    clear hb
    clear hit hgz hown
    have hfin : (wiI M x).map Prod.fst = putL (M.map Prod.fst) (setI (M.map Prod.fst) t n g) := by rw [map_wiI, hx]; exact HPUT.out
    rw [hfin] at hN o_m ⊢
    have c_z0 := bs.at 1 0 rfl rfl
    have f_z0 := bs.fz 1 0 rfl rfl
    have c_z1 := bs.at 1 1 rfl rfl
    have f_z1 := bs.fz 1 1 rfl rfl
    go_wp2_with fail
    clear c_z0 f_z0 c_z1 f_z1
    obtain ⟨w9, hw9, y9, bs⟩ := bs.sets 1 0 [.slice a2 (putL (M.map Prod.fst) (setI (M.map Prod.fst) t n g)).length c2, .int .i64 (nextV ver)] rfl (Nat.le_of_ble_eq_true rfl)
    replace o_f := o_f.sets 1 rfl hw9
    replace o_m := o_m.sets 1 rfl hw9
    replace q := bs.q
    simp only [World.setCells, Nat.reduceAdd] at hw9
    rw [hw9]
    refine bodyPost_ret (ret_r2 rfl rfl rfl (bs.box 1 rfl)) rfl (⟨a2, c2, rfl, N, hN, o_m.own, q⟩)
   | false =>
    rw [hT] at hth
    have HTH := Lib.hid hth
    by_cases h16 : L0 < 16
    ·simp only [Bool.false_or, decide_eq_true h16, if_true]
     clear hv hg hs hall hch hth hA hB hmay zt zn zg zx hT hv0 hv1
     obtain ⟨W0, hW, y0, bs⟩ := Sx.start2 w [.slice a0 L0 cap0, .int .i64 ver] 24 [.slice none 0 0, .int .i64 0] 24
     have HW := Lib.hid hW
     clear hW
     have q := bs.q
     go_enter Tryz.func58, Tryz.ntmps58
     go_wp2_with fail
     rw [HW.out]
     refine (CA.out W0).mono ?_
     rintro e w1 ⟨rfl, hb⟩
     replace bs := bs.ret hb
     replace q := bs.q
     clear hb
     have c_r0 := bs.at 0 0 rfl rfl
     have c_r1 := bs.at 0 1 rfl rfl
     have c_z0 := bs.at 1 0 rfl rfl
     have f_z0 := bs.fz 1 0 rfl rfl
     have c_z1 := bs.at 1 1 rfl rfl
     have f_z1 := bs.fz 1 1 rfl rfl
     go_wp2_with fail
     clear c_r0 c_r1 c_z0 f_z0 c_z1 f_z1
     obtain ⟨w2, hw2, y2, al, bs⟩ := bs.alloc (w1.heap.size) rfl [.string X, .string Y, .string Z] 85
     clear al
     replace q := bs.q
     rw [hw2]
     refine (CW.out w2 q).mono ?_
     rintro e w3 ⟨rfl, hb⟩
     replace bs := bs.ret hb
     replace q := bs.q
     clear hb
     have c_r0 := bs.at 0 0 rfl rfl
     have c_r1 := bs.at 0 1 rfl rfl
     go_wp2_with fail
     clear c_r0 c_r1
     refine (CF.out w3 q).mono ?_
     rintro e w4 ⟨hb, p, rfl, hp, hgp⟩
     replace bs := bs.ret hb
     replace q := bs.q
     clear hb
     have HP := Lib.hid hp
     clear hp
     rw [HTH.out]
     have d0 := (bs.lit (w4.heap.size) rfl [.string ⟨p.1.j.toArray⟩, .string ⟨p.1.n.toArray⟩, gvI p, .bool p.1.s.1, .bool p.1.s.2.1, .bool p.1.s.2.2.1, .bool p.1.s.2.2.2, .bool p.1.k] 31)
     have c0_r0 := d0.at 0 0 rfl rfl
     have c0_r1 := d0.at 0 1 rfl rfl
     have d1 := (bs.lit (w4.heap.size) rfl [.string ⟨t.toArray⟩, .string ⟨n.toArray⟩, .slice ag g.length cg, .bool p.1.s.1, .bool p.1.s.2.1, .bool p.1.s.2.2.1, .bool p.1.s.2.2.2, .bool true] 31)
     have c1_r0 := d1.at 0 0 rfl rfl
     have c1_r1 := d1.at 0 1 rfl rfl
     go_wp2_with fail
     clear d0 c0_r0 c0_r1 d1 c1_r0 c1_r1
     obtain ⟨w5, hw5, y5, al, bs⟩ := bs.alloc (w4.heap.size) rfl [.string ⟨t.toArray⟩, .string ⟨n.toArray⟩, .slice ag g.length cg, .bool p.1.s.1, .bool p.1.s.2.1, .bool p.1.s.2.2.1, .bool p.1.s.2.2.2, .bool true] 31
     clear al
     replace q := bs.q
     rw [hw5]
     clear hgp
     have hx : ((t, n, g, p.1.s, true), (ag, cg)).1 = setI (M.map Prod.fst) t n g := by rw [HP.out]
     obtain ⟨x, hxx⟩ : ∃ x : Im, ((t, n, g, p.1.s, true), (ag, cg)) = x := ⟨_, rfl⟩
     have CT := r21_with (.slice a0 L0 cap0) ver M ((t, n, g, p.1.s, true), (ag, cg)) w5 (HV.out.ret q) (by omega) ZJ.out (by exact ZT.out)
     rw [hxx] at hx
     have hxj : wiI M ((t, n, g, p.1.s, true), (ag, cg)) = wiI M x := by rw [hxx]
     rw [hxj] at CT
     refine (CT).mono ?_
     rintro e w6 ⟨a1, c1, rfl, hr1, hb⟩
     have o_f := OwX.mk' bs hr1
     replace bs := bs.ret hb
     replace q := bs.q
     clear hb
     clear hr1 hxj
     have hnl := wiI_len M x
     obtain ⟨K, hK⟩ : ∃ K, (wiI M x).length = K := ⟨_, rfl⟩
     rw [hK] at hnl o_f ⊢
     go_wp2_with fail
     refine ((r21_next (.slice a1 K c1) ver w6 ⟨_, _, _, rfl⟩ HV0.out HV1.out)).mono ?_
     rintro e w7 ⟨rfl, hb⟩
     replace o_f := o_f.ret hb
     replace bs := bs.ret hb
     replace q := bs.q
     clear hb
     have hit : IsItems (.slice a1 (wiI M x).length c1) (wiI M x) w7 := by
      refine ⟨by rw [hK]; exact own_row o_f.1, fun p' hp' => ?_⟩
      rcases wiI_mem M x p' hp' with rfl | h
      ·rw [← hxx]; exact HG.out.ret q
      ·exact (HV.out.2 p' h).ret q
     have hgz : ∀ p' ∈ wiI M x, p'.1.g.length ≤ 1000 := fun p' hp' => by
      rcases wiI_mem M x p' hp' with rfl | h
      ·rw [← hxx]; exact ZG.out
      ·exact GZ.out p' h
     rw [hK] at hit
     go_wp2_with fail
     refine ((r21_Twin (.slice a1 K c1) (nextV ver) (wiI M x) w7 hit (by omega) hgz)).mono ?_
     rintro e w8 ⟨a2, c2, rfl, N, hN, hown, hb⟩
     have o_m := OwnX.mk' bs hown
     replace o_f := o_f.ret hb
     replace bs := bs.ret hb
     replace q := bs.q
     clear hb
     clear hit hgz hown
     have hfin : (wiI M x).map Prod.fst = putL (M.map Prod.fst) (setI (M.map Prod.fst) t n g) := by rw [map_wiI, hx]; exact HPUT.out
     rw [hfin] at hN o_m ⊢
     have c_z0 := bs.at 1 0 rfl rfl
     have f_z0 := bs.fz 1 0 rfl rfl
     have c_z1 := bs.at 1 1 rfl rfl
     have f_z1 := bs.fz 1 1 rfl rfl
     go_wp2_with fail
     clear c_z0 f_z0 c_z1 f_z1
     obtain ⟨w9, hw9, y9, bs⟩ := bs.sets 1 0 [.slice a2 (putL (M.map Prod.fst) (setI (M.map Prod.fst) t n g)).length c2, .int .i64 (nextV ver)] rfl (Nat.le_of_ble_eq_true rfl)
     replace o_f := o_f.sets 1 rfl hw9
     replace o_m := o_m.sets 1 rfl hw9
     replace q := bs.q
     simp only [World.setCells, Nat.reduceAdd] at hw9
     rw [hw9]
     refine bodyPost_ret (ret_r2 rfl rfl rfl (bs.box 1 rfl)) rfl (⟨a2, c2, rfl, N, hN, o_m.own, q⟩)
    ·simp only [Bool.false_or, decide_eq_false h16, Bool.false_eq_true, if_false, if_neg (show ¬ (9 : Int) = 0 by decide)]
     clear hv hg hs hall hch hth hA hB hmay zt zn zg zx hT hv0 hv1
     obtain ⟨W0, hW, y0, bs⟩ := Sx.start2 w [.slice a0 L0 cap0, .int .i64 ver] 24 [.slice none 0 0, .int .i64 0] 24
     have HW := Lib.hid hW
     clear hW
     have q := bs.q
     go_enter Tryz.func58, Tryz.ntmps58
     go_wp2_with fail
     rw [HW.out]
     refine (CA.out W0).mono ?_
     rintro e w1 ⟨rfl, hb⟩
     replace bs := bs.ret hb
     replace q := bs.q
     clear hb
     have c_r0 := bs.at 0 0 rfl rfl
     have c_r1 := bs.at 0 1 rfl rfl
     have c_z0 := bs.at 1 0 rfl rfl
     have f_z0 := bs.fz 1 0 rfl rfl
     have c_z1 := bs.at 1 1 rfl rfl
     have f_z1 := bs.fz 1 1 rfl rfl
     go_wp2_with fail
     clear c_r0 c_r1 c_z0 f_z0 c_z1 f_z1
     obtain ⟨w2, hw2, y2, al, bs⟩ := bs.alloc (w1.heap.size) rfl [.string X, .string Y, .string Z] 85
     clear al
     replace q := bs.q
     rw [hw2]
     refine (CW.out w2 q).mono ?_
     rintro e w3 ⟨rfl, hb⟩
     replace bs := bs.ret hb
     replace q := bs.q
     clear hb
     have c_r0 := bs.at 0 0 rfl rfl
     have c_r1 := bs.at 0 1 rfl rfl
     go_wp2_with fail
     clear c_r0 c_r1
     refine (CF.out w3 q).mono ?_
     rintro e w4 ⟨hb, p, rfl, hp, hgp⟩
     replace bs := bs.ret hb
     replace q := bs.q
     clear hb
     have HP := Lib.hid hp
     clear hp
     rw [HTH.out]
     have d0 := (bs.lit (w4.heap.size) rfl [.string ⟨p.1.j.toArray⟩, .string ⟨p.1.n.toArray⟩, gvI p, .bool p.1.s.1, .bool p.1.s.2.1, .bool p.1.s.2.2.1, .bool p.1.s.2.2.2, .bool p.1.k] 31)
     have c0_r0 := d0.at 0 0 rfl rfl
     have c0_r1 := d0.at 0 1 rfl rfl
     have c0_z0 := d0.at 1 0 rfl rfl
     have f0_z0 := d0.fz 1 0 rfl rfl
     have c0_z1 := d0.at 1 1 rfl rfl
     have f0_z1 := d0.fz 1 1 rfl rfl
     go_wp2_with fail
     clear d0 c0_r0 c0_r1 c0_z0 f0_z0 c0_z1 f0_z1
     obtain ⟨w5, hw5, y5, al, bs⟩ := bs.alloc (w4.heap.size) rfl [.string ⟨p.1.j.toArray⟩, .string ⟨p.1.n.toArray⟩, gvI p, .bool p.1.s.1, .bool p.1.s.2.1, .bool p.1.s.2.2.1, .bool p.1.s.2.2.2, .bool p.1.k] 31
     clear al
     obtain ⟨w6, hw6, y6, bs⟩ := bs.sets 1 0 [.slice none 0 0, .int .i64 0] rfl (Nat.le_of_ble_eq_true rfl)
     replace q := bs.q
     rw [hw5]
     simp only [World.setCells, Nat.reduceAdd] at hw6
     rw [hw6]
     refine bodyPost_ret (ret_r2 rfl rfl rfl (bs.box 1 rfl)) rfl (RosC.zero q)
end Go.Proofs.YtfonkblbgadhmaaGreatDoor
