/- roster.of. PRINTED BY PROGRAM (gen_roua.py). -/
import Derived.Test.YtfonkblbgadhmaaGreatDoorRoBs
import Derived.Test.YtfonkblbgadhmaaGreatDoorRoSx
import Derived.Test.YtfonkblbgadhmaaGreatDoorRoR
import Derived.Test.YtfonkblbgadhmaaGreatDoorGh
namespace Go.Proofs.YtfonkblbgadhmaaGreatDoor
open Go.RowKit Go.Lib

abbrev uC (v : Value) (ver : Int) (p : Im) (n : Nat) (th : Bool) : List Value := [v, .int .i64 ver, .string ⟨p.1.j.toArray⟩, .string ⟨p.1.n.toArray⟩, gvI p, .bool p.1.s.1, .bool p.1.s.2.1, .bool p.1.s.2.2.1, .bool p.1.s.2.2.2, .bool p.1.k, .int .i64 n, .bool th]
/-- a roster under way: in block U, its memory from block B on. -/
structure UnS (B U : Nat) (v : Value) (M : List Im) (ver : Int) (p : Im) (n : Nat) (th : Bool) (w : World) : Prop where
 own : OwnItems B v M w
 ap : v.ownBlock ≠ some U
 aq : ∀ q ∈ M, (gvI q).ownBlock ≠ some U
 bx : Bx U (uC v ver p n th) w
 le : B ≤ U
theorem UnS.ret {B U : Nat} {v : Value} {M : List Im} {ver : Int} {p : Im} {n : Nat} {th : Bool} {w w' : World} (h : UnS B U v M ver p n th w) (hb : Below w.heap.size w w') : UnS B U v M ver p n th w' := ⟨h.own.ret hb, h.ap, h.aq, h.bx.ret hb, h.le⟩
theorem UnS.mono {B C U : Nat} {v : Value} {M : List Im} {ver : Int} {p : Im} {n : Nat} {th : Bool} {w : World} (h : UnS B U v M ver p n th w) (hc : C ≤ B) : UnS C U v M ver p n th w := ⟨h.own.mono hc, h.ap, h.aq, h.bx, Nat.le_trans hc h.le⟩
/-- what of answers. -/
def OfIs21 (w : World) (L : List It) (ver : Int) (t : List UInt8) (e : Ending) (w' : World) : Prop := Below w.heap.size w w' ∧
 ((mayR L ver = false ∧ e = .returned (.tuple #[.pointer none, .int .i64 8])) ∨
  (mayR L ver = true ∧ ∃ (U : Nat) (a : Option Addr) (c : Nat) (M : List Im) (p : Im), e = .returned (.tuple #[.pointer (some ⟨U, 0, none⟩), .int .i64 0]) ∧ M.map Prod.fst = L ∧ p.1 = wasL L t ∧
   (p = (it0, (none, 0)) ∨ p ∈ M) ∧ UnS w.heap.size U (.slice a L.length c) M ver p (posL L t) (thereL L t) w'))
theorem own_cellsB {w : World} {B g L c : Nat} {M : List Im} (h : w.ownsRow B 31 8 (.slice (some ⟨g, 0, none⟩) L c) M.length (itV M)) (hL : M.length = L) (k : Nat) (hk : k < L) (p : Im) (hp : M[k]? = some p) :
  w.cell? ⟨g, k * 8, none⟩ = some (.string ⟨p.1.j.toArray⟩) ∧ w.cell? ⟨g, k * 8 + 1, none⟩ = some (.string ⟨p.1.n.toArray⟩) ∧ w.cell? ⟨g, k * 8 + 2, none⟩ = some (gvI p) ∧ w.cell? ⟨g, k * 8 + 3, none⟩ = some (.bool p.1.s.1) ∧
  w.cell? ⟨g, k * 8 + 4, none⟩ = some (.bool p.1.s.2.1) ∧ w.cell? ⟨g, k * 8 + 5, none⟩ = some (.bool p.1.s.2.2.1) ∧ w.cell? ⟨g, k * 8 + 6, none⟩ = some (.bool p.1.s.2.2.2) ∧ w.cell? ⟨g, k * 8 + 7, none⟩ = some (.bool p.1.k) := by
 subst hL
 exact own_cells h k hk rfl p hp
/-- the place, and whether it is there. -/
theorem there_parts {M : List Im} {t : List UInt8} (hc : chainB (M.map Prod.fst) = true) (n : Nat) (hn : posL (M.map Prod.fst) t = n) : (thereL (M.map Prod.fst) t = true → ∃ h : n < M.length, (M[n]).1.j = t ∧ M[n].1 = wasL (M.map Prod.fst) t) ∧
  (thereL (M.map Prod.fst) t = false → ∀ h : n < M.length, (M[n]).1.j ≠ t) := by
 subst hn
 constructor
 ·intro h
  obtain ⟨hp, hj, _⟩ := there_drop h
  have hp' : posL (M.map Prod.fst) t < M.length := by simpa using hp
  rw [List.getElem_map] at hj
  refine ⟨hp', hj, ?_⟩
  have := (was_there hc h).1
  rw [this]
  simp [List.getD, hp']
 ·intro h hp e
  have := there_iff hc (t := t) ⟨M[posL (M.map Prod.fst) t].1, List.mem_map_of_mem (List.getElem_mem hp), e⟩
  rw [h] at this
  cases this
set_option maxHeartbeats 4000000 in
set_option maxRecDepth 100000 in
theorem ro_of (v : Value) (ver : Int) (M : List Im) (t : List UInt8) (w : World) (hv : IsItems v M w) (hs : SmallI M) (hm : ML w) (zt : t.length ≤ 10000) :
  Calls Tryz.prog 49 #[.agg #[v, .int .i64 ver], .string ⟨t.toArray⟩] w (OfIs21 w (M.map Prod.fst) ver t) := by
 obtain ⟨a0, cap0, hf, -⟩ := hv.form
 obtain ⟨L0, hL⟩ : ∃ L, M.length = L := ⟨_, rfl⟩
 rw [hL] at hf
 subst hf
 have CC := fun (w' : World) (hb : Below w.heap.size w w') => ro_Check (.slice a0 L0 cap0) ver M w' (hv.ret hb) hs (hm.ret hb)
 have CT := fun (w' : World) (hb : Below w.heap.size w w') => ro_Twin (.slice a0 L0 cap0) ver M w' (hv.ret hb) hs.1 (fun p hp => (hs.2 p hp).2.2.1)
 have HM := Lib.hid hm
 have HSM := Lib.hid hs
 have ZT : Hid ((⟨t.toArray⟩ : ByteArray).size ≤ 10000) := Lib.hid (by rw [← size_toList]; exact zt)
 cases hmay : mayR (M.map Prod.fst) ver with
 | false =>
  simp only [hmay, Bool.false_eq_true, if_false] at CC
  have CC := Lib.hid CC
  clear hv hs hm zt CT hL
  obtain ⟨W0, hW, y0, bs⟩ := Sx.start1 w [.slice a0 L0 cap0, .int .i64 ver] 24
  have HW := Lib.hid hW
  clear hW
  have q := bs.q
  go_enter Tryz.func49, Tryz.ntmps49
  go_wp2_with fail
  rw [HW.out]
  refine (CC.out W0 q).mono ?_
  rintro e w1 ⟨rfl, hb⟩
  replace bs := bs.ret hb
  replace q := bs.q
  clear hb
  have c_r0 := bs.at 0 0 rfl rfl
  have c_r1 := bs.at 0 1 rfl rfl
  go_wp2_with fail
  go_ret2
  exact ⟨q, .inl ⟨hmay, rfl⟩⟩
 | true =>
  simp only [hmay, if_true] at CC
  obtain ⟨hall, hch, hl16, hv0, hv1⟩ := may_facts21 hmay
  rw [List.length_map, hL] at hl16
  have CC := Lib.hid CC
  have CT := Lib.hid CT
  have HMAY := Lib.hid hmay
  have HCH := Lib.hid hch
  have HLL := Lib.hid hL
  clear hv hs hm zt hL hall hch hmay hv0 hv1
  obtain ⟨W0, hW, y0, bs⟩ := Sx.start1 w [.slice a0 L0 cap0, .int .i64 ver] 24
  have HW := Lib.hid hW
  clear hW
  have q := bs.q
  go_enter Tryz.func49, Tryz.ntmps49
  go_wp2_with fail
  rw [HW.out]
  refine (CC.out W0 q).mono ?_
  rintro e w1 ⟨rfl, hb⟩
  replace bs := bs.ret hb
  replace q := bs.q
  clear hb
  have c_r0 := bs.at 0 0 rfl rfl
  have c_r1 := bs.at 0 1 rfl rfl
  go_wp2_with fail
  clear c_r0 c_r1
  refine (CT.out w1 q).mono ?_
  rintro e w2 ⟨a, c, rfl, Kt, hKt, hown, hb⟩
  have o_m := OwnX.mk' bs hown
  replace bs := bs.ret hb
  replace q := bs.q
  clear hb
  have hKl : Kt.length = L0 := by have := congrArg List.length hKt; simpa [HLL.out] using this
  have hown2 := hown
  rw [List.length_map, HLL.out] at o_m hown ⊢
  have hms : SmallI Kt := by
   refine ⟨by rw [hKl]; omega, fun p hp => ?_⟩
   have : p.1 ∈ M.map Prod.fst := by rw [← hKt]; exact List.mem_map_of_mem hp
   obtain ⟨m, hmm, e⟩ := List.mem_map.1 this
   rw [← e]
   exact HSM.out.2 m hmm
  have hkc : chainB (Kt.map Prod.fst) = true := by rw [hKt]; exact HCH.out
  have hsr := search_of Kt t hkc
  rw [hKt] at hsr
  have hpl : posL (M.map Prod.fst) t ≤ Kt.length := by have := posL_le (M.map Prod.fst) t; rw [← hKt, List.length_map, hKt] at this; exact this
  obtain ⟨n, hn⟩ : ∃ n, posL (M.map Prod.fst) t = n := ⟨_, rfl⟩
  have htp := there_parts (M := Kt) (t := t) hkc n (by rw [hKt]; exact hn)
  rw [hKt] at htp
  simp only [hn] at hsr hpl
  obtain ⟨FF, hF⟩ : ∃ FF, FF = (match Kt[n]? with | some p => decide (ordT p.1.j t = 0) | none => false) := ⟨_, rfl⟩
  have hF1 : ∀ (h : n < Kt.length), FF = decide (ordT Kt[n].1.j t = 0) := fun h => by rw [hF, List.getElem?_eq_getElem h]
  have hF2 : ¬ n < Kt.length → FF = false := fun h => by rw [hF, List.getElem?_eq_none (by omega)]
  have alx : Below w2.heap.size w2 (w2.alloc (.cells #[.slice a L0 c, .int .i64 ver, .string ⟨#[]⟩, .string ⟨#[]⟩, .slice none 0 0, .bool false, .bool false, .bool false, .bool false, .bool false, .int .i64 0, .bool false] 92)) := (Below.refl _ _).alloc (Nat.le_refl _) _
  have BS := Lib.hid (sl_Search (.slice a L0 c) (.func (.func 75) #[] #[]) ⟨t.toArray⟩ (fun x => ordT x.j t) Kt n FF (w2.alloc (.cells #[.slice a L0 c, .int .i64 ver, .string ⟨#[]⟩, .string ⟨#[]⟩, .slice none 0 0, .bool false, .bool false, .bool false, .bool false, .bool false, .int .i64 0, .bool false] 92)) (o_m.own.items.ret alx) (by omega) (cmp_of ⟨t.toArray⟩ Kt _ (HM.out.ret (q.trans (alx.mono q.size))) hms ZT.out) hpl hsr hF1 hF2)
  have HK := Lib.hid hKt
  have TP := Lib.hid htp
  have F1 := Lib.hid hF1
  have F2 := Lib.hid hF2
  have HN := Lib.hid hn
  have KL := Lib.hid hKl
  have HPL : Hid (n ≤ L0) := Lib.hid (by omega)
  clear hown hown2 hms hkc hsr hpl htp hF hF1 hF2 hn alx hKt hKl
  have c_r0 := bs.at 0 0 rfl rfl
  have c_r1 := bs.at 0 1 rfl rfl
  go_wp2_with fail
  clear c_r0 c_r1
  obtain ⟨w3, hw3, y3, al, bs⟩ := bs.alloc (w2.heap.size) rfl [.slice a L0 c, .int .i64 ver, .string ⟨#[]⟩, .string ⟨#[]⟩, .slice none 0 0, .bool false, .bool false, .bool false, .bool false, .bool false, .int .i64 0, .bool false] 92
  replace o_m := o_m.alloc (w2.heap.size) rfl al
  clear al
  replace q := bs.q
  rw [hw3] at BS
  rw [hw3]
  refine (BS.out).mono ?_
  rintro e w4 ⟨rfl, hb⟩
  replace o_m := o_m.ret hb
  replace bs := bs.ret hb
  replace q := bs.q
  clear hb
  cases hT : thereL (M.map Prod.fst) t with
  | true =>
   obtain ⟨hnK, hj, hwas⟩ := TP.out.1 hT
   obtain ⟨pn, hpn⟩ : ∃ p, Kt[n] = p := ⟨_, rfl⟩
   have PN : Hid (Kt[n]? = some pn) := Lib.hid (by rw [List.getElem?_eq_getElem hnK, hpn])
   have f1 := F1.out hnK
   rw [hpn] at hj hwas f1
   have he : (pn.1.j == t) = true := by simp [hj]
   have hnL : n < L0 := by rw [← KL.out]; exact hnK
   have hFt : FF = true := by rw [f1, hj]; exact decide_eq_true (by unfold ordT; rw [lessT_irr]; rfl)
   subst hFt
   have HJ := Lib.hid hj
   have HWAS := Lib.hid hwas
   clear hj hpn f1 hwas
   obtain ⟨g, rfl, -, hgB, hgl⟩ := own_some o_m.1.1 (by omega)
   have c_u0 := bs.at 1 0 rfl rfl
   have f_u0 := bs.fz 1 0 rfl rfl
   have c_u1 := bs.at 1 1 rfl rfl
   have f_u1 := bs.fz 1 1 rfl rfl
   have c_u2 := bs.at 1 2 rfl rfl
   have f_u2 := bs.fz 1 2 rfl rfl
   have c_u3 := bs.at 1 3 rfl rfl
   have f_u3 := bs.fz 1 3 rfl rfl
   have c_u4 := bs.at 1 4 rfl rfl
   have f_u4 := bs.fz 1 4 rfl rfl
   have c_u5 := bs.at 1 5 rfl rfl
   have f_u5 := bs.fz 1 5 rfl rfl
   have c_u6 := bs.at 1 6 rfl rfl
   have f_u6 := bs.fz 1 6 rfl rfl
   have c_u7 := bs.at 1 7 rfl rfl
   have f_u7 := bs.fz 1 7 rfl rfl
   have c_u8 := bs.at 1 8 rfl rfl
   have f_u8 := bs.fz 1 8 rfl rfl
   have c_u9 := bs.at 1 9 rfl rfl
   have f_u9 := bs.fz 1 9 rfl rfl
   have c_u10 := bs.at 1 10 rfl rfl
   have f_u10 := bs.fz 1 10 rfl rfl
   have c_u11 := bs.at 1 11 rfl rfl
   have f_u11 := bs.fz 1 11 rfl rfl
   go_wp2_with fail
   clear c_u0 f_u0 c_u1 f_u1 c_u2 f_u2 c_u3 f_u3 c_u4 f_u4 c_u5 f_u5 c_u6 f_u6 c_u7 f_u7 c_u8 f_u8 c_u9 f_u9 c_u10 f_u10 c_u11 f_u11
   obtain ⟨w5, hw5, y5, bs⟩ := bs.sets 1 10 [.int .i64 n, .bool true] rfl (Nat.le_of_ble_eq_true rfl)
   replace o_m := o_m.sets 1 rfl hw5
   replace q := bs.q
   simp only [World.setCells, Nat.reduceAdd] at hw5
   rw [hw5]
   have wn : (n : Int) < (L0 : Int) := by omega
   replace o_m := o_m.ret (Below.drew (Below.refl _ _))
   replace bs := bs.ret (Below.drew (Below.refl _ _))
   replace q := bs.q
   have y6 : w5.drew.heap.size = w5.heap.size := rfl
   refine wp_region_held_drew (S := fun w' => w'.cell? ⟨w2.heap.size, 0, none⟩ = some (.slice (some ⟨g, 0, none⟩) L0 c) ∧ w'.cell? ⟨w2.heap.size, 10, none⟩ = some (.int .i64 n) ∧ w'.cell? ⟨g, n * 8, none⟩ = some (.string ⟨pn.1.j.toArray⟩)) (by kernel_rfl) ⟨bs.at 1 0 rfl rfl, bs.at 1 10 rfl rfl, (own_cellsB o_m.1.1 KL.out n hnL pn PN.out).1⟩ (fun hHeld => ?_)
   generalize w5.drew = w6 at bs o_m q y6 hHeld ⊢
   refine tk_start [(0, some 33), (1, some 34), (2, some 35), (3, some 36)] ?_
   iterate 4
    refine tk_step (v := ?_) (by kernel_rfl) (by kernel_rfl) (fun _ _ _ h => h) (by assumption) (fun o ho w' hSw => ?_) ?_
    rotate_left
    ·simp only [List.getElem?_toArray, List.getElem?_cons_succ, List.getElem?_cons_zero, Option.some.injEq] at ho; subst ho; (try dsimp only at hSw); go_simp; try with_reducible rfl
    simp only [Act.put, List.setIfInBounds_toArray, List.set_cons_zero, List.set_cons_succ]
   refine tk_end ?_
   refine tk_call (i := 4) (by kernel_rfl) (by kernel_rfl) (fun o ho K hK => ?_)
   simp only [List.getElem?_toArray, List.getElem?_cons_succ, List.getElem?_cons_zero, Option.some.injEq] at ho
   subst ho
   have c11 := bs.at 1 11 rfl rfl
   go_simp
   clear c11
   clear hHeld
   refine hK.out _ _ ⟨bs.at 1 0 rfl rfl, bs.at 1 10 rfl rfl, (own_cellsB o_m.1.1 KL.out n hnL pn PN.out).1⟩ (fun hHeld => ?_)
   clear hK K
   refine tk_start [(5, some 38), (6, some 39), (7, some 40), (8, some 41), (9, some 42), (10, some 43), (11, some 44), (12, some 45), (13, some 46), (14, some 47), (15, some 48), (16, some 49), (17, some 50), (18, some 51), (19, some 52), (20, some 53), (21, some 54), (22, some 55)] ?_
   iterate 18
    refine tk_step (v := ?_) (by kernel_rfl) (by kernel_rfl) (fun _ _ _ h => h) (by assumption) (fun o ho w' hSw => ?_) ?_
    rotate_left
    ·simp only [List.getElem?_toArray, List.getElem?_cons_succ, List.getElem?_cons_zero, Option.some.injEq] at ho; subst ho; (try dsimp only at hSw); go_simp; try with_reducible rfl
    simp only [Act.put, List.setIfInBounds_toArray, List.set_cons_zero, List.set_cons_succ]
   refine tk_end ?_
   refine tk_call (i := 23) (by kernel_rfl) (by kernel_rfl) (fun o ho K hK => ?_)
   simp only [List.getElem?_toArray, List.getElem?_cons_succ, List.getElem?_cons_zero, Option.some.injEq] at ho
   subst ho
   have c11 := bs.at 1 11 rfl rfl
   have f11 := bs.fz 1 11 rfl rfl
   go_simp
   clear c11 f11
   obtain ⟨w7, hw7, y7, bs⟩ := bs.sets 1 11 [.bool true] rfl (Nat.le_of_ble_eq_true rfl)
   replace o_m := o_m.sets 1 rfl hw7
   replace q := bs.q
   simp only [World.setCells] at hw7
   rw [hw7]
   clear hHeld
   refine hK.out _ _ ⟨bs.at 1 0 rfl rfl, bs.at 1 10 rfl rfl, (own_cellsB o_m.1.1 KL.out n hnL pn PN.out).1⟩ (fun hHeld => ?_)
   clear hK K
   refine wpAnyH_done (by kernel_rfl) ?_ _
   clear hHeld
   have c_u0 := bs.at 1 0 rfl rfl
   have c_u1 := bs.at 1 1 rfl rfl
   have c_u2 := bs.at 1 2 rfl rfl
   have c_u3 := bs.at 1 3 rfl rfl
   have c_u4 := bs.at 1 4 rfl rfl
   have c_u5 := bs.at 1 5 rfl rfl
   have c_u6 := bs.at 1 6 rfl rfl
   have c_u7 := bs.at 1 7 rfl rfl
   have c_u8 := bs.at 1 8 rfl rfl
   have c_u9 := bs.at 1 9 rfl rfl
   have c_u10 := bs.at 1 10 rfl rfl
   have c_u11 := bs.at 1 11 rfl rfl
   go_wp2_with fail
   clear c_u0 c_u1 c_u2 c_u3 c_u4 c_u5 c_u6 c_u7 c_u8 c_u9 c_u10 c_u11
   replace o_m := o_m.ret (Below.drew (Below.refl _ _))
   replace bs := bs.ret (Below.drew (Below.refl _ _))
   replace q := bs.q
   have y8 : w7.drew.heap.size = w7.heap.size := rfl
   refine wp_region_held_drew (S := fun w' => w'.cell? ⟨w2.heap.size, 0, none⟩ = some (.slice (some ⟨g, 0, none⟩) L0 c) ∧ w'.cell? ⟨w2.heap.size, 10, none⟩ = some (.int .i64 n) ∧ w'.cell? ⟨g, n * 8, none⟩ = some (.string ⟨pn.1.j.toArray⟩) ∧ w'.cell? ⟨g, n * 8 + 1, none⟩ = some (.string ⟨pn.1.n.toArray⟩) ∧ w'.cell? ⟨g, n * 8 + 2, none⟩ = some (gvI pn) ∧ w'.cell? ⟨g, n * 8 + 3, none⟩ = some (.bool pn.1.s.1) ∧ w'.cell? ⟨g, n * 8 + 4, none⟩ = some (.bool pn.1.s.2.1) ∧ w'.cell? ⟨g, n * 8 + 5, none⟩ = some (.bool pn.1.s.2.2.1) ∧ w'.cell? ⟨g, n * 8 + 6, none⟩ = some (.bool pn.1.s.2.2.2) ∧ w'.cell? ⟨g, n * 8 + 7, none⟩ = some (.bool pn.1.k)) (by kernel_rfl) ⟨bs.at 1 0 rfl rfl, bs.at 1 10 rfl rfl, (own_cellsB o_m.1.1 KL.out n hnL pn PN.out).1, (own_cellsB o_m.1.1 KL.out n hnL pn PN.out).2.1, (own_cellsB o_m.1.1 KL.out n hnL pn PN.out).2.2.1, (own_cellsB o_m.1.1 KL.out n hnL pn PN.out).2.2.2.1, (own_cellsB o_m.1.1 KL.out n hnL pn PN.out).2.2.2.2.1, (own_cellsB o_m.1.1 KL.out n hnL pn PN.out).2.2.2.2.2.1, (own_cellsB o_m.1.1 KL.out n hnL pn PN.out).2.2.2.2.2.2.1, (own_cellsB o_m.1.1 KL.out n hnL pn PN.out).2.2.2.2.2.2.2⟩ (fun hHeld => ?_)
   generalize w7.drew = w8 at bs o_m q y8 hHeld ⊢
   refine tk_start [(0, some 60), (1, some 61), (2, some 62), (3, some 63), (4, some 64), (5, some 65), (6, some 66), (7, some 67), (8, some 68), (9, some 69), (10, some 70), (11, some 71), (12, some 72), (13, some 73)] ?_
   iterate 14
    refine tk_step (v := ?_) (by kernel_rfl) (by kernel_rfl) (fun _ _ _ h => h) (by assumption) (fun o ho w' hSw => ?_) ?_
    rotate_left
    ·simp only [List.getElem?_toArray, List.getElem?_cons_succ, List.getElem?_cons_zero, Option.some.injEq] at ho; subst ho; (try dsimp only at hSw); go_simp; try with_reducible rfl
    simp only [Act.put, List.setIfInBounds_toArray, List.set_cons_zero, List.set_cons_succ]
   refine tk_end ?_
   refine tk_call (i := 14) (by kernel_rfl) (by kernel_rfl) (fun o ho K hK => ?_)
   simp only [List.getElem?_toArray, List.getElem?_cons_succ, List.getElem?_cons_zero, Option.some.injEq] at ho
   subst ho
   have f2 := bs.fz 1 2 rfl rfl
   have f3 := bs.fz 1 3 rfl rfl
   have f4 := bs.fz 1 4 rfl rfl
   have f5 := bs.fz 1 5 rfl rfl
   have f6 := bs.fz 1 6 rfl rfl
   have f7 := bs.fz 1 7 rfl rfl
   have f8 := bs.fz 1 8 rfl rfl
   have f9 := bs.fz 1 9 rfl rfl
   have d2 := bs.at 1 2 rfl rfl
   have d3 := bs.at 1 3 rfl rfl
   have d4 := bs.at 1 4 rfl rfl
   have d5 := bs.at 1 5 rfl rfl
   have d6 := bs.at 1 6 rfl rfl
   have d7 := bs.at 1 7 rfl rfl
   have d8 := bs.at 1 8 rfl rfl
   have d9 := bs.at 1 9 rfl rfl
   go_simp
   clear f2 d2 f3 d3 f4 d4 f5 d5 f6 d6 f7 d7 f8 d8 f9 d9
   obtain ⟨w9, hw9, y9, bs⟩ := bs.sets 1 2 [.string ⟨pn.1.j.toArray⟩, .string ⟨pn.1.n.toArray⟩, gvI pn, .bool pn.1.s.1, .bool pn.1.s.2.1, .bool pn.1.s.2.2.1, .bool pn.1.s.2.2.2, .bool pn.1.k] rfl (Nat.le_of_ble_eq_true rfl)
   replace o_m := o_m.sets 1 rfl hw9
   replace q := bs.q
   simp only [World.setCells, Nat.reduceAdd] at hw9
   rw [hw9]
   clear hHeld
   refine hK.out _ _ ⟨bs.at 1 0 rfl rfl, bs.at 1 10 rfl rfl, (own_cellsB o_m.1.1 KL.out n hnL pn PN.out).1, (own_cellsB o_m.1.1 KL.out n hnL pn PN.out).2.1, (own_cellsB o_m.1.1 KL.out n hnL pn PN.out).2.2.1, (own_cellsB o_m.1.1 KL.out n hnL pn PN.out).2.2.2.1, (own_cellsB o_m.1.1 KL.out n hnL pn PN.out).2.2.2.2.1, (own_cellsB o_m.1.1 KL.out n hnL pn PN.out).2.2.2.2.2.1, (own_cellsB o_m.1.1 KL.out n hnL pn PN.out).2.2.2.2.2.2.1, (own_cellsB o_m.1.1 KL.out n hnL pn PN.out).2.2.2.2.2.2.2⟩ (fun hHeld => ?_)
   clear hK K
   refine wpAnyH_done (by kernel_rfl) ?_ _
   clear hHeld
   go_wp2_with fail
   go_ret2
   refine ⟨q, .inr ⟨HMAY.out, w2.heap.size, some ⟨g, 0, none⟩, c, Kt, pn, rfl, HK.out, HWAS.out, .inr (List.mem_of_getElem? PN.out), ?_⟩⟩
   have hle := (bs.bx _ (List.mem_of_getElem? (i := 1) rfl)).2
   have hLx : (M.map Prod.fst).length = L0 := by rw [List.length_map, HLL.out]
   rw [hLx, HN.out, hT]
   refine ⟨o_m.own, fun e => o_m.1.2 _ e (List.mem_of_getElem? (i := 1) rfl), fun q hq e => (o_m.2 q hq).2 _ e (List.mem_of_getElem? (i := 1) rfl), bs.box 1 rfl, hle⟩
  | false =>
   have hno := TP.out.2 hT
   cases FF with
   | true =>
    have hnK : n < Kt.length := by
     rcases Nat.lt_or_ge n Kt.length with h | h
     ·exact h
     ·exact absurd (F2.out (by omega)) (by decide)
    have hnL : n < L0 := by rw [← KL.out]; exact hnK
    have hj := hno hnK
    obtain ⟨pn, hpn⟩ : ∃ p, Kt[n] = p := ⟨_, rfl⟩
    have PN : Hid (Kt[n]? = some pn) := Lib.hid (by rw [List.getElem?_eq_getElem hnK, hpn])
    rw [hpn] at hj
    have he : (pn.1.j == t) = false := by simp [hj]
    clear hj hpn
    obtain ⟨g, rfl, -, hgB, hgl⟩ := own_some o_m.1.1 (by omega)
    have c_u0 := bs.at 1 0 rfl rfl
    have f_u0 := bs.fz 1 0 rfl rfl
    have c_u1 := bs.at 1 1 rfl rfl
    have f_u1 := bs.fz 1 1 rfl rfl
    have c_u2 := bs.at 1 2 rfl rfl
    have f_u2 := bs.fz 1 2 rfl rfl
    have c_u3 := bs.at 1 3 rfl rfl
    have f_u3 := bs.fz 1 3 rfl rfl
    have c_u4 := bs.at 1 4 rfl rfl
    have f_u4 := bs.fz 1 4 rfl rfl
    have c_u5 := bs.at 1 5 rfl rfl
    have f_u5 := bs.fz 1 5 rfl rfl
    have c_u6 := bs.at 1 6 rfl rfl
    have f_u6 := bs.fz 1 6 rfl rfl
    have c_u7 := bs.at 1 7 rfl rfl
    have f_u7 := bs.fz 1 7 rfl rfl
    have c_u8 := bs.at 1 8 rfl rfl
    have f_u8 := bs.fz 1 8 rfl rfl
    have c_u9 := bs.at 1 9 rfl rfl
    have f_u9 := bs.fz 1 9 rfl rfl
    have c_u10 := bs.at 1 10 rfl rfl
    have f_u10 := bs.fz 1 10 rfl rfl
    have c_u11 := bs.at 1 11 rfl rfl
    have f_u11 := bs.fz 1 11 rfl rfl
    go_wp2_with fail
    clear c_u0 f_u0 c_u1 f_u1 c_u2 f_u2 c_u3 f_u3 c_u4 f_u4 c_u5 f_u5 c_u6 f_u6 c_u7 f_u7 c_u8 f_u8 c_u9 f_u9 c_u10 f_u10 c_u11 f_u11
    obtain ⟨w5, hw5, y5, bs⟩ := bs.sets 1 10 [.int .i64 n, .bool true] rfl (Nat.le_of_ble_eq_true rfl)
    replace o_m := o_m.sets 1 rfl hw5
    replace q := bs.q
    simp only [World.setCells, Nat.reduceAdd] at hw5
    rw [hw5]
    have wn : (n : Int) < (L0 : Int) := by omega
    replace o_m := o_m.ret (Below.drew (Below.refl _ _))
    replace bs := bs.ret (Below.drew (Below.refl _ _))
    replace q := bs.q
    have y6 : w5.drew.heap.size = w5.heap.size := rfl
    refine wp_region_held_drew (S := fun w' => w'.cell? ⟨w2.heap.size, 0, none⟩ = some (.slice (some ⟨g, 0, none⟩) L0 c) ∧ w'.cell? ⟨w2.heap.size, 10, none⟩ = some (.int .i64 n) ∧ w'.cell? ⟨g, n * 8, none⟩ = some (.string ⟨pn.1.j.toArray⟩)) (by kernel_rfl) ⟨bs.at 1 0 rfl rfl, bs.at 1 10 rfl rfl, (own_cellsB o_m.1.1 KL.out n hnL pn PN.out).1⟩ (fun hHeld => ?_)
    generalize w5.drew = w6 at bs o_m q y6 hHeld ⊢
    refine tk_start [(0, some 33), (1, some 34), (2, some 35), (3, some 36)] ?_
    iterate 4
     refine tk_step (v := ?_) (by kernel_rfl) (by kernel_rfl) (fun _ _ _ h => h) (by assumption) (fun o ho w' hSw => ?_) ?_
     rotate_left
     ·simp only [List.getElem?_toArray, List.getElem?_cons_succ, List.getElem?_cons_zero, Option.some.injEq] at ho; subst ho; (try dsimp only at hSw); go_simp; try with_reducible rfl
     simp only [Act.put, List.setIfInBounds_toArray, List.set_cons_zero, List.set_cons_succ]
    refine tk_end ?_
    refine tk_call (i := 4) (by kernel_rfl) (by kernel_rfl) (fun o ho K hK => ?_)
    simp only [List.getElem?_toArray, List.getElem?_cons_succ, List.getElem?_cons_zero, Option.some.injEq] at ho
    subst ho
    have c11 := bs.at 1 11 rfl rfl
    go_simp
    clear c11
    clear hHeld
    refine hK.out _ _ ⟨bs.at 1 0 rfl rfl, bs.at 1 10 rfl rfl, (own_cellsB o_m.1.1 KL.out n hnL pn PN.out).1⟩ (fun hHeld => ?_)
    clear hK K
    refine tk_start [(5, some 38), (6, some 39), (7, some 40), (8, some 41), (9, some 42), (10, some 43), (11, some 44), (12, some 45), (13, some 46), (14, some 47), (15, some 48), (16, some 49), (17, some 50), (18, some 51), (19, some 52), (20, some 53), (21, some 54), (22, some 55)] ?_
    iterate 18
     refine tk_step (v := ?_) (by kernel_rfl) (by kernel_rfl) (fun _ _ _ h => h) (by assumption) (fun o ho w' hSw => ?_) ?_
     rotate_left
     ·simp only [List.getElem?_toArray, List.getElem?_cons_succ, List.getElem?_cons_zero, Option.some.injEq] at ho; subst ho; (try dsimp only at hSw); go_simp; try with_reducible rfl
     simp only [Act.put, List.setIfInBounds_toArray, List.set_cons_zero, List.set_cons_succ]
    refine tk_end ?_
    refine tk_call (i := 23) (by kernel_rfl) (by kernel_rfl) (fun o ho K hK => ?_)
    simp only [List.getElem?_toArray, List.getElem?_cons_succ, List.getElem?_cons_zero, Option.some.injEq] at ho
    subst ho
    have c11 := bs.at 1 11 rfl rfl
    have f11 := bs.fz 1 11 rfl rfl
    go_simp
    clear c11 f11
    obtain ⟨w7, hw7, y7, bs⟩ := bs.sets 1 11 [.bool false] rfl (Nat.le_of_ble_eq_true rfl)
    replace o_m := o_m.sets 1 rfl hw7
    replace q := bs.q
    simp only [World.setCells] at hw7
    rw [hw7]
    clear hHeld
    refine hK.out _ _ ⟨bs.at 1 0 rfl rfl, bs.at 1 10 rfl rfl, (own_cellsB o_m.1.1 KL.out n hnL pn PN.out).1⟩ (fun hHeld => ?_)
    clear hK K
    refine wpAnyH_done (by kernel_rfl) ?_ _
    clear hHeld
    have c_u0 := bs.at 1 0 rfl rfl
    have c_u1 := bs.at 1 1 rfl rfl
    have c_u2 := bs.at 1 2 rfl rfl
    have c_u3 := bs.at 1 3 rfl rfl
    have c_u4 := bs.at 1 4 rfl rfl
    have c_u5 := bs.at 1 5 rfl rfl
    have c_u6 := bs.at 1 6 rfl rfl
    have c_u7 := bs.at 1 7 rfl rfl
    have c_u8 := bs.at 1 8 rfl rfl
    have c_u9 := bs.at 1 9 rfl rfl
    have c_u10 := bs.at 1 10 rfl rfl
    have c_u11 := bs.at 1 11 rfl rfl
    go_wp2_with fail
    clear c_u0 c_u1 c_u2 c_u3 c_u4 c_u5 c_u6 c_u7 c_u8 c_u9 c_u10 c_u11
    go_wp2_with fail
    go_ret2
    refine ⟨q, .inr ⟨HMAY.out, w2.heap.size, some ⟨g, 0, none⟩, c, Kt, (it0, (none, 0)), rfl, HK.out, (was_not HCH.out hT).symm, .inl rfl, ?_⟩⟩
    have hle := (bs.bx _ (List.mem_of_getElem? (i := 1) rfl)).2
    have hLx : (M.map Prod.fst).length = L0 := by rw [List.length_map, HLL.out]
    rw [hLx, HN.out, hT]
    refine ⟨o_m.own, fun e => o_m.1.2 _ e (List.mem_of_getElem? (i := 1) rfl), fun q hq e => (o_m.2 q hq).2 _ e (List.mem_of_getElem? (i := 1) rfl), bs.box 1 rfl, hle⟩
   | false =>
    have c_u0 := bs.at 1 0 rfl rfl
    have f_u0 := bs.fz 1 0 rfl rfl
    have c_u1 := bs.at 1 1 rfl rfl
    have f_u1 := bs.fz 1 1 rfl rfl
    have c_u2 := bs.at 1 2 rfl rfl
    have f_u2 := bs.fz 1 2 rfl rfl
    have c_u3 := bs.at 1 3 rfl rfl
    have f_u3 := bs.fz 1 3 rfl rfl
    have c_u4 := bs.at 1 4 rfl rfl
    have f_u4 := bs.fz 1 4 rfl rfl
    have c_u5 := bs.at 1 5 rfl rfl
    have f_u5 := bs.fz 1 5 rfl rfl
    have c_u6 := bs.at 1 6 rfl rfl
    have f_u6 := bs.fz 1 6 rfl rfl
    have c_u7 := bs.at 1 7 rfl rfl
    have f_u7 := bs.fz 1 7 rfl rfl
    have c_u8 := bs.at 1 8 rfl rfl
    have f_u8 := bs.fz 1 8 rfl rfl
    have c_u9 := bs.at 1 9 rfl rfl
    have f_u9 := bs.fz 1 9 rfl rfl
    have c_u10 := bs.at 1 10 rfl rfl
    have f_u10 := bs.fz 1 10 rfl rfl
    have c_u11 := bs.at 1 11 rfl rfl
    have f_u11 := bs.fz 1 11 rfl rfl
    go_wp2_with fail
    clear c_u0 f_u0 c_u1 f_u1 c_u2 f_u2 c_u3 f_u3 c_u4 f_u4 c_u5 f_u5 c_u6 f_u6 c_u7 f_u7 c_u8 f_u8 c_u9 f_u9 c_u10 f_u10 c_u11 f_u11
    obtain ⟨w5, hw5, y5, bs⟩ := bs.sets 1 10 [.int .i64 n, .bool false] rfl (Nat.le_of_ble_eq_true rfl)
    replace o_m := o_m.sets 1 rfl hw5
    replace q := bs.q
    simp only [World.setCells, Nat.reduceAdd] at hw5
    rw [hw5]
    replace o_m := o_m.ret (Below.drew (Below.refl _ _))
    replace bs := bs.ret (Below.drew (Below.refl _ _))
    replace q := bs.q
    have y6 : w5.drew.heap.size = w5.heap.size := rfl
    refine wp_region_held_drew (S := fun w' => w'.cell? ⟨w2.heap.size, 0, none⟩ = some (.slice a L0 c) ∧ w'.cell? ⟨w2.heap.size, 10, none⟩ = some (.int .i64 n)) (by kernel_rfl) ⟨bs.at 1 0 rfl rfl, bs.at 1 10 rfl rfl⟩ (fun hHeld => ?_)
    generalize w5.drew = w6 at bs o_m q y6 hHeld ⊢
    refine tk_start [(0, some 33), (1, some 34), (2, some 35), (3, some 36)] ?_
    iterate 4
     refine tk_step (v := ?_) (by kernel_rfl) (by kernel_rfl) (fun _ _ _ h => h) (by assumption) (fun o ho w' hSw => ?_) ?_
     rotate_left
     ·simp only [List.getElem?_toArray, List.getElem?_cons_succ, List.getElem?_cons_zero, Option.some.injEq] at ho; subst ho; (try dsimp only at hSw); go_simp; try with_reducible rfl
     simp only [Act.put, List.setIfInBounds_toArray, List.set_cons_zero, List.set_cons_succ]
    refine tk_end ?_
    refine tk_call (i := 4) (by kernel_rfl) (by kernel_rfl) (fun o ho K hK => ?_)
    simp only [List.getElem?_toArray, List.getElem?_cons_succ, List.getElem?_cons_zero, Option.some.injEq] at ho
    subst ho
    have c11 := bs.at 1 11 rfl rfl
    go_simp
    clear c11
    clear hHeld
    refine hK.out _ _ ⟨bs.at 1 0 rfl rfl, bs.at 1 10 rfl rfl⟩ (fun hHeld => ?_)
    clear hK K
    refine tk_on (i := 5) (some 38) (v := ?_) (by kernel_rfl) (by kernel_rfl) (by kernel_rfl) (by kernel_rfl) (fun _ _ _ h => h) (by assumption) (fun o ho w' hSw => ?_) ?_
    rotate_left
    ·(simp only [List.getElem?_toArray, List.getElem?_cons_succ, List.getElem?_cons_zero, Option.some.injEq] at ho; subst ho; (try dsimp only at hSw); go_simp; try with_reducible rfl)
    simp only [Act.put, List.setIfInBounds_toArray, List.set_cons_zero, List.set_cons_succ]
    refine tk_off (i := 6) (some 39) (by kernel_rfl) (by kernel_rfl) (by kernel_rfl) (by kernel_rfl) (fun _ _ _ h => h) (by assumption) ?_
    simp only [Act.put, List.setIfInBounds_toArray, List.set_cons_zero, List.set_cons_succ]
    refine tk_off (i := 7) (some 40) (by kernel_rfl) (by kernel_rfl) (by kernel_rfl) (by kernel_rfl) (fun _ _ _ h => h) (by assumption) ?_
    simp only [Act.put, List.setIfInBounds_toArray, List.set_cons_zero, List.set_cons_succ]
    refine tk_off (i := 8) (some 41) (by kernel_rfl) (by kernel_rfl) (by kernel_rfl) (by kernel_rfl) (fun _ _ _ h => h) (by assumption) ?_
    simp only [Act.put, List.setIfInBounds_toArray, List.set_cons_zero, List.set_cons_succ]
    refine tk_off (i := 9) (some 42) (by kernel_rfl) (by kernel_rfl) (by kernel_rfl) (by kernel_rfl) (fun _ _ _ h => h) (by assumption) ?_
    simp only [Act.put, List.setIfInBounds_toArray, List.set_cons_zero, List.set_cons_succ]
    refine tk_off (i := 10) (some 43) (by kernel_rfl) (by kernel_rfl) (by kernel_rfl) (by kernel_rfl) (fun _ _ _ h => h) (by assumption) ?_
    simp only [Act.put, List.setIfInBounds_toArray, List.set_cons_zero, List.set_cons_succ]
    refine tk_off (i := 11) (some 44) (by kernel_rfl) (by kernel_rfl) (by kernel_rfl) (by kernel_rfl) (fun _ _ _ h => h) (by assumption) ?_
    simp only [Act.put, List.setIfInBounds_toArray, List.set_cons_zero, List.set_cons_succ]
    refine tk_off (i := 12) (some 45) (by kernel_rfl) (by kernel_rfl) (by kernel_rfl) (by kernel_rfl) (fun _ _ _ h => h) (by assumption) ?_
    simp only [Act.put, List.setIfInBounds_toArray, List.set_cons_zero, List.set_cons_succ]
    refine tk_off (i := 13) (some 46) (by kernel_rfl) (by kernel_rfl) (by kernel_rfl) (by kernel_rfl) (fun _ _ _ h => h) (by assumption) ?_
    simp only [Act.put, List.setIfInBounds_toArray, List.set_cons_zero, List.set_cons_succ]
    refine tk_off (i := 14) (some 47) (by kernel_rfl) (by kernel_rfl) (by kernel_rfl) (by kernel_rfl) (fun _ _ _ h => h) (by assumption) ?_
    simp only [Act.put, List.setIfInBounds_toArray, List.set_cons_zero, List.set_cons_succ]
    refine tk_off (i := 15) (some 48) (by kernel_rfl) (by kernel_rfl) (by kernel_rfl) (by kernel_rfl) (fun _ _ _ h => h) (by assumption) ?_
    simp only [Act.put, List.setIfInBounds_toArray, List.set_cons_zero, List.set_cons_succ]
    refine tk_off (i := 16) (some 49) (by kernel_rfl) (by kernel_rfl) (by kernel_rfl) (by kernel_rfl) (fun _ _ _ h => h) (by assumption) ?_
    simp only [Act.put, List.setIfInBounds_toArray, List.set_cons_zero, List.set_cons_succ]
    refine tk_off (i := 17) (some 50) (by kernel_rfl) (by kernel_rfl) (by kernel_rfl) (by kernel_rfl) (fun _ _ _ h => h) (by assumption) ?_
    simp only [Act.put, List.setIfInBounds_toArray, List.set_cons_zero, List.set_cons_succ]
    refine tk_off (i := 18) (some 51) (by kernel_rfl) (by kernel_rfl) (by kernel_rfl) (by kernel_rfl) (fun _ _ _ h => h) (by assumption) ?_
    simp only [Act.put, List.setIfInBounds_toArray, List.set_cons_zero, List.set_cons_succ]
    refine tk_off (i := 19) (some 52) (by kernel_rfl) (by kernel_rfl) (by kernel_rfl) (by kernel_rfl) (fun _ _ _ h => h) (by assumption) ?_
    simp only [Act.put, List.setIfInBounds_toArray, List.set_cons_zero, List.set_cons_succ]
    refine tk_start [(20, some 53), (21, some 54), (22, some 55)] ?_
    iterate 3
     refine tk_step (v := ?_) (by kernel_rfl) (by kernel_rfl) (fun _ _ _ h => h) (by assumption) (fun o ho w' hSw => ?_) ?_
     rotate_left
     ·simp only [List.getElem?_toArray, List.getElem?_cons_succ, List.getElem?_cons_zero, Option.some.injEq] at ho; subst ho; (try dsimp only at hSw); go_simp; try with_reducible rfl
     simp only [Act.put, List.setIfInBounds_toArray, List.set_cons_zero, List.set_cons_succ]
    refine tk_end ?_
    refine tk_call (i := 23) (by kernel_rfl) (by kernel_rfl) (fun o ho K hK => ?_)
    simp only [List.getElem?_toArray, List.getElem?_cons_succ, List.getElem?_cons_zero, Option.some.injEq] at ho
    subst ho
    have c11 := bs.at 1 11 rfl rfl
    have f11 := bs.fz 1 11 rfl rfl
    go_simp
    clear c11 f11
    obtain ⟨w7, hw7, y7, bs⟩ := bs.sets 1 11 [.bool false] rfl (Nat.le_of_ble_eq_true rfl)
    replace o_m := o_m.sets 1 rfl hw7
    replace q := bs.q
    simp only [World.setCells] at hw7
    rw [hw7]
    clear hHeld
    refine hK.out _ _ ⟨bs.at 1 0 rfl rfl, bs.at 1 10 rfl rfl⟩ (fun hHeld => ?_)
    clear hK K
    refine wpAnyH_done (by kernel_rfl) ?_ _
    clear hHeld
    have c_u0 := bs.at 1 0 rfl rfl
    have c_u1 := bs.at 1 1 rfl rfl
    have c_u2 := bs.at 1 2 rfl rfl
    have c_u3 := bs.at 1 3 rfl rfl
    have c_u4 := bs.at 1 4 rfl rfl
    have c_u5 := bs.at 1 5 rfl rfl
    have c_u6 := bs.at 1 6 rfl rfl
    have c_u7 := bs.at 1 7 rfl rfl
    have c_u8 := bs.at 1 8 rfl rfl
    have c_u9 := bs.at 1 9 rfl rfl
    have c_u10 := bs.at 1 10 rfl rfl
    have c_u11 := bs.at 1 11 rfl rfl
    go_wp2_with fail
    clear c_u0 c_u1 c_u2 c_u3 c_u4 c_u5 c_u6 c_u7 c_u8 c_u9 c_u10 c_u11
    go_wp2_with fail
    go_ret2
    refine ⟨q, .inr ⟨HMAY.out, w2.heap.size, a, c, Kt, (it0, (none, 0)), rfl, HK.out, (was_not HCH.out hT).symm, .inl rfl, ?_⟩⟩
    have hle := (bs.bx _ (List.mem_of_getElem? (i := 1) rfl)).2
    have hLx : (M.map Prod.fst).length = L0 := by rw [List.length_map, HLL.out]
    rw [hLx, HN.out, hT]
    refine ⟨o_m.own, fun e => o_m.1.2 _ e (List.mem_of_getElem? (i := 1) rfl), fun q hq e => (o_m.2 q hq).2 _ e (List.mem_of_getElem? (i := 1) rfl), bs.box 1 rfl, hle⟩
end Go.Proofs.YtfonkblbgadhmaaGreatDoor
