/- roster.Set, Drop. PRINTED BY PROGRAM (gen_ropa.py). -/
import Derived.Test.YtfonkblbgadhmaaGreatDoorRoMy
import Derived.Test.YtfonkblbgadhmaaGreatDoorRoRc
namespace Go.Proofs.YtfonkblbgadhmaaGreatDoor
open Go.RowKit Go.Lib

theorem ro_of_bad (v : Value) (ver : Int) (M : List Im) (t : List UInt8) (w : World) (hv : IsItems v M w) (hs : SmallI M) (hm : ML w) (zt : t.length ≤ 10000) (hmay : mayR (M.map Prod.fst) ver = false) :
  Calls Tryz.prog 49 #[.agg #[v, .int .i64 ver], .string ⟨t.toArray⟩] w (Ret w (.tuple #[.pointer none, .int .i64 8])) := by
 refine (ro_of v ver M t w hv hs hm zt).mono ?_
 rintro e w' ⟨hb, ⟨-, rfl⟩ | ⟨h, -⟩⟩
 ·exact ⟨rfl, hb⟩
 ·rw [hmay] at h; cases h
/-- a roster under way, at a contact. -/
def OfOk (w : World) (L : List It) (ver : Int) (t : List UInt8) (e : Ending) (w' : World) : Prop := Below w.heap.size w w' ∧ ∃ (U : Nat) (v : Value) (M : List Im) (p : Im), e = .returned (.tuple #[.pointer (some ⟨U, 0, none⟩), .int .i64 0]) ∧ M.map Prod.fst = L ∧ p.1 = wasL L t ∧
 (p = (it0, (none, 0)) ∨ p ∈ M) ∧ UnS w.heap.size U v M ver p (posL L t) (thereL L t) w'
theorem ro_of_ok (v : Value) (ver : Int) (M : List Im) (t : List UInt8) (w : World) (hv : IsItems v M w) (hs : SmallI M) (hm : ML w) (zt : t.length ≤ 10000) (hmay : mayR (M.map Prod.fst) ver = true) :
  Calls Tryz.prog 49 #[.agg #[v, .int .i64 ver], .string ⟨t.toArray⟩] w (OfOk w (M.map Prod.fst) ver t) := by
 refine (ro_of v ver M t w hv hs hm zt).mono ?_
 rintro e w' ⟨hb, ⟨h, -⟩ | ⟨-, U, a, c, K, p, h1, h2, h3, h4, h5⟩⟩
 ·rw [hmay] at h; cases h
 ·exact ⟨hb, U, _, K, p, h1, h2, h3, h4, h5⟩
/-- where it stands. -/
theorem pos_facts {L : List It} {M : List Im} {t : List UInt8} (h : M.map Prod.fst = L) : posL L t ≤ M.length ∧ (thereL L t = true → posL L t < M.length) := by
 have hl : M.length = L.length := by rw [← h, List.length_map]
 refine ⟨by rw [hl]; exact posL_le L t, fun ht => ?_⟩
 obtain ⟨hp, _⟩ := there_drop ht
 omega
theorem adr_pr (t : List UInt8) (h : t.length ≤ 10000) : ∃ X Y Z : ByteArray, ∀ w, ML w → Calls Tryz.prog 50 #[.string ⟨t.toArray⟩] w (Ret w (.tuple #[.agg #[.string X, .string Y, .string Z], .bool (adrOk t)])) :=
 ⟨_, _, _, fun w hm => ro_address ⟨t.toArray⟩ w (by rw [← size_toList]; exact h) hm⟩
theorem put_ok {w0 : World} {U : Nat} {v : Value} {M : List Im} {ver : Int} {p : Im} {n : Nat} {th : Bool} {x : Im} {w w' : World} {e : Ending} (h : PutIs w0 U v M ver p n th x w e w') (hc : (th || decide (M.length < 16)) = true) :
  e = .returned (.int .i64 0) ∧ ∃ v', Mv w0 U v M v' (putI M n th x) w w' ∧ Ur w0 U v' (putI M n th x) ver p n th w' ∧ ∀ ad, U ∈ ad → (∀ a ∈ ad, a < w.heap.size) → OwnX w0 ad v M w → OwX w0 ad 9 1 (gvI x) x.1.g.length (strV x.1.g) w → OwnX w0 ad v' (putI M n th x) w' := by
 rcases h with ⟨h1, _⟩ | ⟨_, h2, h3⟩
 ·rw [hc] at h1; cases h1
 ·exact ⟨h2, h3⟩
theorem put_full {w0 : World} {U : Nat} {v : Value} {M : List Im} {ver : Int} {p : Im} {n : Nat} {th : Bool} {x : Im} {w w' : World} {e : Ending} (h : PutIs w0 U v M ver p n th x w e w') (hc : (th || decide (M.length < 16)) = false) : e = .returned (.int .i64 9) ∧ Below w.heap.size w w' := by
 rcases h with ⟨_, h2, h3⟩ | ⟨h1, _⟩
 ·exact ⟨h2, h3⟩
 ·rw [hc] at h1; cases h1
set_option maxHeartbeats 3000000 in
set_option maxRecDepth 100000 in
theorem ro_Set (v : Value) (ver : Int) (M : List Im) (t n : List UInt8) (vg : Value) (g : List (List UInt8)) (w : World) (hv : IsItems v M w) (hs : SmallI M) (hm : ML w) (hg : IsGrp vg g w) (zt : t.length ≤ 10000) (zn : n.length ≤ 10000) (zg : g.length ≤ 1000) (zx : ∀ x ∈ g, x.length ≤ 10000) :
  Calls Tryz.prog 22 #[.agg #[v, .int .i64 ver], .string ⟨t.toArray⟩, .string ⟨n.toArray⟩, vg] w (RosC w (setP (M.map Prod.fst) ver t n g).1 (setP (M.map Prod.fst) ver t n g).2 (setC (M.map Prod.fst) ver t n g)) := by
 obtain ⟨a0, cap0, hf, -⟩ := hv.form
 obtain ⟨L0, hL⟩ : ∃ L, M.length = L := ⟨_, rfl⟩
 rw [hL] at hf
 subst hf
 have HM := Lib.hid hm
 obtain ⟨-, ag, cg, rfl, -⟩ := id hg
 unfold setP setC
 cases hmay : mayR (M.map Prod.fst) ver with
 | false =>
  have CO := Lib.hid (fun (w' : World) (hb : Below w.heap.size w w') => ro_of_bad (.slice a0 L0 cap0) ver M t w' (hv.ret hb) hs (hm.ret hb) zt hmay)
  simp only [Bool.false_eq_true, if_false, if_neg (show ¬ (8 : Int) = 0 by decide)]
  clear hv hs hm hg hmay zt zn zg zx hL
  obtain ⟨W0, hW, y0, bs⟩ := Sx.start2 w [.slice a0 L0 cap0, .int .i64 ver] 24 [.slice none 0 0, .int .i64 0] 24
  have HW := Lib.hid hW
  clear hW
  have q := bs.q
  go_enter Tryz.func22, Tryz.ntmps22
  go_wp2_with fail
  rw [HW.out]
  refine (CO.out W0 q).mono ?_
  rintro e w1 ⟨rfl, hb⟩
  replace bs := bs.ret hb
  replace q := bs.q
  clear hb
  have c_z0 := bs.at 1 0 rfl rfl
  have f_z0 := bs.fz 1 0 rfl rfl
  have c_z1 := bs.at 1 1 rfl rfl
  have f_z1 := bs.fz 1 1 rfl rfl
  go_wp2_with fail
  clear c_z0 f_z0 c_z1 f_z1
  obtain ⟨w2, hw2, y2, bs⟩ := bs.sets 1 0 [.slice none 0 0, .int .i64 0] rfl (Nat.le_of_ble_eq_true rfl)
  replace q := bs.q
  simp only [World.setCells, Nat.reduceAdd] at hw2
  rw [hw2]
  refine bodyPost_ret (ret_r2 rfl rfl rfl (bs.box 1 rfl)) rfl (RosC.zero q)
 | true =>
  have CO := Lib.hid (fun (w' : World) (hb : Below w.heap.size w w') => ro_of_ok (.slice a0 L0 cap0) ver M t w' (hv.ret hb) hs (hm.ret hb) zt hmay)
  obtain ⟨hall, hch, hl16, hv0, hv1⟩ := may_facts21 hmay
  rw [List.length_map, hL] at hl16 ⊢
  obtain ⟨X, Y, Z, CA⟩ := adr_pr t zt
  have CW := fun (w' : World) (hb : Below w.heap.size w w') => ro_words ⟨n.toArray⟩ (.slice ag g.length cg) g w' (by rw [← size_toList]; exact zn) (hg.ret hb) zg zx
  simp only at CW
  have HG := Lib.hid hg
  have HLL := Lib.hid hL
  have HL16 := Lib.hid hl16
  have HV0 := Lib.hid hv0
  have HV1 := Lib.hid hv1
  have ZG := Lib.hid zg
  have HPUT : Hid (thereL (M.map Prod.fst) t = thereL (M.map Prod.fst) t) := Lib.hid rfl
  obtain ⟨th, hT⟩ : ∃ th, thereL (M.map Prod.fst) t = th := ⟨_, rfl⟩
  rw [hT]
  have HTH := Lib.hid hT
  simp only [if_true]
  clear hv hs hm hg hmay zt zn zg zx hL hall hch hl16 hv0 hv1 HPUT hT
  cases hA : adrOk t with
  | false =>
   rw [hA] at CA
   have CA := Lib.hid CA
   simp only [Bool.false_and, Bool.false_eq_true, if_false, if_neg (show ¬ (2 : Int) = 0 by decide)]
   clear CW hA
   obtain ⟨W0, hW, y0, bs⟩ := Sx.start2 w [.slice a0 L0 cap0, .int .i64 ver] 24 [.slice none 0 0, .int .i64 0] 24
   have HW := Lib.hid hW
   clear hW
   have q := bs.q
   go_enter Tryz.func22, Tryz.ntmps22
   go_wp2_with fail
   rw [HW.out]
   refine (CO.out W0 q).mono ?_
   rintro e w1 ⟨hb, U, v1, M1, p, rfl, hM1, hp, hpm, hun⟩
   have o_m := hun.ownX bs
   have bs1 := bs.join hb hun.bx hun.le
   have hUle := Nat.le_trans bs.q.size hun.le
   have HP := Lib.hid hp
   have HM1 := Lib.hid hM1
   have HPM := Lib.hid hpm
   have HUL := Lib.hid hUle
   have hpf := pos_facts (t := t) hM1
   have hml : M1.length = L0 := by have := congrArg List.length hM1; simpa [HLL.out] using this
   clear bs q hb hun hUle hp hM1 hpm
   have bs := bs1
   have q := bs.q
   clear bs1
   obtain ⟨kk, hkk⟩ : ∃ kk, posL (M.map Prod.fst) t = kk := ⟨_, rfl⟩
   rw [hkk] at bs hpf
   have hth := HTH.out
   rw [hth] at bs hpf
   have HPF := Lib.hid hpf
   have HML := Lib.hid hml
   have HKK := Lib.hid hkk
   clear hpf hml hkk hth
   go_wp2_with fail
   refine (CA.out w1 (HM.out.ret q)).mono ?_
   rintro e w2 ⟨rfl, hb⟩
   replace o_m := o_m.ret hb
   replace bs := bs.ret hb
   replace q := bs.q
   clear hb
   have d0 := (bs.lit (w2.heap.size) rfl [.string X, .string Y, .string Z] 85)
   have c0_z0 := d0.at 1 0 rfl rfl
   have f0_z0 := d0.fz 1 0 rfl rfl
   have c0_z1 := d0.at 1 1 rfl rfl
   have f0_z1 := d0.fz 1 1 rfl rfl
   go_wp2_with fail
   clear d0 c0_z0 f0_z0 c0_z1 f0_z1
   obtain ⟨w3, hw3, y3, al, bs⟩ := bs.alloc (w2.heap.size) rfl [.string X, .string Y, .string Z] 85
   replace o_m := o_m.alloc (w2.heap.size) rfl al
   clear al
   obtain ⟨w4, hw4, y4, bs⟩ := bs.sets 1 0 [.slice none 0 0, .int .i64 0] rfl (Nat.le_of_ble_eq_true rfl)
   replace o_m := o_m.sets 1 rfl hw4
   replace q := bs.q
   rw [hw3]
   simp only [World.setCells, Nat.reduceAdd] at hw4
   rw [hw4]
   refine bodyPost_ret (ret_r2 rfl rfl rfl (bs.box 1 rfl)) rfl (RosC.zero q)
  | true =>
   rw [hA] at CA
   have CA := Lib.hid CA
   cases hB : wordsP n g with
   | false =>
    rw [hB] at CW
    have CW := Lib.hid CW
    simp only [Bool.and_false, Bool.false_eq_true, if_false, if_neg (show ¬ (2 : Int) = 0 by decide)]
    clear hA hB
    obtain ⟨W0, hW, y0, bs⟩ := Sx.start2 w [.slice a0 L0 cap0, .int .i64 ver] 24 [.slice none 0 0, .int .i64 0] 24
    have HW := Lib.hid hW
    clear hW
    have q := bs.q
    go_enter Tryz.func22, Tryz.ntmps22
    go_wp2_with fail
    rw [HW.out]
    refine (CO.out W0 q).mono ?_
    rintro e w1 ⟨hb, U, v1, M1, p, rfl, hM1, hp, hpm, hun⟩
    have o_m := hun.ownX bs
    have bs1 := bs.join hb hun.bx hun.le
    have hUle := Nat.le_trans bs.q.size hun.le
    have HP := Lib.hid hp
    have HM1 := Lib.hid hM1
    have HPM := Lib.hid hpm
    have HUL := Lib.hid hUle
    have hpf := pos_facts (t := t) hM1
    have hml : M1.length = L0 := by have := congrArg List.length hM1; simpa [HLL.out] using this
    clear bs q hb hun hUle hp hM1 hpm
    have bs := bs1
    have q := bs.q
    clear bs1
    obtain ⟨kk, hkk⟩ : ∃ kk, posL (M.map Prod.fst) t = kk := ⟨_, rfl⟩
    rw [hkk] at bs hpf
    have hth := HTH.out
    rw [hth] at bs hpf
    have HPF := Lib.hid hpf
    have HML := Lib.hid hml
    have HKK := Lib.hid hkk
    clear hpf hml hkk hth
    go_wp2_with fail
    refine (CA.out w1 (HM.out.ret q)).mono ?_
    rintro e w2 ⟨rfl, hb⟩
    replace o_m := o_m.ret hb
    replace bs := bs.ret hb
    replace q := bs.q
    clear hb
    go_wp2_with fail
    obtain ⟨w3, hw3, y3, al, bs⟩ := bs.alloc (w2.heap.size) rfl [.string X, .string Y, .string Z] 85
    replace o_m := o_m.alloc (w2.heap.size) rfl al
    clear al
    replace q := bs.q
    rw [hw3]
    refine (CW.out w3 q).mono ?_
    rintro e w4 ⟨rfl, hb⟩
    replace o_m := o_m.ret hb
    replace bs := bs.ret hb
    replace q := bs.q
    clear hb
    have c_z0 := bs.at 1 0 rfl rfl
    have f_z0 := bs.fz 1 0 rfl rfl
    have c_z1 := bs.at 1 1 rfl rfl
    have f_z1 := bs.fz 1 1 rfl rfl
    go_wp2_with fail
    clear c_z0 f_z0 c_z1 f_z1
    obtain ⟨w5, hw5, y5, bs⟩ := bs.sets 1 0 [.slice none 0 0, .int .i64 0] rfl (Nat.le_of_ble_eq_true rfl)
    replace o_m := o_m.sets 1 rfl hw5
    replace q := bs.q
    simp only [World.setCells, Nat.reduceAdd] at hw5
    rw [hw5]
    refine bodyPost_ret (ret_r2 rfl rfl rfl (bs.box 1 rfl)) rfl (RosC.zero q)
   | true =>
    rw [hB] at CW
    have CW := Lib.hid CW
    simp only [Bool.and_self, if_true]
    clear hA hB
    cases hc16 : (th || decide (L0 < 16)) with
    | false =>
     have HC16 := Lib.hid hc16
     simp only [Bool.false_eq_true, if_false, if_neg (show ¬ (9 : Int) = 0 by decide)]
     clear hc16
     obtain ⟨W0, hW, y0, bs⟩ := Sx.start2 w [.slice a0 L0 cap0, .int .i64 ver] 24 [.slice none 0 0, .int .i64 0] 24
     have HW := Lib.hid hW
     clear hW
     have q := bs.q
     go_enter Tryz.func22, Tryz.ntmps22
     go_wp2_with fail
     rw [HW.out]
     refine (CO.out W0 q).mono ?_
     rintro e w1 ⟨hb, U, v1, M1, p, rfl, hM1, hp, hpm, hun⟩
     have o_m := hun.ownX bs
     have bs1 := bs.join hb hun.bx hun.le
     have hUle := Nat.le_trans bs.q.size hun.le
     have HP := Lib.hid hp
     have HM1 := Lib.hid hM1
     have HPM := Lib.hid hpm
     have HUL := Lib.hid hUle
     have hpf := pos_facts (t := t) hM1
     have hml : M1.length = L0 := by have := congrArg List.length hM1; simpa [HLL.out] using this
     clear bs q hb hun hUle hp hM1 hpm
     have bs := bs1
     have q := bs.q
     clear bs1
     obtain ⟨kk, hkk⟩ : ∃ kk, posL (M.map Prod.fst) t = kk := ⟨_, rfl⟩
     rw [hkk] at bs hpf
     have hth := HTH.out
     rw [hth] at bs hpf
     have HPF := Lib.hid hpf
     have HML := Lib.hid hml
     have HKK := Lib.hid hkk
     clear hpf hml hkk hth
     go_wp2_with fail
     refine (CA.out w1 (HM.out.ret q)).mono ?_
     rintro e w2 ⟨rfl, hb⟩
     replace o_m := o_m.ret hb
     replace bs := bs.ret hb
     replace q := bs.q
     clear hb
     go_wp2_with fail
     obtain ⟨w3, hw3, y3, al, bs⟩ := bs.alloc (w2.heap.size) rfl [.string X, .string Y, .string Z] 85
     replace o_m := o_m.alloc (w2.heap.size) rfl al
     clear al
     replace q := bs.q
     rw [hw3]
     refine (CW.out w3 q).mono ?_
     rintro e w4 ⟨rfl, hb⟩
     replace o_m := o_m.ret hb
     replace bs := bs.ret hb
     replace q := bs.q
     clear hb
     go_wp2_with fail
     replace o_m := o_m.ret (Below.drew (Below.refl _ _))
     replace bs := bs.ret (Below.drew (Below.refl _ _))
     replace q := bs.q
     have y5 : w4.drew.heap.size = w4.heap.size := rfl
     refine wp_region_held_drew (S := fun w' => w'.cell? ⟨U, 5, none⟩ = some (.bool p.1.s.1) ∧ w'.cell? ⟨U, 6, none⟩ = some (.bool p.1.s.2.1) ∧ w'.cell? ⟨U, 7, none⟩ = some (.bool p.1.s.2.2.1) ∧ w'.cell? ⟨U, 8, none⟩ = some (.bool p.1.s.2.2.2)) (by kernel_rfl) ⟨bs.at 2 5 rfl rfl, bs.at 2 6 rfl rfl, bs.at 2 7 rfl rfl, bs.at 2 8 rfl rfl⟩ (fun hHeld => ?_)
     generalize w4.drew = w5 at bs o_m q y5 hHeld ⊢
     refine tk_start [(0, some 39), (1, some 40), (2, some 41), (3, some 42), (5, some 44), (6, some 45), (7, some 46), (8, some 47), (9, some 48)] ?_
     iterate 9
      refine tk_step (v := ?_) (by kernel_rfl) (by kernel_rfl) (fun _ _ _ h => h) (by assumption) (fun o ho w' hSw => ?_) ?_
      rotate_left
      ·simp only [List.getElem?_toArray, List.getElem?_cons_succ, List.getElem?_cons_zero, Option.some.injEq] at ho; subst ho; (try dsimp only at hSw); go_simp; try with_reducible rfl
      simp only [Act.put, List.setIfInBounds_toArray, List.set_cons_zero, List.set_cons_succ]
     refine tk_end ?_
     refine tk_call (i := 4) (by kernel_rfl) (by kernel_rfl) (fun o ho K hK => ?_)
     simp only [List.getElem?_toArray, List.getElem?_cons_succ, List.getElem?_cons_zero, Option.some.injEq] at ho
     subst ho
     go_simp
     refine ((sl_CloneS (.slice ag g.length cg) g w5 (HG.out.ret q) (by have := ZG.out; omega))).mono ?_
     rintro e w6 ⟨ag2, cg2, rfl, hgo, hb⟩
     have o_g := OwX.mk' bs hgo
     replace o_m := o_m.ret hb
     replace bs := bs.ret hb
     replace q := bs.q
     clear hb
     clear hgo
     go_simp
     clear hHeld
     refine hK.out _ _ ⟨bs.at 2 5 rfl rfl, bs.at 2 6 rfl rfl, bs.at 2 7 rfl rfl, bs.at 2 8 rfl rfl⟩ (fun hHeld => ?_)
     clear hK K
     refine tk_on (i := 10) (some 49) (v := ?_) (by kernel_rfl) (by kernel_rfl) (by kernel_rfl) (by kernel_rfl) (fun _ _ _ h => h) (by assumption) (fun o ho w' hSw => ?_) ?_
     rotate_left
     ·(simp only [List.getElem?_toArray, List.getElem?_cons_succ, List.getElem?_cons_zero, Option.some.injEq] at ho; subst ho; (try dsimp only at hSw); go_simp; try with_reducible rfl)
     simp only [Act.put, List.setIfInBounds_toArray, List.set_cons_zero, List.set_cons_succ]
     refine tk_call (i := 11) (by kernel_rfl) (by kernel_rfl) (fun o ho K hK => ?_)
     simp only [List.getElem?_toArray, List.getElem?_cons_succ, List.getElem?_cons_zero, Option.some.injEq] at ho
     subst ho
     go_simp
     have ur : Ur w U v1 M1 ver p kk th w6 := ⟨bs.box 2 rfl, o_m.sub (by simp), HUL.out⟩
     refine (ro_put w U v1 M1 ver p kk th (((t, n, g, p.1.s, true), (ag2, cg2)) : Im) w6 ur (o_g.sub (by simp)) HPF.out.1 HPF.out.2 (by have := HML.out; have := HL16.out; omega)).mono ?_
     rintro e w7 hput
     obtain ⟨rfl, hb⟩ := put_full hput (by rw [HML.out]; exact HC16.out)
     replace o_m := o_m.ret hb
     replace o_g := o_g.ret hb
     replace bs := bs.ret hb
     replace q := bs.q
     clear hb hput ur
     go_simp
     clear hHeld
     refine hK.out _ _ ⟨bs.at 2 5 rfl rfl, bs.at 2 6 rfl rfl, bs.at 2 7 rfl rfl, bs.at 2 8 rfl rfl⟩ (fun hHeld => ?_)
     clear hK K
     refine tk_on (i := 12) (some 14) (v := ?_) (by kernel_rfl) (by kernel_rfl) (by kernel_rfl) (by kernel_rfl) (fun _ _ _ h => h) (by assumption) (fun o ho w' hSw => ?_) ?_
     rotate_left
     ·(simp only [List.getElem?_toArray, List.getElem?_cons_succ, List.getElem?_cons_zero, Option.some.injEq] at ho; subst ho; (try dsimp only at hSw); go_simp; try with_reducible rfl)
     simp only [Act.put, List.setIfInBounds_toArray, List.set_cons_zero, List.set_cons_succ]
     refine wpAnyH_done (by kernel_rfl) ?_ _
     clear hHeld
     have c_z0 := bs.at 1 0 rfl rfl
     have f_z0 := bs.fz 1 0 rfl rfl
     have c_z1 := bs.at 1 1 rfl rfl
     have f_z1 := bs.fz 1 1 rfl rfl
     go_wp2_with fail
     clear c_z0 f_z0 c_z1 f_z1
     obtain ⟨w8, hw8, y8, bs⟩ := bs.sets 1 0 [.slice none 0 0, .int .i64 0] rfl (Nat.le_of_ble_eq_true rfl)
     replace o_m := o_m.sets 1 rfl hw8
     replace o_g := o_g.sets 1 rfl hw8
     replace q := bs.q
     simp only [World.setCells, Nat.reduceAdd] at hw8
     rw [hw8]
     refine bodyPost_ret (ret_r2 rfl rfl rfl (bs.box 1 rfl)) rfl (RosC.zero q)
    | true =>
     have HC16 := Lib.hid hc16
     simp only [if_true]
     clear hc16
     obtain ⟨W0, hW, y0, bs⟩ := Sx.start2 w [.slice a0 L0 cap0, .int .i64 ver] 24 [.slice none 0 0, .int .i64 0] 24
     have HW := Lib.hid hW
     clear hW
     have q := bs.q
     go_enter Tryz.func22, Tryz.ntmps22
     go_wp2_with fail
     rw [HW.out]
     refine (CO.out W0 q).mono ?_
     rintro e w1 ⟨hb, U, v1, M1, p, rfl, hM1, hp, hpm, hun⟩
     have o_m := hun.ownX bs
     have bs1 := bs.join hb hun.bx hun.le
     have hUle := Nat.le_trans bs.q.size hun.le
     have HP := Lib.hid hp
     have HM1 := Lib.hid hM1
     have HPM := Lib.hid hpm
     have HUL := Lib.hid hUle
     have hpf := pos_facts (t := t) hM1
     have hml : M1.length = L0 := by have := congrArg List.length hM1; simpa [HLL.out] using this
     clear bs q hb hun hUle hp hM1 hpm
     have bs := bs1
     have q := bs.q
     clear bs1
     obtain ⟨kk, hkk⟩ : ∃ kk, posL (M.map Prod.fst) t = kk := ⟨_, rfl⟩
     rw [hkk] at bs hpf
     have hth := HTH.out
     rw [hth] at bs hpf
     have HPF := Lib.hid hpf
     have HML := Lib.hid hml
     have HKK := Lib.hid hkk
     clear hpf hml hkk hth
     go_wp2_with fail
     refine (CA.out w1 (HM.out.ret q)).mono ?_
     rintro e w2 ⟨rfl, hb⟩
     replace o_m := o_m.ret hb
     replace bs := bs.ret hb
     replace q := bs.q
     clear hb
     go_wp2_with fail
     obtain ⟨w3, hw3, y3, al, bs⟩ := bs.alloc (w2.heap.size) rfl [.string X, .string Y, .string Z] 85
     replace o_m := o_m.alloc (w2.heap.size) rfl al
     clear al
     replace q := bs.q
     rw [hw3]
     refine (CW.out w3 q).mono ?_
     rintro e w4 ⟨rfl, hb⟩
     replace o_m := o_m.ret hb
     replace bs := bs.ret hb
     replace q := bs.q
     clear hb
     go_wp2_with fail
     replace o_m := o_m.ret (Below.drew (Below.refl _ _))
     replace bs := bs.ret (Below.drew (Below.refl _ _))
     replace q := bs.q
     have y5 : w4.drew.heap.size = w4.heap.size := rfl
     refine wp_region_held_drew (S := fun w' => w'.cell? ⟨U, 5, none⟩ = some (.bool p.1.s.1) ∧ w'.cell? ⟨U, 6, none⟩ = some (.bool p.1.s.2.1) ∧ w'.cell? ⟨U, 7, none⟩ = some (.bool p.1.s.2.2.1) ∧ w'.cell? ⟨U, 8, none⟩ = some (.bool p.1.s.2.2.2)) (by kernel_rfl) ⟨bs.at 2 5 rfl rfl, bs.at 2 6 rfl rfl, bs.at 2 7 rfl rfl, bs.at 2 8 rfl rfl⟩ (fun hHeld => ?_)
     generalize w4.drew = w5 at bs o_m q y5 hHeld ⊢
     refine tk_start [(0, some 39), (1, some 40), (2, some 41), (3, some 42), (5, some 44), (6, some 45), (7, some 46), (8, some 47), (9, some 48)] ?_
     iterate 9
      refine tk_step (v := ?_) (by kernel_rfl) (by kernel_rfl) (fun _ _ _ h => h) (by assumption) (fun o ho w' hSw => ?_) ?_
      rotate_left
      ·simp only [List.getElem?_toArray, List.getElem?_cons_succ, List.getElem?_cons_zero, Option.some.injEq] at ho; subst ho; (try dsimp only at hSw); go_simp; try with_reducible rfl
      simp only [Act.put, List.setIfInBounds_toArray, List.set_cons_zero, List.set_cons_succ]
     refine tk_end ?_
     refine tk_call (i := 4) (by kernel_rfl) (by kernel_rfl) (fun o ho K hK => ?_)
     simp only [List.getElem?_toArray, List.getElem?_cons_succ, List.getElem?_cons_zero, Option.some.injEq] at ho
     subst ho
     go_simp
     refine ((sl_CloneS (.slice ag g.length cg) g w5 (HG.out.ret q) (by have := ZG.out; omega))).mono ?_
     rintro e w6 ⟨ag2, cg2, rfl, hgo, hb⟩
     have o_g := OwX.mk' bs hgo
     replace o_m := o_m.ret hb
     replace bs := bs.ret hb
     replace q := bs.q
     clear hb
     clear hgo
     go_simp
     clear hHeld
     refine hK.out _ _ ⟨bs.at 2 5 rfl rfl, bs.at 2 6 rfl rfl, bs.at 2 7 rfl rfl, bs.at 2 8 rfl rfl⟩ (fun hHeld => ?_)
     clear hK K
     refine tk_on (i := 10) (some 49) (v := ?_) (by kernel_rfl) (by kernel_rfl) (by kernel_rfl) (by kernel_rfl) (fun _ _ _ h => h) (by assumption) (fun o ho w' hSw => ?_) ?_
     rotate_left
     ·(simp only [List.getElem?_toArray, List.getElem?_cons_succ, List.getElem?_cons_zero, Option.some.injEq] at ho; subst ho; (try dsimp only at hSw); go_simp; try with_reducible rfl)
     simp only [Act.put, List.setIfInBounds_toArray, List.set_cons_zero, List.set_cons_succ]
     refine tk_call (i := 11) (by kernel_rfl) (by kernel_rfl) (fun o ho K hK => ?_)
     simp only [List.getElem?_toArray, List.getElem?_cons_succ, List.getElem?_cons_zero, Option.some.injEq] at ho
     subst ho
     go_simp
     have ur : Ur w U v1 M1 ver p kk th w6 := ⟨bs.box 2 rfl, o_m.sub (by simp), HUL.out⟩
     refine ((ro_put w U v1 M1 ver p kk th (((t, n, g, p.1.s, true), (ag2, cg2)) : Im) w6 ur (o_g.sub (by simp)) HPF.out.1 HPF.out.2 (by have := HML.out; have := HL16.out; omega))).mono ?_
     rintro e w7 hput
     obtain ⟨rfl, v2, mv, ur1, cl⟩ := put_ok hput (by rw [HML.out]; exact HC16.out)
     clear hput ur
     have hof := cl _ (by simp) bs.ltm o_m o_g
     have bs1 := bs.turned 2 rfl mv (fun g hg => o_m.1.2 g hg) ur1.bx
     clear bs o_m q cl ur1 mv o_g
     have bs := bs1
     have q := bs.q
     have o_m := hof
     clear bs1 hof
     obtain ⟨MM, hMM⟩ : ∃ MM, putI M1 kk th (((t, n, g, p.1.s, true), (ag2, cg2)) : Im) = MM := ⟨_, rfl⟩
     rw [hMM] at o_m
     have HMM := Lib.hid hMM
     clear hMM
     go_simp
     clear hHeld
     refine hK.out _ _ ⟨bs.at 2 5 rfl rfl, bs.at 2 6 rfl rfl, bs.at 2 7 rfl rfl, bs.at 2 8 rfl rfl⟩ (fun hHeld => ?_)
     clear hK K
     refine tk_on (i := 12) (some 14) (v := ?_) (by kernel_rfl) (by kernel_rfl) (by kernel_rfl) (by kernel_rfl) (fun _ _ _ h => h) (by assumption) (fun o ho w' hSw => ?_) ?_
     rotate_left
     ·(simp only [List.getElem?_toArray, List.getElem?_cons_succ, List.getElem?_cons_zero, Option.some.injEq] at ho; subst ho; (try dsimp only at hSw); go_simp; try with_reducible rfl)
     simp only [Act.put, List.setIfInBounds_toArray, List.set_cons_zero, List.set_cons_succ]
     refine wpAnyH_done (by kernel_rfl) ?_ _
     clear hHeld
     go_wp2_with fail
     have ur : Ur w U v2 MM ver p kk th w7 := ⟨bs.box 2 rfl, o_m.sub (by simp), HUL.out⟩
     refine ((ro_pushed w U v2 MM ver p kk th w7 ur HV0.out HV1.out)).mono ?_
     rintro e w8 ⟨rfl, mv, ur1, cl⟩
     clear ur
     have hof := cl _ (by simp) o_m
     have bs1 := bs.turned 2 rfl mv (fun g hg => o_m.1.2 g hg) ur1.bx
     clear bs o_m q cl ur1 mv
     have bs := bs1
     have q := bs.q
     have o_m := hof
     clear bs1 hof
     obtain ⟨a2, c2, rfl, -⟩ := row_form o_m.1.1
     have c_u0 := bs.at 2 0 rfl rfl
     have c_u1 := bs.at 2 1 rfl rfl
     have c_u2 := bs.at 2 2 rfl rfl
     have c_u3 := bs.at 2 3 rfl rfl
     have c_u4 := bs.at 2 4 rfl rfl
     have c_u5 := bs.at 2 5 rfl rfl
     have c_u6 := bs.at 2 6 rfl rfl
     have c_u7 := bs.at 2 7 rfl rfl
     have c_u8 := bs.at 2 8 rfl rfl
     have c_u9 := bs.at 2 9 rfl rfl
     have c_u10 := bs.at 2 10 rfl rfl
     have c_u11 := bs.at 2 11 rfl rfl
     have c_z0 := bs.at 1 0 rfl rfl
     have f_z0 := bs.fz 1 0 rfl rfl
     have c_z1 := bs.at 1 1 rfl rfl
     have f_z1 := bs.fz 1 1 rfl rfl
     go_wp2_with fail
     clear c_u0 c_u1 c_u2 c_u3 c_u4 c_u5 c_u6 c_u7 c_u8 c_u9 c_u10 c_u11 c_z0 f_z0 c_z1 f_z1
     obtain ⟨w9, hw9, y9, bs⟩ := bs.sets 1 0 [.slice a2 MM.length c2, .int .i64 (nextV ver)] rfl (Nat.le_of_ble_eq_true rfl)
     replace o_m := o_m.sets 1 rfl hw9
     replace q := bs.q
     have hfin : MM.map Prod.fst = putL (M.map Prod.fst) (setI (M.map Prod.fst) t n g) := by
      have h := map_putI M1 (((t, n, g, p.1.s, true), (ag2, cg2)) : Im) t rfl
      rw [HM1.out, HKK.out, HTH.out, HMM.out] at h
      rw [h, HP.out]
     have hfl : (putL (M.map Prod.fst) (setI (M.map Prod.fst) t n g)).length = MM.length := by rw [← hfin, List.length_map]
     simp only [World.setCells, Nat.reduceAdd] at hw9
     rw [hw9]
     refine bodyPost_ret (ret_r2 rfl rfl rfl (bs.box 1 rfl)) rfl ⟨a2, c2, by rw [hfl]; rfl, MM, hfin, by rw [hfl]; exact o_m.own, q⟩
set_option maxHeartbeats 3000000 in
set_option maxRecDepth 100000 in
theorem ro_Drop (v : Value) (ver : Int) (M : List Im) (t : List UInt8) (w : World) (hv : IsItems v M w) (hs : SmallI M) (hm : ML w) (zt : t.length ≤ 10000) :
  Calls Tryz.prog 24 #[.agg #[v, .int .i64 ver], .string ⟨t.toArray⟩] w (DroC w (dropP (M.map Prod.fst) ver t).1 (dropP (M.map Prod.fst) ver t).2.1 (dropP (M.map Prod.fst) ver t).2.2 (dropC (M.map Prod.fst) ver t)) := by
 obtain ⟨a0, cap0, hf, -⟩ := hv.form
 obtain ⟨L0, hL⟩ : ∃ L, M.length = L := ⟨_, rfl⟩
 rw [hL] at hf
 subst hf
 have HM := Lib.hid hm
 unfold dropP dropC
 cases hmay : mayR (M.map Prod.fst) ver with
 | false =>
  have CO := Lib.hid (fun (w' : World) (hb : Below w.heap.size w w') => ro_of_bad (.slice a0 L0 cap0) ver M t w' (hv.ret hb) hs (hm.ret hb) zt hmay)
  simp only [Bool.false_eq_true, if_false, if_neg (show ¬ (8 : Int) = 0 by decide)]
  clear hv hs hm hmay zt hL
  obtain ⟨W0, hW, y0, bs⟩ := Sx.start3 w [.slice a0 L0 cap0, .int .i64 ver] 24 [.slice none 0 0, .int .i64 0] 24 [.string ⟨#[]⟩, .string ⟨#[]⟩, .slice none 0 0, .bool false, .bool false, .bool false, .bool false, .bool false] 31
  have HW := Lib.hid hW
  clear hW
  have q := bs.q
  go_enter Tryz.func24, Tryz.ntmps24
  go_wp2_with fail
  rw [HW.out]
  refine (CO.out W0 q).mono ?_
  rintro e w1 ⟨rfl, hb⟩
  replace bs := bs.ret hb
  replace q := bs.q
  clear hb
  go_wp2_with fail
  replace bs := bs.ret (Below.drew (Below.refl _ _))
  replace q := bs.q
  have y2 : w1.drew.heap.size = w1.heap.size := rfl
  refine wp_region_held_drew (S := fun w' => w'.cell? ⟨w.heap.size + 1, 0, none⟩ = some (.slice none 0 0) ∧ w'.cell? ⟨w.heap.size + 1, 1, none⟩ = some (.int .i64 0) ∧ w'.cell? ⟨w.heap.size + 2, 0, none⟩ = some (.string ⟨#[]⟩) ∧ w'.cell? ⟨w.heap.size + 2, 1, none⟩ = some (.string ⟨#[]⟩) ∧ w'.cell? ⟨w.heap.size + 2, 2, none⟩ = some (.slice none 0 0) ∧ w'.cell? ⟨w.heap.size + 2, 3, none⟩ = some (.bool false) ∧ w'.cell? ⟨w.heap.size + 2, 4, none⟩ = some (.bool false) ∧ w'.cell? ⟨w.heap.size + 2, 5, none⟩ = some (.bool false) ∧ w'.cell? ⟨w.heap.size + 2, 6, none⟩ = some (.bool false) ∧ w'.cell? ⟨w.heap.size + 2, 7, none⟩ = some (.bool false)) (by kernel_rfl) ⟨bs.at 1 0 rfl rfl, bs.at 1 1 rfl rfl, bs.at 2 0 rfl rfl, bs.at 2 1 rfl rfl, bs.at 2 2 rfl rfl, bs.at 2 3 rfl rfl, bs.at 2 4 rfl rfl, bs.at 2 5 rfl rfl, bs.at 2 6 rfl rfl, bs.at 2 7 rfl rfl⟩ (fun hHeld => ?_)
  generalize w1.drew = w2 at bs q y2 hHeld ⊢
  refine tk_start [(0, some 16), (1, some 17), (2, some 18)] ?_
  iterate 3
   refine tk_step (v := ?_) (by kernel_rfl) (by kernel_rfl) (fun _ _ _ h => h) (by assumption) (fun o ho w' hSw => ?_) ?_
   rotate_left
   ·simp only [List.getElem?_toArray, List.getElem?_cons_succ, List.getElem?_cons_zero, Option.some.injEq] at ho; subst ho; (try dsimp only at hSw); go_simp; try with_reducible rfl
   simp only [Act.put, List.setIfInBounds_toArray, List.set_cons_zero, List.set_cons_succ]
  refine tk_end ?_
  refine tk_call (i := 3) (by kernel_rfl) (by kernel_rfl) (fun o ho K hK => ?_)
  simp only [List.getElem?_toArray, List.getElem?_cons_succ, List.getElem?_cons_zero, Option.some.injEq] at ho
  subst ho
  have c_z0 := bs.at 1 0 rfl rfl
  have f_z0 := bs.fz 1 0 rfl rfl
  have c_z1 := bs.at 1 1 rfl rfl
  have f_z1 := bs.fz 1 1 rfl rfl
  go_simp
  clear c_z0 f_z0 c_z1 f_z1
  obtain ⟨w3, hw3, y3, bs⟩ := bs.sets 1 0 [.slice none 0 0, .int .i64 0] rfl (Nat.le_of_ble_eq_true rfl)
  replace q := bs.q
  simp only [World.setCells, Nat.reduceAdd] at hw3
  rw [hw3]
  clear hHeld
  refine hK.out _ _ ⟨bs.at 1 0 rfl rfl, bs.at 1 1 rfl rfl, bs.at 2 0 rfl rfl, bs.at 2 1 rfl rfl, bs.at 2 2 rfl rfl, bs.at 2 3 rfl rfl, bs.at 2 4 rfl rfl, bs.at 2 5 rfl rfl, bs.at 2 6 rfl rfl, bs.at 2 7 rfl rfl⟩ (fun hHeld => ?_)
  clear hK K
  refine tk_call (i := 4) (by kernel_rfl) (by kernel_rfl) (fun o ho K hK => ?_)
  simp only [List.getElem?_toArray, List.getElem?_cons_succ, List.getElem?_cons_zero, Option.some.injEq] at ho
  subst ho
  have c_y0 := bs.at 2 0 rfl rfl
  have f_y0 := bs.fz 2 0 rfl rfl
  have c_y1 := bs.at 2 1 rfl rfl
  have f_y1 := bs.fz 2 1 rfl rfl
  have c_y2 := bs.at 2 2 rfl rfl
  have f_y2 := bs.fz 2 2 rfl rfl
  have c_y3 := bs.at 2 3 rfl rfl
  have f_y3 := bs.fz 2 3 rfl rfl
  have c_y4 := bs.at 2 4 rfl rfl
  have f_y4 := bs.fz 2 4 rfl rfl
  have c_y5 := bs.at 2 5 rfl rfl
  have f_y5 := bs.fz 2 5 rfl rfl
  have c_y6 := bs.at 2 6 rfl rfl
  have f_y6 := bs.fz 2 6 rfl rfl
  have c_y7 := bs.at 2 7 rfl rfl
  have f_y7 := bs.fz 2 7 rfl rfl
  go_simp
  clear c_y0 f_y0 c_y1 f_y1 c_y2 f_y2 c_y3 f_y3 c_y4 f_y4 c_y5 f_y5 c_y6 f_y6 c_y7 f_y7
  obtain ⟨w4, hw4, y4, bs⟩ := bs.sets 2 0 [.string ⟨#[]⟩, .string ⟨#[]⟩, .slice none 0 0, .bool false, .bool false, .bool false, .bool false, .bool false] rfl (Nat.le_of_ble_eq_true rfl)
  replace q := bs.q
  simp only [World.setCells, Nat.reduceAdd] at hw4
  rw [hw4]
  clear hHeld
  refine hK.out _ _ ⟨bs.at 1 0 rfl rfl, bs.at 1 1 rfl rfl, bs.at 2 0 rfl rfl, bs.at 2 1 rfl rfl, bs.at 2 2 rfl rfl, bs.at 2 3 rfl rfl, bs.at 2 4 rfl rfl, bs.at 2 5 rfl rfl, bs.at 2 6 rfl rfl, bs.at 2 7 rfl rfl⟩ (fun hHeld => ?_)
  clear hK K
  refine tk_on (i := 5) (some 6) (v := ?_) (by kernel_rfl) (by kernel_rfl) (by kernel_rfl) (by kernel_rfl) (fun _ _ _ h => h) (by assumption) (fun o ho w' hSw => ?_) ?_
  rotate_left
  ·(simp only [List.getElem?_toArray, List.getElem?_cons_succ, List.getElem?_cons_zero, Option.some.injEq] at ho; subst ho; (try dsimp only at hSw); go_simp; try with_reducible rfl)
  simp only [Act.put, List.setIfInBounds_toArray, List.set_cons_zero, List.set_cons_succ]
  refine wpAnyH_done (by kernel_rfl) ?_ _
  clear hHeld
  go_wp2_with fail
  refine bodyPost_ret (ret_r3 rfl rfl rfl rfl (bs.box 1 rfl) (bs.box 2 rfl)) rfl (DroC.zero q)
 | true =>
  have CO := Lib.hid (fun (w' : World) (hb : Below w.heap.size w w') => ro_of_ok (.slice a0 L0 cap0) ver M t w' (hv.ret hb) hs (hm.ret hb) zt hmay)
  obtain ⟨hall, hch, hl16, hv0, hv1⟩ := may_facts21 hmay
  rw [List.length_map, hL] at hl16
  have HLL := Lib.hid hL
  have HL16 := Lib.hid hl16
  have HV0 := Lib.hid hv0
  have HV1 := Lib.hid hv1
  have hwg := (was_may (t := t) hmay).2.2.1
  have WG := Lib.hid hwg
  simp only [if_true]
  clear hv hs hm hmay zt hL hall hch hl16 hv0 hv1 hwg
  cases hT : thereL (M.map Prod.fst) t with
  | false =>
   have HTH := Lib.hid hT
   simp only [Bool.false_and, Bool.false_eq_true, if_false, if_neg (show ¬ (6 : Int) = 0 by decide)]
   clear hT
   obtain ⟨W0, hW, y0, bs⟩ := Sx.start3 w [.slice a0 L0 cap0, .int .i64 ver] 24 [.slice none 0 0, .int .i64 0] 24 [.string ⟨#[]⟩, .string ⟨#[]⟩, .slice none 0 0, .bool false, .bool false, .bool false, .bool false, .bool false] 31
   have HW := Lib.hid hW
   clear hW
   have q := bs.q
   go_enter Tryz.func24, Tryz.ntmps24
   go_wp2_with fail
   rw [HW.out]
   refine (CO.out W0 q).mono ?_
   rintro e w1 ⟨hb, U, v1, M1, p, rfl, hM1, hp, hpm, hun⟩
   have o_m := hun.ownX bs
   have bs1 := bs.join hb hun.bx hun.le
   have hUle := Nat.le_trans bs.q.size hun.le
   have HP := Lib.hid hp
   have HM1 := Lib.hid hM1
   have HPM := Lib.hid hpm
   have HUL := Lib.hid hUle
   have hpf := pos_facts (t := t) hM1
   have hml : M1.length = L0 := by have := congrArg List.length hM1; simpa [HLL.out] using this
   clear bs q hb hun hUle hp hM1 hpm
   have bs := bs1
   have q := bs.q
   clear bs1
   obtain ⟨kk, hkk⟩ : ∃ kk, posL (M.map Prod.fst) t = kk := ⟨_, rfl⟩
   rw [hkk] at bs hpf
   have hth := HTH.out
   rw [hth] at bs hpf
   have HPF := Lib.hid hpf
   have HML := Lib.hid hml
   have HKK := Lib.hid hkk
   clear hpf hml hkk hth
   have c_u0 := bs.at 3 0 rfl rfl
   have c_u1 := bs.at 3 1 rfl rfl
   have c_u2 := bs.at 3 2 rfl rfl
   have c_u3 := bs.at 3 3 rfl rfl
   have c_u4 := bs.at 3 4 rfl rfl
   have c_u5 := bs.at 3 5 rfl rfl
   have c_u6 := bs.at 3 6 rfl rfl
   have c_u7 := bs.at 3 7 rfl rfl
   have c_u8 := bs.at 3 8 rfl rfl
   have c_u9 := bs.at 3 9 rfl rfl
   have c_u10 := bs.at 3 10 rfl rfl
   have c_u11 := bs.at 3 11 rfl rfl
   go_wp2_with fail
   clear c_u0 c_u1 c_u2 c_u3 c_u4 c_u5 c_u6 c_u7 c_u8 c_u9 c_u10 c_u11
   replace o_m := o_m.ret (Below.drew (Below.refl _ _))
   replace bs := bs.ret (Below.drew (Below.refl _ _))
   replace q := bs.q
   have y2 : w1.drew.heap.size = w1.heap.size := rfl
   refine wp_region_held_drew (S := fun w' => w'.cell? ⟨w.heap.size + 1, 0, none⟩ = some (.slice none 0 0) ∧ w'.cell? ⟨w.heap.size + 1, 1, none⟩ = some (.int .i64 0) ∧ w'.cell? ⟨w.heap.size + 2, 0, none⟩ = some (.string ⟨#[]⟩) ∧ w'.cell? ⟨w.heap.size + 2, 1, none⟩ = some (.string ⟨#[]⟩) ∧ w'.cell? ⟨w.heap.size + 2, 2, none⟩ = some (.slice none 0 0) ∧ w'.cell? ⟨w.heap.size + 2, 3, none⟩ = some (.bool false) ∧ w'.cell? ⟨w.heap.size + 2, 4, none⟩ = some (.bool false) ∧ w'.cell? ⟨w.heap.size + 2, 5, none⟩ = some (.bool false) ∧ w'.cell? ⟨w.heap.size + 2, 6, none⟩ = some (.bool false) ∧ w'.cell? ⟨w.heap.size + 2, 7, none⟩ = some (.bool false)) (by kernel_rfl) ⟨bs.at 1 0 rfl rfl, bs.at 1 1 rfl rfl, bs.at 2 0 rfl rfl, bs.at 2 1 rfl rfl, bs.at 2 2 rfl rfl, bs.at 2 3 rfl rfl, bs.at 2 4 rfl rfl, bs.at 2 5 rfl rfl, bs.at 2 6 rfl rfl, bs.at 2 7 rfl rfl⟩ (fun hHeld => ?_)
   generalize w1.drew = w2 at bs o_m q y2 hHeld ⊢
   refine tk_start [(0, some 32), (1, some 33)] ?_
   iterate 2
    refine tk_step (v := ?_) (by kernel_rfl) (by kernel_rfl) (fun _ _ _ h => h) (by assumption) (fun o ho w' hSw => ?_) ?_
    rotate_left
    ·simp only [List.getElem?_toArray, List.getElem?_cons_succ, List.getElem?_cons_zero, Option.some.injEq] at ho; subst ho; (try dsimp only at hSw); go_simp; try with_reducible rfl
    simp only [Act.put, List.setIfInBounds_toArray, List.set_cons_zero, List.set_cons_succ]
   refine tk_end ?_
   refine tk_call (i := 2) (by kernel_rfl) (by kernel_rfl) (fun o ho K hK => ?_)
   simp only [List.getElem?_toArray, List.getElem?_cons_succ, List.getElem?_cons_zero, Option.some.injEq] at ho
   subst ho
   have c_z0 := bs.at 1 0 rfl rfl
   have f_z0 := bs.fz 1 0 rfl rfl
   have c_z1 := bs.at 1 1 rfl rfl
   have f_z1 := bs.fz 1 1 rfl rfl
   go_simp
   clear c_z0 f_z0 c_z1 f_z1
   obtain ⟨w3, hw3, y3, bs⟩ := bs.sets 1 0 [.slice none 0 0, .int .i64 0] rfl (Nat.le_of_ble_eq_true rfl)
   replace o_m := o_m.sets 1 rfl hw3
   replace q := bs.q
   simp only [World.setCells, Nat.reduceAdd] at hw3
   rw [hw3]
   clear hHeld
   refine hK.out _ _ ⟨bs.at 1 0 rfl rfl, bs.at 1 1 rfl rfl, bs.at 2 0 rfl rfl, bs.at 2 1 rfl rfl, bs.at 2 2 rfl rfl, bs.at 2 3 rfl rfl, bs.at 2 4 rfl rfl, bs.at 2 5 rfl rfl, bs.at 2 6 rfl rfl, bs.at 2 7 rfl rfl⟩ (fun hHeld => ?_)
   clear hK K
   refine tk_call (i := 3) (by kernel_rfl) (by kernel_rfl) (fun o ho K hK => ?_)
   simp only [List.getElem?_toArray, List.getElem?_cons_succ, List.getElem?_cons_zero, Option.some.injEq] at ho
   subst ho
   have c_y0 := bs.at 2 0 rfl rfl
   have f_y0 := bs.fz 2 0 rfl rfl
   have c_y1 := bs.at 2 1 rfl rfl
   have f_y1 := bs.fz 2 1 rfl rfl
   have c_y2 := bs.at 2 2 rfl rfl
   have f_y2 := bs.fz 2 2 rfl rfl
   have c_y3 := bs.at 2 3 rfl rfl
   have f_y3 := bs.fz 2 3 rfl rfl
   have c_y4 := bs.at 2 4 rfl rfl
   have f_y4 := bs.fz 2 4 rfl rfl
   have c_y5 := bs.at 2 5 rfl rfl
   have f_y5 := bs.fz 2 5 rfl rfl
   have c_y6 := bs.at 2 6 rfl rfl
   have f_y6 := bs.fz 2 6 rfl rfl
   have c_y7 := bs.at 2 7 rfl rfl
   have f_y7 := bs.fz 2 7 rfl rfl
   go_simp
   clear c_y0 f_y0 c_y1 f_y1 c_y2 f_y2 c_y3 f_y3 c_y4 f_y4 c_y5 f_y5 c_y6 f_y6 c_y7 f_y7
   obtain ⟨w4, hw4, y4, bs⟩ := bs.sets 2 0 [.string ⟨#[]⟩, .string ⟨#[]⟩, .slice none 0 0, .bool false, .bool false, .bool false, .bool false, .bool false] rfl (Nat.le_of_ble_eq_true rfl)
   replace o_m := o_m.sets 2 rfl hw4
   replace q := bs.q
   simp only [World.setCells, Nat.reduceAdd] at hw4
   rw [hw4]
   clear hHeld
   refine hK.out _ _ ⟨bs.at 1 0 rfl rfl, bs.at 1 1 rfl rfl, bs.at 2 0 rfl rfl, bs.at 2 1 rfl rfl, bs.at 2 2 rfl rfl, bs.at 2 3 rfl rfl, bs.at 2 4 rfl rfl, bs.at 2 5 rfl rfl, bs.at 2 6 rfl rfl, bs.at 2 7 rfl rfl⟩ (fun hHeld => ?_)
   clear hK K
   refine tk_on (i := 4) (some 6) (v := ?_) (by kernel_rfl) (by kernel_rfl) (by kernel_rfl) (by kernel_rfl) (fun _ _ _ h => h) (by assumption) (fun o ho w' hSw => ?_) ?_
   rotate_left
   ·(simp only [List.getElem?_toArray, List.getElem?_cons_succ, List.getElem?_cons_zero, Option.some.injEq] at ho; subst ho; (try dsimp only at hSw); go_simp; try with_reducible rfl)
   simp only [Act.put, List.setIfInBounds_toArray, List.set_cons_zero, List.set_cons_succ]
   refine wpAnyH_done (by kernel_rfl) ?_ _
   clear hHeld
   go_wp2_with fail
   refine bodyPost_ret (ret_r3 rfl rfl rfl rfl (bs.box 1 rfl) (bs.box 2 rfl)) rfl (DroC.zero q)
  | true =>
   have HTH := Lib.hid hT
   clear hT
   cases hK : (wasL (M.map Prod.fst) t).k with
   | false =>
    have HK := Lib.hid hK
    simp only [Bool.and_false, Bool.false_eq_true, if_false, if_neg (show ¬ (6 : Int) = 0 by decide)]
    clear hK
    obtain ⟨W0, hW, y0, bs⟩ := Sx.start3 w [.slice a0 L0 cap0, .int .i64 ver] 24 [.slice none 0 0, .int .i64 0] 24 [.string ⟨#[]⟩, .string ⟨#[]⟩, .slice none 0 0, .bool false, .bool false, .bool false, .bool false, .bool false] 31
    have HW := Lib.hid hW
    clear hW
    have q := bs.q
    go_enter Tryz.func24, Tryz.ntmps24
    go_wp2_with fail
    rw [HW.out]
    refine (CO.out W0 q).mono ?_
    rintro e w1 ⟨hb, U, v1, M1, p, rfl, hM1, hp, hpm, hun⟩
    have o_m := hun.ownX bs
    have bs1 := bs.join hb hun.bx hun.le
    have hUle := Nat.le_trans bs.q.size hun.le
    have HP := Lib.hid hp
    have HM1 := Lib.hid hM1
    have HPM := Lib.hid hpm
    have HUL := Lib.hid hUle
    have hpf := pos_facts (t := t) hM1
    have hml : M1.length = L0 := by have := congrArg List.length hM1; simpa [HLL.out] using this
    clear bs q hb hun hUle hp hM1 hpm
    have bs := bs1
    have q := bs.q
    clear bs1
    obtain ⟨kk, hkk⟩ : ∃ kk, posL (M.map Prod.fst) t = kk := ⟨_, rfl⟩
    rw [hkk] at bs hpf
    have hth := HTH.out
    rw [hth] at bs hpf
    have HPF := Lib.hid hpf
    have HML := Lib.hid hml
    have HKK := Lib.hid hkk
    clear hpf hml hkk hth
    have hpk : p.1.k = false := by rw [HP.out]; exact HK.out
    have c_u0 := bs.at 3 0 rfl rfl
    have c_u1 := bs.at 3 1 rfl rfl
    have c_u2 := bs.at 3 2 rfl rfl
    have c_u3 := bs.at 3 3 rfl rfl
    have c_u4 := bs.at 3 4 rfl rfl
    have c_u5 := bs.at 3 5 rfl rfl
    have c_u6 := bs.at 3 6 rfl rfl
    have c_u7 := bs.at 3 7 rfl rfl
    have c_u8 := bs.at 3 8 rfl rfl
    have c_u9 := bs.at 3 9 rfl rfl
    have c_u10 := bs.at 3 10 rfl rfl
    have c_u11 := bs.at 3 11 rfl rfl
    go_wp2_with fail
    clear c_u0 c_u1 c_u2 c_u3 c_u4 c_u5 c_u6 c_u7 c_u8 c_u9 c_u10 c_u11
    replace o_m := o_m.ret (Below.drew (Below.refl _ _))
    replace bs := bs.ret (Below.drew (Below.refl _ _))
    replace q := bs.q
    have y2 : w1.drew.heap.size = w1.heap.size := rfl
    refine wp_region_held_drew (S := fun w' => w'.cell? ⟨w.heap.size + 1, 0, none⟩ = some (.slice none 0 0) ∧ w'.cell? ⟨w.heap.size + 1, 1, none⟩ = some (.int .i64 0) ∧ w'.cell? ⟨w.heap.size + 2, 0, none⟩ = some (.string ⟨#[]⟩) ∧ w'.cell? ⟨w.heap.size + 2, 1, none⟩ = some (.string ⟨#[]⟩) ∧ w'.cell? ⟨w.heap.size + 2, 2, none⟩ = some (.slice none 0 0) ∧ w'.cell? ⟨w.heap.size + 2, 3, none⟩ = some (.bool false) ∧ w'.cell? ⟨w.heap.size + 2, 4, none⟩ = some (.bool false) ∧ w'.cell? ⟨w.heap.size + 2, 5, none⟩ = some (.bool false) ∧ w'.cell? ⟨w.heap.size + 2, 6, none⟩ = some (.bool false) ∧ w'.cell? ⟨w.heap.size + 2, 7, none⟩ = some (.bool false)) (by kernel_rfl) ⟨bs.at 1 0 rfl rfl, bs.at 1 1 rfl rfl, bs.at 2 0 rfl rfl, bs.at 2 1 rfl rfl, bs.at 2 2 rfl rfl, bs.at 2 3 rfl rfl, bs.at 2 4 rfl rfl, bs.at 2 5 rfl rfl, bs.at 2 6 rfl rfl, bs.at 2 7 rfl rfl⟩ (fun hHeld => ?_)
    generalize w1.drew = w2 at bs o_m q y2 hHeld ⊢
    refine tk_start [(0, some 32), (1, some 33)] ?_
    iterate 2
     refine tk_step (v := ?_) (by kernel_rfl) (by kernel_rfl) (fun _ _ _ h => h) (by assumption) (fun o ho w' hSw => ?_) ?_
     rotate_left
     ·simp only [List.getElem?_toArray, List.getElem?_cons_succ, List.getElem?_cons_zero, Option.some.injEq] at ho; subst ho; (try dsimp only at hSw); go_simp; try with_reducible rfl
     simp only [Act.put, List.setIfInBounds_toArray, List.set_cons_zero, List.set_cons_succ]
    refine tk_end ?_
    refine tk_call (i := 2) (by kernel_rfl) (by kernel_rfl) (fun o ho K hK => ?_)
    simp only [List.getElem?_toArray, List.getElem?_cons_succ, List.getElem?_cons_zero, Option.some.injEq] at ho
    subst ho
    have c_z0 := bs.at 1 0 rfl rfl
    have f_z0 := bs.fz 1 0 rfl rfl
    have c_z1 := bs.at 1 1 rfl rfl
    have f_z1 := bs.fz 1 1 rfl rfl
    go_simp
    clear c_z0 f_z0 c_z1 f_z1
    obtain ⟨w3, hw3, y3, bs⟩ := bs.sets 1 0 [.slice none 0 0, .int .i64 0] rfl (Nat.le_of_ble_eq_true rfl)
    replace o_m := o_m.sets 1 rfl hw3
    replace q := bs.q
    simp only [World.setCells, Nat.reduceAdd] at hw3
    rw [hw3]
    clear hHeld
    refine hK.out _ _ ⟨bs.at 1 0 rfl rfl, bs.at 1 1 rfl rfl, bs.at 2 0 rfl rfl, bs.at 2 1 rfl rfl, bs.at 2 2 rfl rfl, bs.at 2 3 rfl rfl, bs.at 2 4 rfl rfl, bs.at 2 5 rfl rfl, bs.at 2 6 rfl rfl, bs.at 2 7 rfl rfl⟩ (fun hHeld => ?_)
    clear hK K
    refine tk_call (i := 3) (by kernel_rfl) (by kernel_rfl) (fun o ho K hK => ?_)
    simp only [List.getElem?_toArray, List.getElem?_cons_succ, List.getElem?_cons_zero, Option.some.injEq] at ho
    subst ho
    have c_y0 := bs.at 2 0 rfl rfl
    have f_y0 := bs.fz 2 0 rfl rfl
    have c_y1 := bs.at 2 1 rfl rfl
    have f_y1 := bs.fz 2 1 rfl rfl
    have c_y2 := bs.at 2 2 rfl rfl
    have f_y2 := bs.fz 2 2 rfl rfl
    have c_y3 := bs.at 2 3 rfl rfl
    have f_y3 := bs.fz 2 3 rfl rfl
    have c_y4 := bs.at 2 4 rfl rfl
    have f_y4 := bs.fz 2 4 rfl rfl
    have c_y5 := bs.at 2 5 rfl rfl
    have f_y5 := bs.fz 2 5 rfl rfl
    have c_y6 := bs.at 2 6 rfl rfl
    have f_y6 := bs.fz 2 6 rfl rfl
    have c_y7 := bs.at 2 7 rfl rfl
    have f_y7 := bs.fz 2 7 rfl rfl
    go_simp
    clear c_y0 f_y0 c_y1 f_y1 c_y2 f_y2 c_y3 f_y3 c_y4 f_y4 c_y5 f_y5 c_y6 f_y6 c_y7 f_y7
    obtain ⟨w4, hw4, y4, bs⟩ := bs.sets 2 0 [.string ⟨#[]⟩, .string ⟨#[]⟩, .slice none 0 0, .bool false, .bool false, .bool false, .bool false, .bool false] rfl (Nat.le_of_ble_eq_true rfl)
    replace o_m := o_m.sets 2 rfl hw4
    replace q := bs.q
    simp only [World.setCells, Nat.reduceAdd] at hw4
    rw [hw4]
    clear hHeld
    refine hK.out _ _ ⟨bs.at 1 0 rfl rfl, bs.at 1 1 rfl rfl, bs.at 2 0 rfl rfl, bs.at 2 1 rfl rfl, bs.at 2 2 rfl rfl, bs.at 2 3 rfl rfl, bs.at 2 4 rfl rfl, bs.at 2 5 rfl rfl, bs.at 2 6 rfl rfl, bs.at 2 7 rfl rfl⟩ (fun hHeld => ?_)
    clear hK K
    refine tk_on (i := 4) (some 6) (v := ?_) (by kernel_rfl) (by kernel_rfl) (by kernel_rfl) (by kernel_rfl) (fun _ _ _ h => h) (by assumption) (fun o ho w' hSw => ?_) ?_
    rotate_left
    ·(simp only [List.getElem?_toArray, List.getElem?_cons_succ, List.getElem?_cons_zero, Option.some.injEq] at ho; subst ho; (try dsimp only at hSw); go_simp; try with_reducible rfl)
    simp only [Act.put, List.setIfInBounds_toArray, List.set_cons_zero, List.set_cons_succ]
    refine wpAnyH_done (by kernel_rfl) ?_ _
    clear hHeld
    go_wp2_with fail
    refine bodyPost_ret (ret_r3 rfl rfl rfl rfl (bs.box 1 rfl) (bs.box 2 rfl)) rfl (DroC.zero q)
   | true =>
    have HK := Lib.hid hK
    simp only [Bool.and_self, if_true]
    clear hK
    obtain ⟨W0, hW, y0, bs⟩ := Sx.start3 w [.slice a0 L0 cap0, .int .i64 ver] 24 [.slice none 0 0, .int .i64 0] 24 [.string ⟨#[]⟩, .string ⟨#[]⟩, .slice none 0 0, .bool false, .bool false, .bool false, .bool false, .bool false] 31
    have HW := Lib.hid hW
    clear hW
    have q := bs.q
    go_enter Tryz.func24, Tryz.ntmps24
    go_wp2_with fail
    rw [HW.out]
    refine (CO.out W0 q).mono ?_
    rintro e w1 ⟨hb, U, v1, M1, p, rfl, hM1, hp, hpm, hun⟩
    have o_m := hun.ownX bs
    have bs1 := bs.join hb hun.bx hun.le
    have hUle := Nat.le_trans bs.q.size hun.le
    have HP := Lib.hid hp
    have HM1 := Lib.hid hM1
    have HPM := Lib.hid hpm
    have HUL := Lib.hid hUle
    have hpf := pos_facts (t := t) hM1
    have hml : M1.length = L0 := by have := congrArg List.length hM1; simpa [HLL.out] using this
    clear bs q hb hun hUle hp hM1 hpm
    have bs := bs1
    have q := bs.q
    clear bs1
    obtain ⟨kk, hkk⟩ : ∃ kk, posL (M.map Prod.fst) t = kk := ⟨_, rfl⟩
    rw [hkk] at bs hpf
    have hth := HTH.out
    rw [hth] at bs hpf
    have HPF := Lib.hid hpf
    have HML := Lib.hid hml
    have HKK := Lib.hid hkk
    clear hpf hml hkk hth
    have hpk : p.1.k = true := by rw [HP.out]; exact HK.out
    have hpg : IsGrp (gvI p) p.1.g w1 := by
     rcases HPM.out with rfl | h
     ·exact IsGrp.nil _
     ·exact o_m.own.items.2 p h
    have CTW := ro_twin p w1 hpg (by rw [HP.out]; have := WG.out; omega)
    simp only [itA, hpk] at CTW
    clear hpg
    have c_u0 := bs.at 3 0 rfl rfl
    have c_u1 := bs.at 3 1 rfl rfl
    have c_u2 := bs.at 3 2 rfl rfl
    have c_u3 := bs.at 3 3 rfl rfl
    have c_u4 := bs.at 3 4 rfl rfl
    have c_u5 := bs.at 3 5 rfl rfl
    have c_u6 := bs.at 3 6 rfl rfl
    have c_u7 := bs.at 3 7 rfl rfl
    have c_u8 := bs.at 3 8 rfl rfl
    have c_u9 := bs.at 3 9 rfl rfl
    have c_u10 := bs.at 3 10 rfl rfl
    have c_u11 := bs.at 3 11 rfl rfl
    go_wp2_with fail
    refine (CTW).mono ?_
    rintro e w2 ⟨ga, gc, rfl, hgo, hb⟩
    clear c_u0 c_u1 c_u2 c_u3 c_u4 c_u5 c_u6 c_u7 c_u8 c_u9 c_u10 c_u11
    have o_g := OwX.mk' bs hgo
    replace o_m := o_m.ret hb
    replace bs := bs.ret hb
    replace q := bs.q
    clear hb
    clear hgo CTW
    have c_y0 := bs.at 2 0 rfl rfl
    have f_y0 := bs.fz 2 0 rfl rfl
    have c_y1 := bs.at 2 1 rfl rfl
    have f_y1 := bs.fz 2 1 rfl rfl
    have c_y2 := bs.at 2 2 rfl rfl
    have f_y2 := bs.fz 2 2 rfl rfl
    have c_y3 := bs.at 2 3 rfl rfl
    have f_y3 := bs.fz 2 3 rfl rfl
    have c_y4 := bs.at 2 4 rfl rfl
    have f_y4 := bs.fz 2 4 rfl rfl
    have c_y5 := bs.at 2 5 rfl rfl
    have f_y5 := bs.fz 2 5 rfl rfl
    have c_y6 := bs.at 2 6 rfl rfl
    have f_y6 := bs.fz 2 6 rfl rfl
    have c_y7 := bs.at 2 7 rfl rfl
    have f_y7 := bs.fz 2 7 rfl rfl
    go_wp2_with fail
    clear c_y0 f_y0 c_y1 f_y1 c_y2 f_y2 c_y3 f_y3 c_y4 f_y4 c_y5 f_y5 c_y6 f_y6 c_y7 f_y7
    obtain ⟨w3, hw3, y3, bs⟩ := bs.sets 2 0 [.string ⟨p.1.j.toArray⟩, .string ⟨p.1.n.toArray⟩, .slice ga p.1.g.length gc, .bool p.1.s.1, .bool p.1.s.2.1, .bool p.1.s.2.2.1, .bool p.1.s.2.2.2, .bool true] rfl (Nat.le_of_ble_eq_true rfl)
    replace o_m := o_m.sets 2 rfl hw3
    replace o_g := o_g.sets 2 rfl hw3
    replace q := bs.q
    simp only [World.setCells, Nat.reduceAdd] at hw3
    rw [hw3]
    have ur : Ur w U v1 M1 ver p kk true w3 := ⟨bs.box 3 rfl, o_m.sub (by simp), HUL.out⟩
    refine ((ro_gone w U v1 M1 ver p kk true w3 ur (fun _ => HPF.out.2 trivial) (by have := HML.out; have := HL16.out; omega))).mono ?_
    rintro e w4 ⟨rfl, v2, mv, ur1, cl⟩
    clear ur
    have hof := cl _ (by simp) bs.ltm o_m
    have bs1 := bs.turned 3 rfl mv (fun g hg => o_m.1.2 g hg) ur1.bx
    have o_g1 := mv.st _ _ _ _ (by simp) o_g
    clear bs o_m q cl ur1 mv o_g
    have bs := bs1
    have q := bs.q
    have o_m := hof
    have o_g := o_g1
    clear bs1 hof o_g1
    obtain ⟨MM, hMM⟩ : ∃ MM, goneI M1 kk true = MM := ⟨_, rfl⟩
    rw [hMM] at o_m
    have HMM := Lib.hid hMM
    clear hMM
    go_wp2_with fail
    have ur : Ur w U v2 MM ver p kk true w4 := ⟨bs.box 3 rfl, o_m.sub (by simp), HUL.out⟩
    refine ((ro_pushed w U v2 MM ver p kk true w4 ur HV0.out HV1.out)).mono ?_
    rintro e w5 ⟨rfl, mv, ur1, cl⟩
    clear ur
    have hof := cl _ (by simp) o_m
    have bs1 := bs.turned 3 rfl mv (fun g hg => o_m.1.2 g hg) ur1.bx
    have o_g1 := mv.st _ _ _ _ (by simp) o_g
    clear bs o_m q cl ur1 mv o_g
    have bs := bs1
    have q := bs.q
    have o_m := hof
    have o_g := o_g1
    clear bs1 hof o_g1
    obtain ⟨a2, c2, rfl, -⟩ := row_form o_m.1.1
    go_wp2_with fail
    replace o_m := o_m.ret (Below.drew (Below.refl _ _))
    replace o_g := o_g.ret (Below.drew (Below.refl _ _))
    replace bs := bs.ret (Below.drew (Below.refl _ _))
    replace q := bs.q
    have y6 : w5.drew.heap.size = w5.heap.size := rfl
    refine wp_region_held_drew (S := fun w' => w'.cell? ⟨U, 0, none⟩ = some (.slice a2 MM.length c2) ∧ w'.cell? ⟨U, 1, none⟩ = some (.int .i64 (nextV ver)) ∧ w'.cell? ⟨w.heap.size + 2, 0, none⟩ = some (.string ⟨p.1.j.toArray⟩) ∧ w'.cell? ⟨w.heap.size + 2, 1, none⟩ = some (.string ⟨p.1.n.toArray⟩) ∧ w'.cell? ⟨w.heap.size + 2, 2, none⟩ = some (.slice ga p.1.g.length gc) ∧ w'.cell? ⟨w.heap.size + 2, 3, none⟩ = some (.bool p.1.s.1) ∧ w'.cell? ⟨w.heap.size + 2, 4, none⟩ = some (.bool p.1.s.2.1) ∧ w'.cell? ⟨w.heap.size + 2, 5, none⟩ = some (.bool p.1.s.2.2.1) ∧ w'.cell? ⟨w.heap.size + 2, 6, none⟩ = some (.bool p.1.s.2.2.2) ∧ w'.cell? ⟨w.heap.size + 2, 7, none⟩ = some (.bool true)) (by kernel_rfl) ⟨bs.at 3 0 rfl rfl, bs.at 3 1 rfl rfl, bs.at 2 0 rfl rfl, bs.at 2 1 rfl rfl, bs.at 2 2 rfl rfl, bs.at 2 3 rfl rfl, bs.at 2 4 rfl rfl, bs.at 2 5 rfl rfl, bs.at 2 6 rfl rfl, bs.at 2 7 rfl rfl⟩ (fun hHeld => ?_)
    generalize w5.drew = w6 at bs o_m o_g q y6 hHeld ⊢
    refine tk_start [(0, some 43), (1, some 44), (2, some 45), (3, some 46), (4, some 47)] ?_
    iterate 5
     refine tk_step (v := ?_) (by kernel_rfl) (by kernel_rfl) (fun _ _ _ h => h) (by assumption) (fun o ho w' hSw => ?_) ?_
     rotate_left
     ·simp only [List.getElem?_toArray, List.getElem?_cons_succ, List.getElem?_cons_zero, Option.some.injEq] at ho; subst ho; (try dsimp only at hSw); go_simp; try with_reducible rfl
     simp only [Act.put, List.setIfInBounds_toArray, List.set_cons_zero, List.set_cons_succ]
    refine tk_end ?_
    refine tk_call (i := 5) (by kernel_rfl) (by kernel_rfl) (fun o ho K hK => ?_)
    simp only [List.getElem?_toArray, List.getElem?_cons_succ, List.getElem?_cons_zero, Option.some.injEq] at ho
    subst ho
    have c_z0 := bs.at 1 0 rfl rfl
    have f_z0 := bs.fz 1 0 rfl rfl
    have c_z1 := bs.at 1 1 rfl rfl
    have f_z1 := bs.fz 1 1 rfl rfl
    go_simp
    clear c_z0 f_z0 c_z1 f_z1
    obtain ⟨w7, hw7, y7, bs⟩ := bs.sets 1 0 [.slice a2 MM.length c2, .int .i64 (nextV ver)] rfl (Nat.le_of_ble_eq_true rfl)
    replace o_m := o_m.sets 1 rfl hw7
    replace o_g := o_g.sets 1 rfl hw7
    replace q := bs.q
    simp only [World.setCells, Nat.reduceAdd] at hw7
    rw [hw7]
    clear hHeld
    refine hK.out _ _ ⟨bs.at 3 0 rfl rfl, bs.at 3 1 rfl rfl, bs.at 2 0 rfl rfl, bs.at 2 1 rfl rfl, bs.at 2 2 rfl rfl, bs.at 2 3 rfl rfl, bs.at 2 4 rfl rfl, bs.at 2 5 rfl rfl, bs.at 2 6 rfl rfl, bs.at 2 7 rfl rfl⟩ (fun hHeld => ?_)
    clear hK K
    refine tk_call (i := 6) (by kernel_rfl) (by kernel_rfl) (fun o ho K hK => ?_)
    simp only [List.getElem?_toArray, List.getElem?_cons_succ, List.getElem?_cons_zero, Option.some.injEq] at ho
    subst ho
    have c_y0 := bs.at 2 0 rfl rfl
    have f_y0 := bs.fz 2 0 rfl rfl
    have c_y1 := bs.at 2 1 rfl rfl
    have f_y1 := bs.fz 2 1 rfl rfl
    have c_y2 := bs.at 2 2 rfl rfl
    have f_y2 := bs.fz 2 2 rfl rfl
    have c_y3 := bs.at 2 3 rfl rfl
    have f_y3 := bs.fz 2 3 rfl rfl
    have c_y4 := bs.at 2 4 rfl rfl
    have f_y4 := bs.fz 2 4 rfl rfl
    have c_y5 := bs.at 2 5 rfl rfl
    have f_y5 := bs.fz 2 5 rfl rfl
    have c_y6 := bs.at 2 6 rfl rfl
    have f_y6 := bs.fz 2 6 rfl rfl
    have c_y7 := bs.at 2 7 rfl rfl
    have f_y7 := bs.fz 2 7 rfl rfl
    go_simp
    clear c_y0 f_y0 c_y1 f_y1 c_y2 f_y2 c_y3 f_y3 c_y4 f_y4 c_y5 f_y5 c_y6 f_y6 c_y7 f_y7
    obtain ⟨w8, hw8, y8, bs⟩ := bs.sets 2 0 [.string ⟨p.1.j.toArray⟩, .string ⟨p.1.n.toArray⟩, .slice ga p.1.g.length gc, .bool p.1.s.1, .bool p.1.s.2.1, .bool p.1.s.2.2.1, .bool p.1.s.2.2.2, .bool true] rfl (Nat.le_of_ble_eq_true rfl)
    replace o_m := o_m.sets 2 rfl hw8
    replace o_g := o_g.sets 2 rfl hw8
    replace q := bs.q
    simp only [World.setCells, Nat.reduceAdd] at hw8
    rw [hw8]
    clear hHeld
    refine hK.out _ _ ⟨bs.at 3 0 rfl rfl, bs.at 3 1 rfl rfl, bs.at 2 0 rfl rfl, bs.at 2 1 rfl rfl, bs.at 2 2 rfl rfl, bs.at 2 3 rfl rfl, bs.at 2 4 rfl rfl, bs.at 2 5 rfl rfl, bs.at 2 6 rfl rfl, bs.at 2 7 rfl rfl⟩ (fun hHeld => ?_)
    clear hK K
    refine tk_on (i := 7) (some 6) (v := ?_) (by kernel_rfl) (by kernel_rfl) (by kernel_rfl) (by kernel_rfl) (fun _ _ _ h => h) (by assumption) (fun o ho w' hSw => ?_) ?_
    rotate_left
    ·(simp only [List.getElem?_toArray, List.getElem?_cons_succ, List.getElem?_cons_zero, Option.some.injEq] at ho; subst ho; (try dsimp only at hSw); go_simp; try with_reducible rfl)
    simp only [Act.put, List.setIfInBounds_toArray, List.set_cons_zero, List.set_cons_succ]
    refine wpAnyH_done (by kernel_rfl) ?_ _
    clear hHeld
    go_wp2_with fail
    have hfin : MM.map Prod.fst = goneL (M.map Prod.fst) t := by
     have h := map_goneI M1 t
     rw [HM1.out, HKK.out, HTH.out, HMM.out] at h
     exact h
    have hfl : (goneL (M.map Prod.fst) t).length = MM.length := by rw [← hfin, List.length_map]
    refine bodyPost_ret (ret_r3 rfl rfl rfl rfl (bs.box 1 rfl) (bs.box 2 rfl)) rfl ⟨a2, c2, (p.1, (ga, gc)), by rw [hfl, show (Value.bool true) = .bool p.1.k by rw [hpk]]; rfl, HP.out, o_g.1, MM, hfin, by rw [hfl]; exact o_m.own, q⟩
end Go.Proofs.YtfonkblbgadhmaaGreatDoor
