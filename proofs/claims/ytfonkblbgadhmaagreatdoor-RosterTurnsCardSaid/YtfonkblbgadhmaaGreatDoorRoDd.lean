/- the document's asked, Set, Gone, Drop. PRINTED BY PROGRAM (gen_rodd.py). -/
import Derived.Test.YtfonkblbgadhmaaGreatDoorRoDc
import Derived.Test.YtfonkblbgadhmaaGreatDoorGh
import Derived.Lib.AppendZeros
namespace Go.Proofs.YtfonkblbgadhmaaGreatDoor
open Go.RowKit Go.Lib

theorem str_info' : (Tryz.prog.info? 9).map (fun i => (i.zero, i.size, i.bytes)) = some (some (.string ⟨#[]⟩), 1, 16) := by kernel_rfl
/-- append([]string{}, x...): a row of the call's own. -/
theorem app_new (X : World) (gv : Value) (g : List (List UInt8)) (hg : IsGrp gv g X) (hn : g.length ≤ 1000000) :
  ∃ a c w', (∀ ty, (Builtin.append_ #[27, 27] ty #[.slice (some ⟨X.heap.size, 0, none⟩) 0 0, gv]).run Tryz.prog (X.alloc (.cells #[] 9)) = .ok (.slice a g.length c) w') ∧ w'.ownsRow X.heap.size 9 1 (.slice a g.length c) g.length (strV g) ∧ Below X.heap.size X w' := by
 obtain ⟨j0, hj, hy0, hy1, hy2⟩ := info_parts str_info'
 have hrow := IsRow.of_vals hg.1
 rw [strV_len] at hrow
 have h0 := row_empty (size := 1) (e := 9) X (Nat.le_refl _)
 have hr2 := hrow.ret ((Below.refl X.heap.size X).alloc (Nat.le_refl _) (.cells #[] 9))
 have key := fun ty => run_app_row (P := Tryz.prog) (X.alloc (.cells #[] 9)) X.heap.size 27 ty 9 j0 _ 1 16 Tryz.underlying27 hj hy0 hy1 hy2 rfl (by omega) (.slice (some ⟨X.heap.size, 0, none⟩) 0 0) 0 [] h0 gv g.length (strV g) hr2 (strV_one _) (by omega) (by omega) (by simp)
 obtain ⟨v', w', h1, h2, h3⟩ := key 0
 rw [Nat.zero_add, List.nil_append] at h2
 obtain ⟨a, c, rfl, -⟩ := row_form h2
 refine ⟨a, c, w', fun ty => h1, h2, ((Below.refl X.heap.size X).alloc (Nat.le_refl _) (.cells #[] 9)).grown h3 (by simp) (fun k hk => by cases hk; exact Nat.le_refl _)⟩
set_option maxHeartbeats 1000000 in
theorem r21_asked (t : List UInt8) (k : Int) (w : World) (zt : t.length ≤ 10000) :
  Calls Tryz.prog 88 #[.string ⟨t.toArray⟩, .int .u8 k] w (Ret w (.bool (adrOk t && (decide (1 ≤ k) && decide (k ≤ 4))))) := by
 obtain ⟨X, Y, Z, CA⟩ := adr_ex t zt
 obtain ⟨A, hA⟩ : ∃ A, adrOk t = A := ⟨_, rfl⟩
 rw [hA] at CA ⊢
 have CA := Lib.hid CA
 clear hA
 cases A with
 | false =>
  go_enter Tryz.func88, Tryz.ntmps88
  go_wp2_with fail
  refine (CA.out _).mono ?_
  rintro e w1 ⟨rfl, hb⟩
  have q := hb.trans (((Below.refl w1.heap.size w1).alloc (Nat.le_refl _) (.cells #[.string X, .string Y, .string Z] 85)).mono hb.size)
  go_wp2_with fail
  go_ret
  exact ⟨by first | rfl | (simp [*]; done) | (simp [*]; omega), q⟩
 | true =>
  by_cases h1 : 1 ≤ k
  ·by_cases h2 : k ≤ 4
   ·go_enter Tryz.func88, Tryz.ntmps88
    go_wp2_with fail
    refine (CA.out _).mono ?_
    rintro e w1 ⟨rfl, hb⟩
    have q := hb.trans (((Below.refl w1.heap.size w1).alloc (Nat.le_refl _) (.cells #[.string X, .string Y, .string Z] 85)).mono hb.size)
    go_wp2_with fail
    go_ret
    exact ⟨by first | rfl | (simp [*]; done) | (simp [*]; omega), q⟩
   ·go_enter Tryz.func88, Tryz.ntmps88
    go_wp2_with fail
    refine (CA.out _).mono ?_
    rintro e w1 ⟨rfl, hb⟩
    have q := hb.trans (((Below.refl w1.heap.size w1).alloc (Nat.le_refl _) (.cells #[.string X, .string Y, .string Z] 85)).mono hb.size)
    go_wp2_with fail
    go_ret
    exact ⟨by first | rfl | (simp [*]; done) | (simp [*]; omega), q⟩
  ·go_enter Tryz.func88, Tryz.ntmps88
   go_wp2_with fail
   refine (CA.out _).mono ?_
   rintro e w1 ⟨rfl, hb⟩
   have q := hb.trans (((Below.refl w1.heap.size w1).alloc (Nat.le_refl _) (.cells #[.string X, .string Y, .string Z] 85)).mono hb.size)
   go_wp2_with fail
   go_ret
   exact ⟨by first | rfl | (simp [*]; done) | (simp [*]; omega), q⟩
set_option maxHeartbeats 4000000 in
set_option maxRecDepth 100000 in
theorem r21_Set (v : Value) (ver : Int) (M : List Im) (t n : List UInt8) (vg : Value) (g : List (List UInt8)) (w : World) (hv : IsItems v M w) (hs : SmallI M) (hg : IsGrp vg g w) (zt : t.length ≤ 10000) (zn : n.length ≤ 10000) (zg : g.length ≤ 1000) (zx : ∀ x ∈ g, x.length ≤ 10000) :
  Calls Tryz.prog 28 #[.agg #[v, .int .i64 ver], .string ⟨t.toArray⟩, .string ⟨n.toArray⟩, vg] w (RosC w (setP (M.map Prod.fst) ver t n g).1 (setP (M.map Prod.fst) ver t n g).2 (setC (M.map Prod.fst) ver t n g)) := by
 obtain ⟨a0, cap0, hf, -⟩ := hv.form
 obtain ⟨-, ag, cg, rfl, -⟩ := id hg
 obtain ⟨L0, hL⟩ : ∃ L, M.length = L := ⟨_, rfl⟩
 rw [hL] at hf
 subst hf
 have CM := fun (w' : World) (hb : Below w.heap.size w w') => r21_May (.slice a0 L0 cap0) ver M w' (hv.ret hb) hs
 cases hmay : mayR (M.map Prod.fst) ver with
 | false =>
  rw [hmay] at CM
  have CM := Lib.hid CM
  unfold setP setC
  simp only [hmay, Bool.false_eq_true, if_false, if_neg (show ¬ (8 : Int) = 0 by decide)]
  clear hv hg hs hmay zt zn zg zx hL
  obtain ⟨W0, hW, y0, bs⟩ := Sx.start2 w [.slice a0 L0 cap0, .int .i64 ver] 24 [.slice none 0 0, .int .i64 0] 24
  have HW := Lib.hid hW
  clear hW
  have q := bs.q
  go_enter Tryz.func28, Tryz.ntmps28
  go_wp2_with fail
  rw [HW.out]
  refine (CM.out W0 q).mono ?_
  rintro e w1 ⟨rfl, hb⟩
  replace bs := bs.ret hb
  replace q := bs.q
  clear hb
  have c_r0 := bs.at 0 0 rfl rfl
  have c_r1 := bs.at 0 1 rfl rfl
  have c_z0 := bs.at 1 0 rfl rfl
  have f_z0 := bs.fz 1 0 rfl rfl
  have c_z1 := bs.at 1 1 rfl rfl
  have f_z1 := bs.fz 1 1 rfl rfl
  go_wp2_with fail
  clear c_r0 c_r1 c_z0 f_z0 c_z1 f_z1
  obtain ⟨w2, hw2, y2, bs⟩ := bs.sets 1 0 [.slice none 0 0, .int .i64 0] rfl (Nat.le_of_ble_eq_true rfl)
  replace q := bs.q
  simp only [World.setCells, Nat.reduceAdd] at hw2
  rw [hw2]
  refine bodyPost_ret (ret_r2 rfl rfl rfl (bs.box 1 rfl)) rfl (RosC.zero q)
 | true =>
  rw [hmay] at CM
  have CM := Lib.hid CM
  have CP := fun (w' : World) (hb : Below w.heap.size w w') => r21_Put (.slice a0 L0 cap0) ver M t n (.slice ag g.length cg) g w' (hv.ret hb) hs hmay (hg.ret hb) zt zn zg zx
  obtain ⟨R, hR⟩ : ∃ R, (setP (M.map Prod.fst) ver t n g).1 = R := ⟨_, rfl⟩
  obtain ⟨V, hV⟩ : ∃ V, (setP (M.map Prod.fst) ver t n g).2 = V := ⟨_, rfl⟩
  obtain ⟨C, hC⟩ : ∃ C, setC (M.map Prod.fst) ver t n g = C := ⟨_, rfl⟩
  simp only [hR, hV, hC] at CP ⊢
  have CP := Lib.hid CP
  clear hv hg hs hmay zt zn zg zx hL hR hV hC
  obtain ⟨W0, hW, y0, bs⟩ := Sx.start2 w [.slice a0 L0 cap0, .int .i64 ver] 24 [.slice none 0 0, .int .i64 0] 24
  have HW := Lib.hid hW
  clear hW
  have q := bs.q
  go_enter Tryz.func28, Tryz.ntmps28
  go_wp2_with fail
  rw [HW.out]
  refine (CM.out W0 q).mono ?_
  rintro e w1 ⟨rfl, hb⟩
  replace bs := bs.ret hb
  replace q := bs.q
  clear hb
  have c_r0 := bs.at 0 0 rfl rfl
  have c_r1 := bs.at 0 1 rfl rfl
  go_wp2_with fail
  clear c_r0 c_r1
  refine (CP.out w1 q).mono ?_
  rintro e w2 ⟨a2, c2, rfl, K2, hK2, hown, hb⟩
  have o_m := OwnX.mk' bs hown
  replace bs := bs.ret hb
  replace q := bs.q
  clear hb
  clear hown
  have c_z0 := bs.at 1 0 rfl rfl
  have f_z0 := bs.fz 1 0 rfl rfl
  have c_z1 := bs.at 1 1 rfl rfl
  have f_z1 := bs.fz 1 1 rfl rfl
  go_wp2_with fail
  clear c_z0 f_z0 c_z1 f_z1
  obtain ⟨w3, hw3, y3, bs⟩ := bs.sets 1 0 [.slice a2 R.length c2, .int .i64 V] rfl (Nat.le_of_ble_eq_true rfl)
  replace o_m := o_m.sets 1 rfl hw3
  replace q := bs.q
  simp only [World.setCells, Nat.reduceAdd] at hw3
  rw [hw3]
  refine bodyPost_ret (ret_r2 rfl rfl rfl (bs.box 1 rfl)) rfl (⟨a2, c2, rfl, K2, hK2, o_m.own, q⟩)
/-- what is answered: a roster, and a contact, in memory of the call's own, and the error. -/
def DroC (w : World) (L : List It) (ver : Int) (x : It) (code : Int) (e : Ending) (w' : World) : Prop := ∃ a c p, e = .returned (.tuple #[.agg #[.slice a L.length c, .int .i64 ver], itA p, .int .i64 code]) ∧ p.1 = x ∧ w'.ownsRow w.heap.size 9 1 (gvI p) p.1.g.length (strV p.1.g) ∧ OwnR w L (.slice a L.length c) w'
theorem DroC.zero {w w' : World} {code : Int} (hb : Below w.heap.size w w') : DroC w [] 0 it0 code (.returned (.tuple #[.agg #[.slice none 0 0, .int .i64 0], .agg #[.string ⟨#[]⟩, .string ⟨#[]⟩, .slice none 0 0, .bool false, .bool false, .bool false, .bool false, .bool false], .int .i64 code])) w' := ⟨none, 0, (it0, (none, 0)), rfl, rfl, World.ownsRow_nil _ _ _ _, [], rfl, OwnItems.nil _ _, hb⟩
set_option maxHeartbeats 4000000 in
set_option maxRecDepth 100000 in
theorem r21_Gone (v : Value) (ver : Int) (M : List Im) (t : List UInt8) (w : World) (hv : IsItems v M w) (hs : SmallI M) (hmay : mayR (M.map Prod.fst) ver = true) :
  Calls Tryz.prog 59 #[.agg #[v, .int .i64 ver], .string ⟨t.toArray⟩] w (DroC w (dropP (M.map Prod.fst) ver t).1 (dropP (M.map Prod.fst) ver t).2.1 (dropP (M.map Prod.fst) ver t).2.2 (dropC (M.map Prod.fst) ver t)) := by
 obtain ⟨a0, cap0, hf, -⟩ := hv.form
 obtain ⟨L0, hL⟩ : ∃ L, M.length = L := ⟨_, rfl⟩
 rw [hL] at hf
 subst hf
 obtain ⟨hall, hch, hl16, hv0, hv1⟩ := may_facts21 hmay
 rw [List.length_map, hL] at hl16
 have CF := Lib.hid (fun (w' : World) (hb : Below w.heap.size w w') => r21_FindD (.slice a0 L0 cap0) ver M t w hv (by omega) w' hb)
 have hth := find_there (t := t) hch
 unfold dropP dropC
 rw [if_pos hmay]
 have HW0 : Hid (withoutL (M.map Prod.fst) t = goneL (M.map Prod.fst) t) := Lib.hid (without_gone hch)
 have HV := Lib.hid hv
 have HV0 := Lib.hid hv0
 have HV1 := Lib.hid hv1
 have GZ := Lib.hid (fun p hp => (hs.2 p hp).2.2.1)
 have hwg := was_may (t := t) hmay
 have WG : Hid ((wasL (M.map Prod.fst) t).g.length ≤ 4) := Lib.hid hwg.2.2.1
 have LM : Hid (M.length ≤ 16) := Lib.hid (by omega)
 clear hwg
 cases hT : thereL (M.map Prod.fst) t with
 | false =>
  rw [hT] at hth
  have HTH := Lib.hid hth
  have KP : Hid (∀ p : Im, p.1 = wasL (M.map Prod.fst) t → True) := Lib.hid (fun _ _ => trivial)
  simp only [Bool.false_and, Bool.false_eq_true, if_false, if_neg (show ¬ (6 : Int) = 0 by decide)]
  clear hv hs hmay hall hch hth hT hv0 hv1 hL
  obtain ⟨W0, hW, y0, bs⟩ := Sx.start3 w [.slice a0 L0 cap0, .int .i64 ver] 24 [.slice none 0 0, .int .i64 0] 24 [.string ⟨#[]⟩, .string ⟨#[]⟩, .slice none 0 0, .bool false, .bool false, .bool false, .bool false, .bool false] 31
  have HW := Lib.hid hW
  clear hW
  have q := bs.q
  go_enter Tryz.func59, Tryz.ntmps59
  go_wp2_with fail
  rw [HW.out]
  refine (CF.out W0 q).mono ?_
  rintro e w1 ⟨hb, p, rfl, hp, hgp⟩
  replace bs := bs.ret hb
  replace q := bs.q
  clear hb
  rw [HTH.out]
  have HKP := KP.out p hp
  have HP := Lib.hid hp
  clear hp hgp
  have d0 := (bs.lit (w1.heap.size) rfl [.string ⟨p.1.j.toArray⟩, .string ⟨p.1.n.toArray⟩, gvI p, .bool p.1.s.1, .bool p.1.s.2.1, .bool p.1.s.2.2.1, .bool p.1.s.2.2.2, .bool p.1.k] 31)
  have c0_y0 := d0.at 2 0 rfl rfl
  have f0_y0 := d0.fz 2 0 rfl rfl
  have c0_y1 := d0.at 2 1 rfl rfl
  have f0_y1 := d0.fz 2 1 rfl rfl
  have c0_y2 := d0.at 2 2 rfl rfl
  have f0_y2 := d0.fz 2 2 rfl rfl
  have c0_y3 := d0.at 2 3 rfl rfl
  have f0_y3 := d0.fz 2 3 rfl rfl
  have c0_y4 := d0.at 2 4 rfl rfl
  have f0_y4 := d0.fz 2 4 rfl rfl
  have c0_y5 := d0.at 2 5 rfl rfl
  have f0_y5 := d0.fz 2 5 rfl rfl
  have c0_y6 := d0.at 2 6 rfl rfl
  have f0_y6 := d0.fz 2 6 rfl rfl
  have c0_y7 := d0.at 2 7 rfl rfl
  have f0_y7 := d0.fz 2 7 rfl rfl
  have c0_z0 := d0.at 1 0 rfl rfl
  have f0_z0 := d0.fz 1 0 rfl rfl
  have c0_z1 := d0.at 1 1 rfl rfl
  have f0_z1 := d0.fz 1 1 rfl rfl
  go_wp2_with fail
  clear d0 c0_y0 f0_y0 c0_y1 f0_y1 c0_y2 f0_y2 c0_y3 f0_y3 c0_y4 f0_y4 c0_y5 f0_y5 c0_y6 f0_y6 c0_y7 f0_y7 c0_z0 f0_z0 c0_z1 f0_z1
  obtain ⟨w2, hw2, y2, al, bs⟩ := bs.alloc (w1.heap.size) rfl [.string ⟨p.1.j.toArray⟩, .string ⟨p.1.n.toArray⟩, gvI p, .bool p.1.s.1, .bool p.1.s.2.1, .bool p.1.s.2.2.1, .bool p.1.s.2.2.2, .bool p.1.k] 31
  clear al
  obtain ⟨w3, hw3, y3, bs⟩ := bs.sets 1 0 [.slice none 0 0, .int .i64 0] rfl (Nat.le_of_ble_eq_true rfl)
  obtain ⟨w4, hw4, y4, bs⟩ := bs.sets 2 0 [.string ⟨#[]⟩, .string ⟨#[]⟩, .slice none 0 0, .bool false, .bool false, .bool false, .bool false, .bool false] rfl (Nat.le_of_ble_eq_true rfl)
  replace q := bs.q
  rw [hw2]
  simp only [World.setCells, Nat.reduceAdd] at hw3
  rw [hw3]
  simp only [World.setCells, Nat.reduceAdd] at hw4
  rw [hw4]
  refine bodyPost_ret (ret_r3 rfl rfl rfl rfl (bs.box 1 rfl) (bs.box 2 rfl)) rfl (DroC.zero q)
 | true =>
  rw [hT] at hth
  have HTH := Lib.hid hth
  cases hK : (wasL (M.map Prod.fst) t).k with
  | false =>
   have KP : Hid (∀ p : Im, p.1 = wasL (M.map Prod.fst) t → p.1.k = false) := Lib.hid (fun p h => by rw [h]; exact hK)
   simp only [Bool.and_false, Bool.false_eq_true, if_false, if_neg (show ¬ (6 : Int) = 0 by decide)]
   clear hv hs hmay hall hch hth hT hv0 hv1 hL hK
   obtain ⟨W0, hW, y0, bs⟩ := Sx.start3 w [.slice a0 L0 cap0, .int .i64 ver] 24 [.slice none 0 0, .int .i64 0] 24 [.string ⟨#[]⟩, .string ⟨#[]⟩, .slice none 0 0, .bool false, .bool false, .bool false, .bool false, .bool false] 31
   have HW := Lib.hid hW
   clear hW
   have q := bs.q
   go_enter Tryz.func59, Tryz.ntmps59
   go_wp2_with fail
   rw [HW.out]
   refine (CF.out W0 q).mono ?_
   rintro e w1 ⟨hb, p, rfl, hp, hgp⟩
   replace bs := bs.ret hb
   replace q := bs.q
   clear hb
   rw [HTH.out]
   have HKP := KP.out p hp
   have HP := Lib.hid hp
   clear hp hgp
   have d0 := (bs.lit (w1.heap.size) rfl [.string ⟨p.1.j.toArray⟩, .string ⟨p.1.n.toArray⟩, gvI p, .bool p.1.s.1, .bool p.1.s.2.1, .bool p.1.s.2.2.1, .bool p.1.s.2.2.2, .bool false] 31)
   have c0_y0 := d0.at 2 0 rfl rfl
   have f0_y0 := d0.fz 2 0 rfl rfl
   have c0_y1 := d0.at 2 1 rfl rfl
   have f0_y1 := d0.fz 2 1 rfl rfl
   have c0_y2 := d0.at 2 2 rfl rfl
   have f0_y2 := d0.fz 2 2 rfl rfl
   have c0_y3 := d0.at 2 3 rfl rfl
   have f0_y3 := d0.fz 2 3 rfl rfl
   have c0_y4 := d0.at 2 4 rfl rfl
   have f0_y4 := d0.fz 2 4 rfl rfl
   have c0_y5 := d0.at 2 5 rfl rfl
   have f0_y5 := d0.fz 2 5 rfl rfl
   have c0_y6 := d0.at 2 6 rfl rfl
   have f0_y6 := d0.fz 2 6 rfl rfl
   have c0_y7 := d0.at 2 7 rfl rfl
   have f0_y7 := d0.fz 2 7 rfl rfl
   have c0_z0 := d0.at 1 0 rfl rfl
   have f0_z0 := d0.fz 1 0 rfl rfl
   have c0_z1 := d0.at 1 1 rfl rfl
   have f0_z1 := d0.fz 1 1 rfl rfl
   go_wp2_with fail
   clear d0 c0_y0 f0_y0 c0_y1 f0_y1 c0_y2 f0_y2 c0_y3 f0_y3 c0_y4 f0_y4 c0_y5 f0_y5 c0_y6 f0_y6 c0_y7 f0_y7 c0_z0 f0_z0 c0_z1 f0_z1
   obtain ⟨w2, hw2, y2, al, bs⟩ := bs.alloc (w1.heap.size) rfl [.string ⟨p.1.j.toArray⟩, .string ⟨p.1.n.toArray⟩, gvI p, .bool p.1.s.1, .bool p.1.s.2.1, .bool p.1.s.2.2.1, .bool p.1.s.2.2.2, .bool false] 31
   clear al
   obtain ⟨w3, hw3, y3, bs⟩ := bs.sets 1 0 [.slice none 0 0, .int .i64 0] rfl (Nat.le_of_ble_eq_true rfl)
   obtain ⟨w4, hw4, y4, bs⟩ := bs.sets 2 0 [.string ⟨#[]⟩, .string ⟨#[]⟩, .slice none 0 0, .bool false, .bool false, .bool false, .bool false, .bool false] rfl (Nat.le_of_ble_eq_true rfl)
   replace q := bs.q
   rw [hw2]
   simp only [World.setCells, Nat.reduceAdd] at hw3
   rw [hw3]
   simp only [World.setCells, Nat.reduceAdd] at hw4
   rw [hw4]
   refine bodyPost_ret (ret_r3 rfl rfl rfl rfl (bs.box 1 rfl) (bs.box 2 rfl)) rfl (DroC.zero q)
  | true =>
   have KP : Hid (∀ p : Im, p.1 = wasL (M.map Prod.fst) t → p.1.k = true) := Lib.hid (fun p h => by rw [h]; exact hK)
   simp only [Bool.and_true, if_true]
   clear hv hs hmay hall hch hth hT hv0 hv1 hL hK
   obtain ⟨W0, hW, y0, bs⟩ := Sx.start3 w [.slice a0 L0 cap0, .int .i64 ver] 24 [.slice none 0 0, .int .i64 0] 24 [.string ⟨#[]⟩, .string ⟨#[]⟩, .slice none 0 0, .bool false, .bool false, .bool false, .bool false, .bool false] 31
   have HW := Lib.hid hW
   clear hW
   have q := bs.q
   go_enter Tryz.func59, Tryz.ntmps59
   go_wp2_with fail
   rw [HW.out]
   refine (CF.out W0 q).mono ?_
   rintro e w1 ⟨hb, p, rfl, hp, hgp⟩
   replace bs := bs.ret hb
   replace q := bs.q
   clear hb
   rw [HTH.out]
   have HKP := KP.out p hp
   have HP := Lib.hid hp
   clear hp
   obtain ⟨w2, hw2, y2, al, bs⟩ := bs.alloc (w1.heap.size) rfl [.string ⟨p.1.j.toArray⟩, .string ⟨p.1.n.toArray⟩, gvI p, .bool p.1.s.1, .bool p.1.s.2.1, .bool p.1.s.2.2.1, .bool p.1.s.2.2.2, .bool true] 31
   clear al
   replace q := bs.q
   obtain ⟨ga, gc, wa, ap, hgo, hb⟩ := app_new w2 (gvI p) p.1.g (hgp.ret q) (by rw [HP.out]; have := WG.out; omega)
   rw [y2] at ap
   rw [← hw2] at ap
   have o_g := OwX.mk' bs hgo
   replace bs := bs.ret hb
   replace q := bs.q
   clear hb hgo hgp
   clear hw2
   have AP := Lib.hid ap
   clear ap
   go_wp2_with (at_builtin; refine Hid.out ?_)
   refine Lib.hid ?_
   refine Lib.wpList_append_run _ rfl _ _ _ _ rfl _ _ rfl rfl _ _ (AP.out _) ?_
   clear AP
   have c_i0 := bs.at 3 0 rfl rfl
   have f_i0 := bs.fz 3 0 rfl rfl
   have c_i1 := bs.at 3 1 rfl rfl
   have f_i1 := bs.fz 3 1 rfl rfl
   have c_i2 := bs.at 3 2 rfl rfl
   have f_i2 := bs.fz 3 2 rfl rfl
   have c_i3 := bs.at 3 3 rfl rfl
   have f_i3 := bs.fz 3 3 rfl rfl
   have c_i4 := bs.at 3 4 rfl rfl
   have f_i4 := bs.fz 3 4 rfl rfl
   have c_i5 := bs.at 3 5 rfl rfl
   have f_i5 := bs.fz 3 5 rfl rfl
   have c_i6 := bs.at 3 6 rfl rfl
   have f_i6 := bs.fz 3 6 rfl rfl
   have c_i7 := bs.at 3 7 rfl rfl
   have f_i7 := bs.fz 3 7 rfl rfl
   go_wp2_with fail
   clear c_i0 f_i0 c_i1 f_i1 c_i2 f_i2 c_i3 f_i3 c_i4 f_i4 c_i5 f_i5 c_i6 f_i6 c_i7 f_i7
   obtain ⟨w3, hw3, y3, bs⟩ := bs.sets 3 2 [.slice ga p.1.g.length gc] rfl (Nat.le_of_ble_eq_true rfl)
   replace o_g := o_g.sets 3 rfl hw3
   replace q := bs.q
   simp only [World.setCells] at hw3
   rw [hw3]
   replace o_g := o_g.ret (Below.drew (Below.refl _ _))
   replace bs := bs.ret (Below.drew (Below.refl _ _))
   replace q := bs.q
   have y4 : w3.drew.heap.size = w3.heap.size := rfl
   refine wp_region_held_drew (S := fun w' => w'.cell? ⟨w.heap.size, 0, none⟩ = some (.slice a0 L0 cap0) ∧ w'.cell? ⟨w.heap.size, 1, none⟩ = some (.int .i64 ver) ∧ w'.cell? ⟨w1.heap.size, 0, none⟩ = some (.string ⟨p.1.j.toArray⟩) ∧ w'.cell? ⟨w1.heap.size, 1, none⟩ = some (.string ⟨p.1.n.toArray⟩) ∧ w'.cell? ⟨w1.heap.size, 2, none⟩ = some (.slice ga p.1.g.length gc) ∧ w'.cell? ⟨w1.heap.size, 3, none⟩ = some (.bool p.1.s.1) ∧ w'.cell? ⟨w1.heap.size, 4, none⟩ = some (.bool p.1.s.2.1) ∧ w'.cell? ⟨w1.heap.size, 5, none⟩ = some (.bool p.1.s.2.2.1) ∧ w'.cell? ⟨w1.heap.size, 6, none⟩ = some (.bool p.1.s.2.2.2) ∧ w'.cell? ⟨w1.heap.size, 7, none⟩ = some (.bool true)) (by kernel_rfl) ⟨bs.at 0 0 rfl rfl, bs.at 0 1 rfl rfl, bs.at 3 0 rfl rfl, bs.at 3 1 rfl rfl, bs.at 3 2 rfl rfl, bs.at 3 3 rfl rfl, bs.at 3 4 rfl rfl, bs.at 3 5 rfl rfl, bs.at 3 6 rfl rfl, bs.at 3 7 rfl rfl⟩ (fun hHeld => ?_)
   generalize w3.drew = w4 at bs o_g q y4 hHeld ⊢
   refine tk_start [(0, some 29), (1, some 30), (5, some 34)] ?_
   iterate 3
    refine tk_step (v := ?_) (by kernel_rfl) (by kernel_rfl) (fun _ _ _ h => h) (by assumption) (fun o ho w' hSw => ?_) ?_
    rotate_left
    ·simp only [List.getElem?_toArray, List.getElem?_cons_succ, List.getElem?_cons_zero, Option.some.injEq] at ho; subst ho; (try dsimp only at hSw); go_simp; try with_reducible rfl
    simp only [Act.put, List.setIfInBounds_toArray, List.set_cons_zero, List.set_cons_succ]
   refine tk_end ?_
   refine tk_call (i := 2) (by kernel_rfl) (by kernel_rfl) (fun o ho K hK => ?_)
   simp only [List.getElem?_toArray, List.getElem?_cons_succ, List.getElem?_cons_zero, Option.some.injEq] at ho
   subst ho
   go_simp
   have CWO := r21_without (.slice a0 L0 cap0) ver M ⟨t.toArray⟩ w4 (HV.out.ret q) (by have := LM.out; omega)
   refine (CWO).mono ?_
   rintro e w5 ⟨a1, c1, rfl, hr1, hb⟩
   have o_f := OwX.mk' bs hr1
   replace o_g := o_g.ret hb
   replace bs := bs.ret hb
   replace q := bs.q
   clear hb
   clear hr1
   have hnl : (woI M t).length ≤ 16 := Nat.le_trans (List.length_filter_le _ _) LM.out
   obtain ⟨Kn, hK1⟩ : ∃ Kn, (woI M t).length = Kn := ⟨_, rfl⟩
   have o_f' : OwX w _ _ 8 (.slice a1 (woI M t).length c1) (woI M t).length (itV (woI M t)) _ := o_f
   clear o_f
   have o_f := o_f'
   clear o_f'
   go_simp
   have e1 : (woI M (⟨t.toArray⟩ : ByteArray).data.toList).length = Kn := hK1
   try rw [e1]
   try rw [hK1]
   rw [hK1] at o_f hnl
   clear hHeld
   refine hK.out _ _ ⟨bs.at 0 0 rfl rfl, bs.at 0 1 rfl rfl, bs.at 3 0 rfl rfl, bs.at 3 1 rfl rfl, bs.at 3 2 rfl rfl, bs.at 3 3 rfl rfl, bs.at 3 4 rfl rfl, bs.at 3 5 rfl rfl, bs.at 3 6 rfl rfl, bs.at 3 7 rfl rfl⟩ (fun hHeld => ?_)
   clear hK K
   refine tk_call (i := 3) (by kernel_rfl) (by kernel_rfl) (fun o ho K hK => ?_)
   simp only [List.getElem?_toArray, List.getElem?_cons_succ, List.getElem?_cons_zero, Option.some.injEq] at ho
   subst ho
   go_simp
   refine ((r21_next (.slice a1 Kn c1) ver w5 ⟨_, _, _, rfl⟩ HV0.out HV1.out)).mono ?_
   rintro e w6 ⟨rfl, hb⟩
   replace o_g := o_g.ret hb
   replace o_f := o_f.ret hb
   replace bs := bs.ret hb
   replace q := bs.q
   clear hb
   go_simp
   clear hHeld
   refine hK.out _ _ ⟨bs.at 0 0 rfl rfl, bs.at 0 1 rfl rfl, bs.at 3 0 rfl rfl, bs.at 3 1 rfl rfl, bs.at 3 2 rfl rfl, bs.at 3 3 rfl rfl, bs.at 3 4 rfl rfl, bs.at 3 5 rfl rfl, bs.at 3 6 rfl rfl, bs.at 3 7 rfl rfl⟩ (fun hHeld => ?_)
   clear hK K
   refine tk_call (i := 4) (by kernel_rfl) (by kernel_rfl) (fun o ho K hK => ?_)
   simp only [List.getElem?_toArray, List.getElem?_cons_succ, List.getElem?_cons_zero, Option.some.injEq] at ho
   subst ho
   go_simp
   have hit : IsItems (.slice a1 (woI M t).length c1) (woI M t) w6 := ⟨by rw [hK1]; exact own_row o_f.1, fun p' hp' => (HV.out.2 p' (List.mem_filter.1 hp').1).ret q⟩
   rw [hK1] at hit
   refine ((r21_Twin (.slice a1 Kn c1) (nextV ver) (woI M t) w6 hit (by omega) (fun p' hp' => GZ.out p' (List.mem_filter.1 hp').1))).mono ?_
   rintro e w7 ⟨a2, c2, rfl, K2, hK2, hown, hb⟩
   have o_m := OwnX.mk' bs hown
   replace o_g := o_g.ret hb
   replace o_f := o_f.ret hb
   replace bs := bs.ret hb
   replace q := bs.q
   clear hb
   clear hit hown
   rw [map_woI, HW0.out] at hK2 o_m ⊢
   go_simp
   clear hHeld
   refine hK.out _ _ ⟨bs.at 0 0 rfl rfl, bs.at 0 1 rfl rfl, bs.at 3 0 rfl rfl, bs.at 3 1 rfl rfl, bs.at 3 2 rfl rfl, bs.at 3 3 rfl rfl, bs.at 3 4 rfl rfl, bs.at 3 5 rfl rfl, bs.at 3 6 rfl rfl, bs.at 3 7 rfl rfl⟩ (fun hHeld => ?_)
   clear hK K
   refine tk_call (i := 6) (by kernel_rfl) (by kernel_rfl) (fun o ho K hK => ?_)
   simp only [List.getElem?_toArray, List.getElem?_cons_succ, List.getElem?_cons_zero, Option.some.injEq] at ho
   subst ho
   have c_z0 := bs.at 1 0 rfl rfl
   have f_z0 := bs.fz 1 0 rfl rfl
   have c_z1 := bs.at 1 1 rfl rfl
   have f_z1 := bs.fz 1 1 rfl rfl
   go_simp
   clear c_z0 f_z0 c_z1 f_z1
   obtain ⟨w8, hw8, y8, bs⟩ := bs.sets 1 0 [.slice a2 (goneL (M.map Prod.fst) t).length c2, .int .i64 (nextV ver)] rfl (Nat.le_of_ble_eq_true rfl)
   replace o_g := o_g.sets 1 rfl hw8
   replace o_f := o_f.sets 1 rfl hw8
   replace o_m := o_m.sets 1 rfl hw8
   replace q := bs.q
   simp only [World.setCells, Nat.reduceAdd] at hw8
   rw [hw8]
   clear hHeld
   refine hK.out _ _ ⟨bs.at 0 0 rfl rfl, bs.at 0 1 rfl rfl, bs.at 3 0 rfl rfl, bs.at 3 1 rfl rfl, bs.at 3 2 rfl rfl, bs.at 3 3 rfl rfl, bs.at 3 4 rfl rfl, bs.at 3 5 rfl rfl, bs.at 3 6 rfl rfl, bs.at 3 7 rfl rfl⟩ (fun hHeld => ?_)
   clear hK K
   refine tk_call (i := 7) (by kernel_rfl) (by kernel_rfl) (fun o ho K hK => ?_)
   simp only [List.getElem?_toArray, List.getElem?_cons_succ, List.getElem?_cons_zero, Option.some.injEq] at ho
   subst ho
   have c_y0 := bs.at 2 0 rfl rfl
   have f_y0 := bs.fz 2 0 rfl rfl
   have c_y1 := bs.at 2 1 rfl rfl
   have f_y1 := bs.fz 2 1 rfl rfl
   have c_y2 := bs.at 2 2 rfl rfl
   have f_y2 := bs.fz 2 2 rfl rfl
   have c_y3 := bs.at 2 3 rfl rfl
   have f_y3 := bs.fz 2 3 rfl rfl
   have c_y4 := bs.at 2 4 rfl rfl
   have f_y4 := bs.fz 2 4 rfl rfl
   have c_y5 := bs.at 2 5 rfl rfl
   have f_y5 := bs.fz 2 5 rfl rfl
   have c_y6 := bs.at 2 6 rfl rfl
   have f_y6 := bs.fz 2 6 rfl rfl
   have c_y7 := bs.at 2 7 rfl rfl
   have f_y7 := bs.fz 2 7 rfl rfl
   go_simp
   clear c_y0 f_y0 c_y1 f_y1 c_y2 f_y2 c_y3 f_y3 c_y4 f_y4 c_y5 f_y5 c_y6 f_y6 c_y7 f_y7
   obtain ⟨w9, hw9, y9, bs⟩ := bs.sets 2 0 [.string ⟨p.1.j.toArray⟩, .string ⟨p.1.n.toArray⟩, .slice ga p.1.g.length gc, .bool p.1.s.1, .bool p.1.s.2.1, .bool p.1.s.2.2.1, .bool p.1.s.2.2.2, .bool true] rfl (Nat.le_of_ble_eq_true rfl)
   replace o_g := o_g.sets 2 rfl hw9
   replace o_f := o_f.sets 2 rfl hw9
   replace o_m := o_m.sets 2 rfl hw9
   replace q := bs.q
   simp only [World.setCells, Nat.reduceAdd] at hw9
   rw [hw9]
   clear hHeld
   refine hK.out _ _ ⟨bs.at 0 0 rfl rfl, bs.at 0 1 rfl rfl, bs.at 3 0 rfl rfl, bs.at 3 1 rfl rfl, bs.at 3 2 rfl rfl, bs.at 3 3 rfl rfl, bs.at 3 4 rfl rfl, bs.at 3 5 rfl rfl, bs.at 3 6 rfl rfl, bs.at 3 7 rfl rfl⟩ (fun hHeld => ?_)
   clear hK K
   refine tk_on (i := 8) (some 6) (v := ?_) (by kernel_rfl) (by kernel_rfl) (by kernel_rfl) (by kernel_rfl) (fun _ _ _ h => h) (by assumption) (fun o ho w' hSw => ?_) ?_
   rotate_left
   ·(simp only [List.getElem?_toArray, List.getElem?_cons_succ, List.getElem?_cons_zero, Option.some.injEq] at ho; subst ho; (try dsimp only at hSw); go_simp; try with_reducible rfl)
   simp only [Act.put, List.setIfInBounds_toArray, List.set_cons_zero, List.set_cons_succ]
   refine wpAnyH_done (by kernel_rfl) ?_ _
   clear hHeld
   go_wp2_with fail
   refine bodyPost_ret (ret_r3 rfl rfl rfl rfl (bs.box 1 rfl) (bs.box 2 rfl)) rfl (⟨a2, c2, (p.1, (ga, gc)), by rw [show (Value.bool true) = .bool p.1.k by rw [HKP]]; rfl, HP.out, o_g.1, K2, hK2, o_m.own, q⟩)
set_option maxHeartbeats 4000000 in
set_option maxRecDepth 100000 in
theorem r21_Drop (v : Value) (ver : Int) (M : List Im) (t : List UInt8) (w : World) (hv : IsItems v M w) (hs : SmallI M) :
  Calls Tryz.prog 29 #[.agg #[v, .int .i64 ver], .string ⟨t.toArray⟩] w (DroC w (dropP (M.map Prod.fst) ver t).1 (dropP (M.map Prod.fst) ver t).2.1 (dropP (M.map Prod.fst) ver t).2.2 (dropC (M.map Prod.fst) ver t)) := by
 obtain ⟨a0, cap0, hf, -⟩ := hv.form
 obtain ⟨L0, hL⟩ : ∃ L, M.length = L := ⟨_, rfl⟩
 rw [hL] at hf
 subst hf
 have CM := fun (w' : World) (hb : Below w.heap.size w w') => r21_May (.slice a0 L0 cap0) ver M w' (hv.ret hb) hs
 cases hmay : mayR (M.map Prod.fst) ver with
 | false =>
  rw [hmay] at CM
  have CM := Lib.hid CM
  unfold dropP dropC
  simp only [hmay, Bool.false_eq_true, if_false, if_neg (show ¬ (8 : Int) = 0 by decide)]
  clear hv hs hmay hL
  obtain ⟨W0, hW, y0, bs⟩ := Sx.start3 w [.slice a0 L0 cap0, .int .i64 ver] 24 [.slice none 0 0, .int .i64 0] 24 [.string ⟨#[]⟩, .string ⟨#[]⟩, .slice none 0 0, .bool false, .bool false, .bool false, .bool false, .bool false] 31
  have HW := Lib.hid hW
  clear hW
  have q := bs.q
  go_enter Tryz.func29, Tryz.ntmps29
  go_wp2_with fail
  rw [HW.out]
  refine (CM.out W0 q).mono ?_
  rintro e w1 ⟨rfl, hb⟩
  replace bs := bs.ret hb
  replace q := bs.q
  clear hb
  have c_r0 := bs.at 0 0 rfl rfl
  have c_r1 := bs.at 0 1 rfl rfl
  have c_z0 := bs.at 1 0 rfl rfl
  have f_z0 := bs.fz 1 0 rfl rfl
  have c_z1 := bs.at 1 1 rfl rfl
  have f_z1 := bs.fz 1 1 rfl rfl
  have c_y0 := bs.at 2 0 rfl rfl
  have f_y0 := bs.fz 2 0 rfl rfl
  have c_y1 := bs.at 2 1 rfl rfl
  have f_y1 := bs.fz 2 1 rfl rfl
  have c_y2 := bs.at 2 2 rfl rfl
  have f_y2 := bs.fz 2 2 rfl rfl
  have c_y3 := bs.at 2 3 rfl rfl
  have f_y3 := bs.fz 2 3 rfl rfl
  have c_y4 := bs.at 2 4 rfl rfl
  have f_y4 := bs.fz 2 4 rfl rfl
  have c_y5 := bs.at 2 5 rfl rfl
  have f_y5 := bs.fz 2 5 rfl rfl
  have c_y6 := bs.at 2 6 rfl rfl
  have f_y6 := bs.fz 2 6 rfl rfl
  have c_y7 := bs.at 2 7 rfl rfl
  have f_y7 := bs.fz 2 7 rfl rfl
  go_wp2_with fail
  clear c_r0 c_r1 c_z0 f_z0 c_z1 f_z1 c_y0 f_y0 c_y1 f_y1 c_y2 f_y2 c_y3 f_y3 c_y4 f_y4 c_y5 f_y5 c_y6 f_y6 c_y7 f_y7
  obtain ⟨w2, hw2, y2, bs⟩ := bs.sets 1 0 [.slice none 0 0, .int .i64 0] rfl (Nat.le_of_ble_eq_true rfl)
  obtain ⟨w3, hw3, y3, bs⟩ := bs.sets 2 0 [.string ⟨#[]⟩, .string ⟨#[]⟩, .slice none 0 0, .bool false, .bool false, .bool false, .bool false, .bool false] rfl (Nat.le_of_ble_eq_true rfl)
  replace q := bs.q
  simp only [World.setCells, Nat.reduceAdd] at hw2
  rw [hw2]
  simp only [World.setCells, Nat.reduceAdd] at hw3
  rw [hw3]
  refine bodyPost_ret (ret_r3 rfl rfl rfl rfl (bs.box 1 rfl) (bs.box 2 rfl)) rfl (DroC.zero q)
 | true =>
  rw [hmay] at CM
  have CM := Lib.hid CM
  have CP := fun (w' : World) (hb : Below w.heap.size w w') => r21_Gone (.slice a0 L0 cap0) ver M t w' (hv.ret hb) hs hmay
  obtain ⟨R, hR⟩ : ∃ R, (dropP (M.map Prod.fst) ver t).1 = R := ⟨_, rfl⟩
  obtain ⟨V, hV⟩ : ∃ V, (dropP (M.map Prod.fst) ver t).2.1 = V := ⟨_, rfl⟩
  obtain ⟨X, hX⟩ : ∃ X, (dropP (M.map Prod.fst) ver t).2.2 = X := ⟨_, rfl⟩
  obtain ⟨C, hC⟩ : ∃ C, dropC (M.map Prod.fst) ver t = C := ⟨_, rfl⟩
  simp only [hR, hV, hC, hX] at CP ⊢
  have CP := Lib.hid CP
  clear hv hs hmay hL hR hV hC hX
  obtain ⟨W0, hW, y0, bs⟩ := Sx.start3 w [.slice a0 L0 cap0, .int .i64 ver] 24 [.slice none 0 0, .int .i64 0] 24 [.string ⟨#[]⟩, .string ⟨#[]⟩, .slice none 0 0, .bool false, .bool false, .bool false, .bool false, .bool false] 31
  have HW := Lib.hid hW
  clear hW
  have q := bs.q
  go_enter Tryz.func29, Tryz.ntmps29
  go_wp2_with fail
  rw [HW.out]
  refine (CM.out W0 q).mono ?_
  rintro e w1 ⟨rfl, hb⟩
  replace bs := bs.ret hb
  replace q := bs.q
  clear hb
  have c_r0 := bs.at 0 0 rfl rfl
  have c_r1 := bs.at 0 1 rfl rfl
  go_wp2_with fail
  clear c_r0 c_r1
  refine (CP.out w1 q).mono ?_
  rintro e w2 ⟨a2, c2, p, rfl, hp, hgo, K2, hK2, hown, hb⟩
  have o_m := OwnX.mk' bs hown
  have o_g := OwX.mk' bs hgo
  replace bs := bs.ret hb
  replace q := bs.q
  clear hb
  have HP := Lib.hid hp
  clear hown hgo hp
  have c_z0 := bs.at 1 0 rfl rfl
  have f_z0 := bs.fz 1 0 rfl rfl
  have c_z1 := bs.at 1 1 rfl rfl
  have f_z1 := bs.fz 1 1 rfl rfl
  have c_y0 := bs.at 2 0 rfl rfl
  have f_y0 := bs.fz 2 0 rfl rfl
  have c_y1 := bs.at 2 1 rfl rfl
  have f_y1 := bs.fz 2 1 rfl rfl
  have c_y2 := bs.at 2 2 rfl rfl
  have f_y2 := bs.fz 2 2 rfl rfl
  have c_y3 := bs.at 2 3 rfl rfl
  have f_y3 := bs.fz 2 3 rfl rfl
  have c_y4 := bs.at 2 4 rfl rfl
  have f_y4 := bs.fz 2 4 rfl rfl
  have c_y5 := bs.at 2 5 rfl rfl
  have f_y5 := bs.fz 2 5 rfl rfl
  have c_y6 := bs.at 2 6 rfl rfl
  have f_y6 := bs.fz 2 6 rfl rfl
  have c_y7 := bs.at 2 7 rfl rfl
  have f_y7 := bs.fz 2 7 rfl rfl
  go_wp2_with fail
  clear c_z0 f_z0 c_z1 f_z1 c_y0 f_y0 c_y1 f_y1 c_y2 f_y2 c_y3 f_y3 c_y4 f_y4 c_y5 f_y5 c_y6 f_y6 c_y7 f_y7
  obtain ⟨w3, hw3, y3, bs⟩ := bs.sets 1 0 [.slice a2 R.length c2, .int .i64 V] rfl (Nat.le_of_ble_eq_true rfl)
  replace o_m := o_m.sets 1 rfl hw3
  replace o_g := o_g.sets 1 rfl hw3
  obtain ⟨w4, hw4, y4, bs⟩ := bs.sets 2 0 [.string ⟨p.1.j.toArray⟩, .string ⟨p.1.n.toArray⟩, gvI p, .bool p.1.s.1, .bool p.1.s.2.1, .bool p.1.s.2.2.1, .bool p.1.s.2.2.2, .bool p.1.k] rfl (Nat.le_of_ble_eq_true rfl)
  replace o_m := o_m.sets 2 rfl hw4
  replace o_g := o_g.sets 2 rfl hw4
  replace q := bs.q
  simp only [World.setCells, Nat.reduceAdd] at hw3
  rw [hw3]
  simp only [World.setCells, Nat.reduceAdd] at hw4
  rw [hw4]
  refine bodyPost_ret (ret_r3 rfl rfl rfl rfl (bs.box 1 rfl) (bs.box 2 rfl)) rfl (⟨a2, c2, p, rfl, HP.out, o_g.1, K2, hK2, o_m.own, q⟩)
end Go.Proofs.YtfonkblbgadhmaaGreatDoor
