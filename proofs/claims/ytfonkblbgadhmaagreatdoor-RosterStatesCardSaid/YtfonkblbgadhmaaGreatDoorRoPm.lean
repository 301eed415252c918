/- law21's seen, others, turns. PRINTED BY PROGRAM (gen_ropm.py). -/
import Derived.Test.YtfonkblbgadhmaaGreatDoorRoPl
import Derived.Test.YtfonkblbgadhmaaGreatDoorRoPb
namespace Go.Proofs.YtfonkblbgadhmaaGreatDoor
open Go.RowKit Go.Lib

theorem ret_i2 {fn : Func} {tmps : Array Value} {W : World} {R p q : Nat} {u0 u1 u2 u3 u4 u5 u6 u7 e : Value} (h : fn.results = #[.cell p 31, .tmp q]) (h2 : tmps.getD p undef = .pointer (some ⟨R, 0, none⟩)) (h3 : tmps.getD q undef = e) (k' : Bx R [u0, u1, u2, u3, u4, u5, u6, u7] W) :
  (results fn tmps).run Tryz.prog W = .ok (.tuple #[.agg #[u0, u1, u2, u3, u4, u5, u6, u7], e]) W := by
 have d0 := k'.at 0 rfl
 have d1 := k'.at 1 rfl
 have d2 := k'.at 2 rfl
 have d3 := k'.at 3 rfl
 have d4 := k'.at 4 rfl
 have d5 := k'.at 5 rfl
 have d6 := k'.at 6 rfl
 have d7 := k'.at 7 rfl
 rw [results_cell_tmp h, h2, h3]
 simp [go_sem, Result.andThen, d0, d1, d2, d3, d4, d5, d6, d7]
/-- what is seen, and whether something is. -/
def See21 (w : World) (L : List It) (t : List UInt8) (e : Ending) (w' : World) : Prop :=
 ∃ a c, e = .returned (.tuple #[itA ((seeL L t).1, (a, c)), .bool (seeL L t).2]) ∧ w'.ownsRow w.heap.size 9 1 (.slice a (seeL L t).1.g.length c) (seeL L t).1.g.length (strV (seeL L t).1.g) ∧ Below w.heap.size w w'
set_option maxHeartbeats 8000000 in
set_option maxRecDepth 100000 in
theorem l21_seen (v : Value) (ver : Int) (M : List Im) (t : List UInt8) (w : World) (hv : IsItems v M w) (hM : M.length ≤ 1000) (hg : ∀ p ∈ M, p.1.g.length ≤ 1000) (hs : ∀ x ∈ M.map Prod.fst, subMay x.s = true) :
  Calls Tryz.prog 62 #[.agg #[v, .int .i64 ver], .string ⟨t.toArray⟩] w (See21 w (M.map Prod.fst) t) := by
 obtain ⟨a0, cap0, hf, -⟩ := hv.form
 obtain ⟨L0, hL⟩ : ∃ L, M.length = L := ⟨_, rfl⟩
 rw [hL] at hf
 subst hf
 have CF := fun (w' : World) (hb : Below w.heap.size w w') => ro_Find (.slice a0 L0 cap0) ver M ⟨t.toArray⟩ w' (hv.ret hb) hM hg
 unfold Fnd21 at CF
 unfold See21 seeL
 simp only at CF
 cases hfi : findL (M.map Prod.fst) t with
 | none =>
  rw [hfi] at CF
  simp only [Option.getD_none, Option.isSome_none, it0, sb0] at CF ⊢
  simp only [itA, gvI, It.j, It.n, It.g, It.k, List.length_nil] at CF
  have CF := Lib.hid CF
  clear hv hM hg hs hL hfi
  obtain ⟨W0, hW, y0, bs⟩ := Sx.start2 w [.slice a0 L0 cap0, .int .i64 ver] 24 [.string ⟨#[]⟩, .string ⟨#[]⟩, .slice none 0 0, .bool false, .bool false, .bool false, .bool false, .bool false] 31
  have HW := Lib.hid hW
  clear hW
  have q := bs.q
  go_enter Tryz.func62, Tryz.ntmps62
  go_wp2_with fail
  rw [HW.out]
  refine (CF.out W0 q).mono ?_
  rintro e w1 ⟨ga, gc, rfl, hrow, hb⟩
  replace bs := bs.ret hb
  replace q := bs.q
  clear hb
  clear hrow
  have d0 := (bs.lit (w1.heap.size) rfl [.string ⟨#[]⟩, .string ⟨#[]⟩, .slice ga 0 gc, .bool false, .bool false, .bool false, .bool false, .bool false] 31)
  have c0_z0 := d0.at 1 0 rfl rfl
  have f0_z0 := d0.fz 1 0 rfl rfl
  have c0_z1 := d0.at 1 1 rfl rfl
  have f0_z1 := d0.fz 1 1 rfl rfl
  have c0_z2 := d0.at 1 2 rfl rfl
  have f0_z2 := d0.fz 1 2 rfl rfl
  have c0_z3 := d0.at 1 3 rfl rfl
  have f0_z3 := d0.fz 1 3 rfl rfl
  have c0_z4 := d0.at 1 4 rfl rfl
  have f0_z4 := d0.fz 1 4 rfl rfl
  have c0_z5 := d0.at 1 5 rfl rfl
  have f0_z5 := d0.fz 1 5 rfl rfl
  have c0_z6 := d0.at 1 6 rfl rfl
  have f0_z6 := d0.fz 1 6 rfl rfl
  have c0_z7 := d0.at 1 7 rfl rfl
  have f0_z7 := d0.fz 1 7 rfl rfl
  have c0_n00 := d0.at 2 0 rfl rfl
  have c0_n01 := d0.at 2 1 rfl rfl
  have c0_n02 := d0.at 2 2 rfl rfl
  have c0_n03 := d0.at 2 3 rfl rfl
  have c0_n04 := d0.at 2 4 rfl rfl
  have c0_n05 := d0.at 2 5 rfl rfl
  have c0_n06 := d0.at 2 6 rfl rfl
  have c0_n07 := d0.at 2 7 rfl rfl
  go_wp2_with fail
  clear d0 c0_z0 f0_z0 c0_z1 f0_z1 c0_z2 f0_z2 c0_z3 f0_z3 c0_z4 f0_z4 c0_z5 f0_z5 c0_z6 f0_z6 c0_z7 f0_z7 c0_n00 c0_n01 c0_n02 c0_n03 c0_n04 c0_n05 c0_n06 c0_n07
  obtain ⟨w2, hw2, y2, al, bs⟩ := bs.alloc (w1.heap.size) rfl [.string ⟨#[]⟩, .string ⟨#[]⟩, .slice ga 0 gc, .bool false, .bool false, .bool false, .bool false, .bool false] 31
  clear al
  replace q := bs.q
  obtain ⟨w3, hw3, y3, bs⟩ := bs.sets 1 0 [.string ⟨#[]⟩, .string ⟨#[]⟩, .slice none 0 0, .bool false, .bool false, .bool false, .bool false, .bool false] rfl (Nat.le_of_ble_eq_true rfl)
  replace q := bs.q
  rw [hw2]
  simp only [World.setCells, Nat.reduceAdd] at hw3
  rw [hw3]
  refine bodyPost_ret (ret_i2 rfl rfl rfl (bs.box 1 rfl)) rfl ⟨none, 0, rfl, World.ownsRow_nil _ _ _ _, q⟩
 | some X =>
  have hX := hs X (find_some hfi).1
  rw [hfi] at CF
  obtain ⟨j, n, g, ⟨sa, sb, sc, sd⟩, k⟩ := X
  simp only [Option.getD_some, Option.isSome_some] at CF ⊢
  simp only [itA, gvI, It.j, It.n, It.g, It.k] at CF
  have CF := Lib.hid CF
  have hN := fun w' => sub_Name sa sb sc sd w' (subMay_ho hX)
  have HN := Lib.hid hN
  clear hv hM hg hs hL hfi hX hN
  cases k with
  | false =>
   simp only [it0, sb0]
   obtain ⟨W0, hW, y0, bs⟩ := Sx.start2 w [.slice a0 L0 cap0, .int .i64 ver] 24 [.string ⟨#[]⟩, .string ⟨#[]⟩, .slice none 0 0, .bool false, .bool false, .bool false, .bool false, .bool false] 31
   have HW := Lib.hid hW
   clear hW
   have q := bs.q
   go_enter Tryz.func62, Tryz.ntmps62
   go_wp2_with fail
   rw [HW.out]
   refine (CF.out W0 q).mono ?_
   rintro e w1 ⟨ga, gc, rfl, hrow, hb⟩
   replace bs := bs.ret hb
   replace q := bs.q
   clear hb
   clear hrow
   have d0 := (bs.lit (w1.heap.size) rfl [.string ⟨j.toArray⟩, .string ⟨n.toArray⟩, .slice ga g.length gc, .bool sa, .bool sb, .bool sc, .bool sd, .bool false] 31)
   have c0_z0 := d0.at 1 0 rfl rfl
   have f0_z0 := d0.fz 1 0 rfl rfl
   have c0_z1 := d0.at 1 1 rfl rfl
   have f0_z1 := d0.fz 1 1 rfl rfl
   have c0_z2 := d0.at 1 2 rfl rfl
   have f0_z2 := d0.fz 1 2 rfl rfl
   have c0_z3 := d0.at 1 3 rfl rfl
   have f0_z3 := d0.fz 1 3 rfl rfl
   have c0_z4 := d0.at 1 4 rfl rfl
   have f0_z4 := d0.fz 1 4 rfl rfl
   have c0_z5 := d0.at 1 5 rfl rfl
   have f0_z5 := d0.fz 1 5 rfl rfl
   have c0_z6 := d0.at 1 6 rfl rfl
   have f0_z6 := d0.fz 1 6 rfl rfl
   have c0_z7 := d0.at 1 7 rfl rfl
   have f0_z7 := d0.fz 1 7 rfl rfl
   have c0_n00 := d0.at 2 0 rfl rfl
   have c0_n01 := d0.at 2 1 rfl rfl
   have c0_n02 := d0.at 2 2 rfl rfl
   have c0_n03 := d0.at 2 3 rfl rfl
   have c0_n04 := d0.at 2 4 rfl rfl
   have c0_n05 := d0.at 2 5 rfl rfl
   have c0_n06 := d0.at 2 6 rfl rfl
   have c0_n07 := d0.at 2 7 rfl rfl
   go_wp2_with fail
   clear d0 c0_z0 f0_z0 c0_z1 f0_z1 c0_z2 f0_z2 c0_z3 f0_z3 c0_z4 f0_z4 c0_z5 f0_z5 c0_z6 f0_z6 c0_z7 f0_z7 c0_n00 c0_n01 c0_n02 c0_n03 c0_n04 c0_n05 c0_n06 c0_n07
   obtain ⟨w2, hw2, y2, al, bs⟩ := bs.alloc (w1.heap.size) rfl [.string ⟨j.toArray⟩, .string ⟨n.toArray⟩, .slice ga g.length gc, .bool sa, .bool sb, .bool sc, .bool sd, .bool false] 31
   clear al
   replace q := bs.q
   obtain ⟨w3, hw3, y3, bs⟩ := bs.sets 1 0 [.string ⟨#[]⟩, .string ⟨#[]⟩, .slice none 0 0, .bool false, .bool false, .bool false, .bool false, .bool false] rfl (Nat.le_of_ble_eq_true rfl)
   replace q := bs.q
   rw [hw2]
   simp only [World.setCells, Nat.reduceAdd] at hw3
   rw [hw3]
   refine bodyPost_ret (ret_i2 rfl rfl rfl (bs.box 1 rfl)) rfl ⟨none, 0, rfl, World.ownsRow_nil _ _ _ _, q⟩
  | true =>
   simp only [if_true, seeI]
   cases sa <;> cases sc
   ·obtain ⟨nm, hnm⟩ : ∃ nm, subName false false = nm := ⟨_, rfl⟩
    have e0 : (nm.toList == [116, 111]) = false := by rw [← hnm, Lib.toList_data]; decide
    have e1 : (nm.toList == [98, 111, 116, 104]) = false := by rw [← hnm, Lib.toList_data]; decide
    have e2 : (nm.toList == [102, 114, 111, 109]) = false := by rw [← hnm, Lib.toList_data]; decide
    have hn := HN.out
    simp only [hnm] at hn
    have HN := Lib.hid hn
    clear hn hnm
    obtain ⟨W0, hW, y0, bs⟩ := Sx.start2 w [.slice a0 L0 cap0, .int .i64 ver] 24 [.string ⟨#[]⟩, .string ⟨#[]⟩, .slice none 0 0, .bool false, .bool false, .bool false, .bool false, .bool false] 31
    have HW := Lib.hid hW
    clear hW
    have q := bs.q
    go_enter Tryz.func62, Tryz.ntmps62
    go_wp2_with fail
    rw [HW.out]
    refine (CF.out W0 q).mono ?_
    rintro e w1 ⟨ga, gc, rfl, hrow, hb⟩
    have o_g := OwX.mk' bs hrow
    replace bs := bs.ret hb
    replace q := bs.q
    clear hb
    clear hrow
    have d0 := (bs.lit (w1.heap.size) rfl [.string ⟨j.toArray⟩, .string ⟨n.toArray⟩, .slice ga g.length gc, .bool false, .bool sb, .bool false, .bool sd, .bool true] 31)
    have c0_n00 := d0.at 2 0 rfl rfl
    have c0_n01 := d0.at 2 1 rfl rfl
    have c0_n02 := d0.at 2 2 rfl rfl
    have c0_n03 := d0.at 2 3 rfl rfl
    have c0_n04 := d0.at 2 4 rfl rfl
    have c0_n05 := d0.at 2 5 rfl rfl
    have c0_n06 := d0.at 2 6 rfl rfl
    have c0_n07 := d0.at 2 7 rfl rfl
    go_wp2_with fail
    clear d0 c0_n00 c0_n01 c0_n02 c0_n03 c0_n04 c0_n05 c0_n06 c0_n07
    obtain ⟨w2, hw2, y2, al, bs⟩ := bs.alloc (w1.heap.size) rfl [.string ⟨j.toArray⟩, .string ⟨n.toArray⟩, .slice ga g.length gc, .bool false, .bool sb, .bool false, .bool sd, .bool true] 31
    replace o_g := o_g.alloc (w1.heap.size) rfl al
    clear al
    replace q := bs.q
    rw [hw2]
    refine (HN.out w2).mono ?_
    rintro e w3 ⟨rfl, hb⟩
    replace o_g := o_g.ret hb
    replace bs := bs.ret hb
    replace q := bs.q
    clear hb
    have c_x0 := bs.at 2 0 rfl rfl
    have f_x0 := bs.fz 2 0 rfl rfl
    have c_x1 := bs.at 2 1 rfl rfl
    have f_x1 := bs.fz 2 1 rfl rfl
    have c_x2 := bs.at 2 2 rfl rfl
    have f_x2 := bs.fz 2 2 rfl rfl
    have c_x3 := bs.at 2 3 rfl rfl
    have f_x3 := bs.fz 2 3 rfl rfl
    have c_x4 := bs.at 2 4 rfl rfl
    have f_x4 := bs.fz 2 4 rfl rfl
    have c_x5 := bs.at 2 5 rfl rfl
    have f_x5 := bs.fz 2 5 rfl rfl
    have c_x6 := bs.at 2 6 rfl rfl
    have f_x6 := bs.fz 2 6 rfl rfl
    have c_x7 := bs.at 2 7 rfl rfl
    have f_x7 := bs.fz 2 7 rfl rfl
    go_upto_region 6 with fail
    clear c_x0 f_x0 c_x1 f_x1 c_x2 f_x2 c_x3 f_x3 c_x4 f_x4 c_x5 f_x5 c_x6 f_x6 c_x7 f_x7
    obtain ⟨w4, hw4, y4, bs⟩ := bs.sets 2 3 [.bool false, .bool sb, .bool false, .bool false] rfl (Nat.le_of_ble_eq_true rfl)
    replace o_g := o_g.sets 2 rfl hw4
    replace q := bs.q
    simp only [World.setCells, Nat.reduceAdd] at hw4
    rw [hw4]
    have c_x0 := bs.at 2 0 rfl rfl
    have c_x1 := bs.at 2 1 rfl rfl
    have c_x2 := bs.at 2 2 rfl rfl
    have c_x3 := bs.at 2 3 rfl rfl
    have c_x4 := bs.at 2 4 rfl rfl
    have c_x5 := bs.at 2 5 rfl rfl
    have c_x6 := bs.at 2 6 rfl rfl
    have c_x7 := bs.at 2 7 rfl rfl
    have c_z0 := bs.at 1 0 rfl rfl
    have f_z0 := bs.fz 1 0 rfl rfl
    have c_z1 := bs.at 1 1 rfl rfl
    have f_z1 := bs.fz 1 1 rfl rfl
    have c_z2 := bs.at 1 2 rfl rfl
    have f_z2 := bs.fz 1 2 rfl rfl
    have c_z3 := bs.at 1 3 rfl rfl
    have f_z3 := bs.fz 1 3 rfl rfl
    have c_z4 := bs.at 1 4 rfl rfl
    have f_z4 := bs.fz 1 4 rfl rfl
    have c_z5 := bs.at 1 5 rfl rfl
    have f_z5 := bs.fz 1 5 rfl rfl
    have c_z6 := bs.at 1 6 rfl rfl
    have f_z6 := bs.fz 1 6 rfl rfl
    have c_z7 := bs.at 1 7 rfl rfl
    have f_z7 := bs.fz 1 7 rfl rfl
    go_wp2_with fail
    clear c_x0 c_x1 c_x2 c_x3 c_x4 c_x5 c_x6 c_x7 c_z0 f_z0 c_z1 f_z1 c_z2 f_z2 c_z3 f_z3 c_z4 f_z4 c_z5 f_z5 c_z6 f_z6 c_z7 f_z7
    obtain ⟨w5, hw5, y5, bs⟩ := bs.sets 1 0 [.string ⟨j.toArray⟩, .string ⟨n.toArray⟩, .slice ga g.length gc, .bool false, .bool sb, .bool false, .bool false, .bool true] rfl (Nat.le_of_ble_eq_true rfl)
    replace o_g := o_g.sets 1 rfl hw5
    replace q := bs.q
    simp only [World.setCells, Nat.reduceAdd] at hw5
    rw [hw5]
    refine bodyPost_ret (ret_i2 rfl rfl rfl (bs.box 1 rfl)) rfl ⟨ga, gc, rfl, o_g.1, q⟩
   ·obtain ⟨nm, hnm⟩ : ∃ nm, subName false true = nm := ⟨_, rfl⟩
    have e0 : (nm.toList == [116, 111]) = false := by rw [← hnm, Lib.toList_data]; decide
    have e1 : (nm.toList == [98, 111, 116, 104]) = false := by rw [← hnm, Lib.toList_data]; decide
    have e2 : (nm.toList == [102, 114, 111, 109]) = true := by rw [← hnm, Lib.toList_data]; decide
    have hn := HN.out
    simp only [hnm] at hn
    have HN := Lib.hid hn
    clear hn hnm
    obtain ⟨W0, hW, y0, bs⟩ := Sx.start2 w [.slice a0 L0 cap0, .int .i64 ver] 24 [.string ⟨#[]⟩, .string ⟨#[]⟩, .slice none 0 0, .bool false, .bool false, .bool false, .bool false, .bool false] 31
    have HW := Lib.hid hW
    clear hW
    have q := bs.q
    go_enter Tryz.func62, Tryz.ntmps62
    go_wp2_with fail
    rw [HW.out]
    refine (CF.out W0 q).mono ?_
    rintro e w1 ⟨ga, gc, rfl, hrow, hb⟩
    have o_g := OwX.mk' bs hrow
    replace bs := bs.ret hb
    replace q := bs.q
    clear hb
    clear hrow
    have d0 := (bs.lit (w1.heap.size) rfl [.string ⟨j.toArray⟩, .string ⟨n.toArray⟩, .slice ga g.length gc, .bool false, .bool sb, .bool true, .bool sd, .bool true] 31)
    have c0_n00 := d0.at 2 0 rfl rfl
    have c0_n01 := d0.at 2 1 rfl rfl
    have c0_n02 := d0.at 2 2 rfl rfl
    have c0_n03 := d0.at 2 3 rfl rfl
    have c0_n04 := d0.at 2 4 rfl rfl
    have c0_n05 := d0.at 2 5 rfl rfl
    have c0_n06 := d0.at 2 6 rfl rfl
    have c0_n07 := d0.at 2 7 rfl rfl
    go_wp2_with fail
    clear d0 c0_n00 c0_n01 c0_n02 c0_n03 c0_n04 c0_n05 c0_n06 c0_n07
    obtain ⟨w2, hw2, y2, al, bs⟩ := bs.alloc (w1.heap.size) rfl [.string ⟨j.toArray⟩, .string ⟨n.toArray⟩, .slice ga g.length gc, .bool false, .bool sb, .bool true, .bool sd, .bool true] 31
    replace o_g := o_g.alloc (w1.heap.size) rfl al
    clear al
    replace q := bs.q
    rw [hw2]
    refine (HN.out w2).mono ?_
    rintro e w3 ⟨rfl, hb⟩
    replace o_g := o_g.ret hb
    replace bs := bs.ret hb
    replace q := bs.q
    clear hb
    have c_x0 := bs.at 2 0 rfl rfl
    have f_x0 := bs.fz 2 0 rfl rfl
    have c_x1 := bs.at 2 1 rfl rfl
    have f_x1 := bs.fz 2 1 rfl rfl
    have c_x2 := bs.at 2 2 rfl rfl
    have f_x2 := bs.fz 2 2 rfl rfl
    have c_x3 := bs.at 2 3 rfl rfl
    have f_x3 := bs.fz 2 3 rfl rfl
    have c_x4 := bs.at 2 4 rfl rfl
    have f_x4 := bs.fz 2 4 rfl rfl
    have c_x5 := bs.at 2 5 rfl rfl
    have f_x5 := bs.fz 2 5 rfl rfl
    have c_x6 := bs.at 2 6 rfl rfl
    have f_x6 := bs.fz 2 6 rfl rfl
    have c_x7 := bs.at 2 7 rfl rfl
    have f_x7 := bs.fz 2 7 rfl rfl
    go_upto_region 6 with fail
    clear c_x0 f_x0 c_x1 f_x1 c_x2 f_x2 c_x3 f_x3 c_x4 f_x4 c_x5 f_x5 c_x6 f_x6 c_x7 f_x7
    obtain ⟨w4, hw4, y4, bs⟩ := bs.sets 2 3 [.bool false, .bool sb, .bool true, .bool false] rfl (Nat.le_of_ble_eq_true rfl)
    replace o_g := o_g.sets 2 rfl hw4
    replace q := bs.q
    simp only [World.setCells, Nat.reduceAdd] at hw4
    rw [hw4]
    have c_x0 := bs.at 2 0 rfl rfl
    have c_x1 := bs.at 2 1 rfl rfl
    have c_x2 := bs.at 2 2 rfl rfl
    have c_x3 := bs.at 2 3 rfl rfl
    have c_x4 := bs.at 2 4 rfl rfl
    have c_x5 := bs.at 2 5 rfl rfl
    have c_x6 := bs.at 2 6 rfl rfl
    have c_x7 := bs.at 2 7 rfl rfl
    have c_z0 := bs.at 1 0 rfl rfl
    have f_z0 := bs.fz 1 0 rfl rfl
    have c_z1 := bs.at 1 1 rfl rfl
    have f_z1 := bs.fz 1 1 rfl rfl
    have c_z2 := bs.at 1 2 rfl rfl
    have f_z2 := bs.fz 1 2 rfl rfl
    have c_z3 := bs.at 1 3 rfl rfl
    have f_z3 := bs.fz 1 3 rfl rfl
    have c_z4 := bs.at 1 4 rfl rfl
    have f_z4 := bs.fz 1 4 rfl rfl
    have c_z5 := bs.at 1 5 rfl rfl
    have f_z5 := bs.fz 1 5 rfl rfl
    have c_z6 := bs.at 1 6 rfl rfl
    have f_z6 := bs.fz 1 6 rfl rfl
    have c_z7 := bs.at 1 7 rfl rfl
    have f_z7 := bs.fz 1 7 rfl rfl
    go_wp2_with fail
    clear c_x0 c_x1 c_x2 c_x3 c_x4 c_x5 c_x6 c_x7 c_z0 f_z0 c_z1 f_z1 c_z2 f_z2 c_z3 f_z3 c_z4 f_z4 c_z5 f_z5 c_z6 f_z6 c_z7 f_z7
    obtain ⟨w5, hw5, y5, bs⟩ := bs.sets 1 0 [.string ⟨j.toArray⟩, .string ⟨n.toArray⟩, .slice ga g.length gc, .bool false, .bool sb, .bool true, .bool false, .bool true] rfl (Nat.le_of_ble_eq_true rfl)
    replace o_g := o_g.sets 1 rfl hw5
    replace q := bs.q
    simp only [World.setCells, Nat.reduceAdd] at hw5
    rw [hw5]
    refine bodyPost_ret (ret_i2 rfl rfl rfl (bs.box 1 rfl)) rfl ⟨ga, gc, rfl, o_g.1, q⟩
   ·obtain ⟨nm, hnm⟩ : ∃ nm, subName true false = nm := ⟨_, rfl⟩
    have e0 : (nm.toList == [116, 111]) = true := by rw [← hnm, Lib.toList_data]; decide
    have e1 : (nm.toList == [98, 111, 116, 104]) = false := by rw [← hnm, Lib.toList_data]; decide
    have e2 : (nm.toList == [102, 114, 111, 109]) = false := by rw [← hnm, Lib.toList_data]; decide
    have hn := HN.out
    simp only [hnm] at hn
    have HN := Lib.hid hn
    clear hn hnm
    obtain ⟨W0, hW, y0, bs⟩ := Sx.start2 w [.slice a0 L0 cap0, .int .i64 ver] 24 [.string ⟨#[]⟩, .string ⟨#[]⟩, .slice none 0 0, .bool false, .bool false, .bool false, .bool false, .bool false] 31
    have HW := Lib.hid hW
    clear hW
    have q := bs.q
    go_enter Tryz.func62, Tryz.ntmps62
    go_wp2_with fail
    rw [HW.out]
    refine (CF.out W0 q).mono ?_
    rintro e w1 ⟨ga, gc, rfl, hrow, hb⟩
    have o_g := OwX.mk' bs hrow
    replace bs := bs.ret hb
    replace q := bs.q
    clear hb
    clear hrow
    have d0 := (bs.lit (w1.heap.size) rfl [.string ⟨j.toArray⟩, .string ⟨n.toArray⟩, .slice ga g.length gc, .bool true, .bool sb, .bool false, .bool sd, .bool true] 31)
    have c0_n00 := d0.at 2 0 rfl rfl
    have c0_n01 := d0.at 2 1 rfl rfl
    have c0_n02 := d0.at 2 2 rfl rfl
    have c0_n03 := d0.at 2 3 rfl rfl
    have c0_n04 := d0.at 2 4 rfl rfl
    have c0_n05 := d0.at 2 5 rfl rfl
    have c0_n06 := d0.at 2 6 rfl rfl
    have c0_n07 := d0.at 2 7 rfl rfl
    go_wp2_with fail
    clear d0 c0_n00 c0_n01 c0_n02 c0_n03 c0_n04 c0_n05 c0_n06 c0_n07
    obtain ⟨w2, hw2, y2, al, bs⟩ := bs.alloc (w1.heap.size) rfl [.string ⟨j.toArray⟩, .string ⟨n.toArray⟩, .slice ga g.length gc, .bool true, .bool sb, .bool false, .bool sd, .bool true] 31
    replace o_g := o_g.alloc (w1.heap.size) rfl al
    clear al
    replace q := bs.q
    rw [hw2]
    refine (HN.out w2).mono ?_
    rintro e w3 ⟨rfl, hb⟩
    replace o_g := o_g.ret hb
    replace bs := bs.ret hb
    replace q := bs.q
    clear hb
    have c_x0 := bs.at 2 0 rfl rfl
    have f_x0 := bs.fz 2 0 rfl rfl
    have c_x1 := bs.at 2 1 rfl rfl
    have f_x1 := bs.fz 2 1 rfl rfl
    have c_x2 := bs.at 2 2 rfl rfl
    have f_x2 := bs.fz 2 2 rfl rfl
    have c_x3 := bs.at 2 3 rfl rfl
    have f_x3 := bs.fz 2 3 rfl rfl
    have c_x4 := bs.at 2 4 rfl rfl
    have f_x4 := bs.fz 2 4 rfl rfl
    have c_x5 := bs.at 2 5 rfl rfl
    have f_x5 := bs.fz 2 5 rfl rfl
    have c_x6 := bs.at 2 6 rfl rfl
    have f_x6 := bs.fz 2 6 rfl rfl
    have c_x7 := bs.at 2 7 rfl rfl
    have f_x7 := bs.fz 2 7 rfl rfl
    go_upto_region 6 with fail
    clear c_x0 f_x0 c_x1 f_x1 c_x2 f_x2 c_x3 f_x3 c_x4 f_x4 c_x5 f_x5 c_x6 f_x6 c_x7 f_x7
    obtain ⟨w4, hw4, y4, bs⟩ := bs.sets 2 3 [.bool true, .bool sb, .bool false, .bool false] rfl (Nat.le_of_ble_eq_true rfl)
    replace o_g := o_g.sets 2 rfl hw4
    replace q := bs.q
    simp only [World.setCells, Nat.reduceAdd] at hw4
    rw [hw4]
    have c_x0 := bs.at 2 0 rfl rfl
    have c_x1 := bs.at 2 1 rfl rfl
    have c_x2 := bs.at 2 2 rfl rfl
    have c_x3 := bs.at 2 3 rfl rfl
    have c_x4 := bs.at 2 4 rfl rfl
    have c_x5 := bs.at 2 5 rfl rfl
    have c_x6 := bs.at 2 6 rfl rfl
    have c_x7 := bs.at 2 7 rfl rfl
    have c_z0 := bs.at 1 0 rfl rfl
    have f_z0 := bs.fz 1 0 rfl rfl
    have c_z1 := bs.at 1 1 rfl rfl
    have f_z1 := bs.fz 1 1 rfl rfl
    have c_z2 := bs.at 1 2 rfl rfl
    have f_z2 := bs.fz 1 2 rfl rfl
    have c_z3 := bs.at 1 3 rfl rfl
    have f_z3 := bs.fz 1 3 rfl rfl
    have c_z4 := bs.at 1 4 rfl rfl
    have f_z4 := bs.fz 1 4 rfl rfl
    have c_z5 := bs.at 1 5 rfl rfl
    have f_z5 := bs.fz 1 5 rfl rfl
    have c_z6 := bs.at 1 6 rfl rfl
    have f_z6 := bs.fz 1 6 rfl rfl
    have c_z7 := bs.at 1 7 rfl rfl
    have f_z7 := bs.fz 1 7 rfl rfl
    go_wp2_with fail
    clear c_x0 c_x1 c_x2 c_x3 c_x4 c_x5 c_x6 c_x7 c_z0 f_z0 c_z1 f_z1 c_z2 f_z2 c_z3 f_z3 c_z4 f_z4 c_z5 f_z5 c_z6 f_z6 c_z7 f_z7
    obtain ⟨w5, hw5, y5, bs⟩ := bs.sets 1 0 [.string ⟨j.toArray⟩, .string ⟨n.toArray⟩, .slice ga g.length gc, .bool true, .bool sb, .bool false, .bool false, .bool true] rfl (Nat.le_of_ble_eq_true rfl)
    replace o_g := o_g.sets 1 rfl hw5
    replace q := bs.q
    simp only [World.setCells, Nat.reduceAdd] at hw5
    rw [hw5]
    refine bodyPost_ret (ret_i2 rfl rfl rfl (bs.box 1 rfl)) rfl ⟨ga, gc, rfl, o_g.1, q⟩
   ·obtain ⟨nm, hnm⟩ : ∃ nm, subName true true = nm := ⟨_, rfl⟩
    have e0 : (nm.toList == [116, 111]) = false := by rw [← hnm, Lib.toList_data]; decide
    have e1 : (nm.toList == [98, 111, 116, 104]) = true := by rw [← hnm, Lib.toList_data]; decide
    have e2 : (nm.toList == [102, 114, 111, 109]) = false := by rw [← hnm, Lib.toList_data]; decide
    have hn := HN.out
    simp only [hnm] at hn
    have HN := Lib.hid hn
    clear hn hnm
    obtain ⟨W0, hW, y0, bs⟩ := Sx.start2 w [.slice a0 L0 cap0, .int .i64 ver] 24 [.string ⟨#[]⟩, .string ⟨#[]⟩, .slice none 0 0, .bool false, .bool false, .bool false, .bool false, .bool false] 31
    have HW := Lib.hid hW
    clear hW
    have q := bs.q
    go_enter Tryz.func62, Tryz.ntmps62
    go_wp2_with fail
    rw [HW.out]
    refine (CF.out W0 q).mono ?_
    rintro e w1 ⟨ga, gc, rfl, hrow, hb⟩
    have o_g := OwX.mk' bs hrow
    replace bs := bs.ret hb
    replace q := bs.q
    clear hb
    clear hrow
    have d0 := (bs.lit (w1.heap.size) rfl [.string ⟨j.toArray⟩, .string ⟨n.toArray⟩, .slice ga g.length gc, .bool true, .bool sb, .bool true, .bool sd, .bool true] 31)
    have c0_n00 := d0.at 2 0 rfl rfl
    have c0_n01 := d0.at 2 1 rfl rfl
    have c0_n02 := d0.at 2 2 rfl rfl
    have c0_n03 := d0.at 2 3 rfl rfl
    have c0_n04 := d0.at 2 4 rfl rfl
    have c0_n05 := d0.at 2 5 rfl rfl
    have c0_n06 := d0.at 2 6 rfl rfl
    have c0_n07 := d0.at 2 7 rfl rfl
    go_wp2_with fail
    clear d0 c0_n00 c0_n01 c0_n02 c0_n03 c0_n04 c0_n05 c0_n06 c0_n07
    obtain ⟨w2, hw2, y2, al, bs⟩ := bs.alloc (w1.heap.size) rfl [.string ⟨j.toArray⟩, .string ⟨n.toArray⟩, .slice ga g.length gc, .bool true, .bool sb, .bool true, .bool sd, .bool true] 31
    replace o_g := o_g.alloc (w1.heap.size) rfl al
    clear al
    replace q := bs.q
    rw [hw2]
    refine (HN.out w2).mono ?_
    rintro e w3 ⟨rfl, hb⟩
    replace o_g := o_g.ret hb
    replace bs := bs.ret hb
    replace q := bs.q
    clear hb
    have c_x0 := bs.at 2 0 rfl rfl
    have f_x0 := bs.fz 2 0 rfl rfl
    have c_x1 := bs.at 2 1 rfl rfl
    have f_x1 := bs.fz 2 1 rfl rfl
    have c_x2 := bs.at 2 2 rfl rfl
    have f_x2 := bs.fz 2 2 rfl rfl
    have c_x3 := bs.at 2 3 rfl rfl
    have f_x3 := bs.fz 2 3 rfl rfl
    have c_x4 := bs.at 2 4 rfl rfl
    have f_x4 := bs.fz 2 4 rfl rfl
    have c_x5 := bs.at 2 5 rfl rfl
    have f_x5 := bs.fz 2 5 rfl rfl
    have c_x6 := bs.at 2 6 rfl rfl
    have f_x6 := bs.fz 2 6 rfl rfl
    have c_x7 := bs.at 2 7 rfl rfl
    have f_x7 := bs.fz 2 7 rfl rfl
    go_upto_region 6 with fail
    clear c_x0 f_x0 c_x1 f_x1 c_x2 f_x2 c_x3 f_x3 c_x4 f_x4 c_x5 f_x5 c_x6 f_x6 c_x7 f_x7
    obtain ⟨w4, hw4, y4, bs⟩ := bs.sets 2 3 [.bool true, .bool sb, .bool true, .bool false] rfl (Nat.le_of_ble_eq_true rfl)
    replace o_g := o_g.sets 2 rfl hw4
    replace q := bs.q
    simp only [World.setCells, Nat.reduceAdd] at hw4
    rw [hw4]
    have c_x0 := bs.at 2 0 rfl rfl
    have c_x1 := bs.at 2 1 rfl rfl
    have c_x2 := bs.at 2 2 rfl rfl
    have c_x3 := bs.at 2 3 rfl rfl
    have c_x4 := bs.at 2 4 rfl rfl
    have c_x5 := bs.at 2 5 rfl rfl
    have c_x6 := bs.at 2 6 rfl rfl
    have c_x7 := bs.at 2 7 rfl rfl
    have c_z0 := bs.at 1 0 rfl rfl
    have f_z0 := bs.fz 1 0 rfl rfl
    have c_z1 := bs.at 1 1 rfl rfl
    have f_z1 := bs.fz 1 1 rfl rfl
    have c_z2 := bs.at 1 2 rfl rfl
    have f_z2 := bs.fz 1 2 rfl rfl
    have c_z3 := bs.at 1 3 rfl rfl
    have f_z3 := bs.fz 1 3 rfl rfl
    have c_z4 := bs.at 1 4 rfl rfl
    have f_z4 := bs.fz 1 4 rfl rfl
    have c_z5 := bs.at 1 5 rfl rfl
    have f_z5 := bs.fz 1 5 rfl rfl
    have c_z6 := bs.at 1 6 rfl rfl
    have f_z6 := bs.fz 1 6 rfl rfl
    have c_z7 := bs.at 1 7 rfl rfl
    have f_z7 := bs.fz 1 7 rfl rfl
    go_wp2_with fail
    clear c_x0 c_x1 c_x2 c_x3 c_x4 c_x5 c_x6 c_x7 c_z0 f_z0 c_z1 f_z1 c_z2 f_z2 c_z3 f_z3 c_z4 f_z4 c_z5 f_z5 c_z6 f_z6 c_z7 f_z7
    obtain ⟨w5, hw5, y5, bs⟩ := bs.sets 1 0 [.string ⟨j.toArray⟩, .string ⟨n.toArray⟩, .slice ga g.length gc, .bool true, .bool sb, .bool true, .bool false, .bool true] rfl (Nat.le_of_ble_eq_true rfl)
    replace o_g := o_g.sets 1 rfl hw5
    replace q := bs.q
    simp only [World.setCells, Nat.reduceAdd] at hw5
    rw [hw5]
    refine bodyPost_ret (ret_i2 rfl rfl rfl (bs.box 1 rfl)) rfl ⟨ga, gc, rfl, o_g.1, q⟩
end Go.Proofs.YtfonkblbgadhmaaGreatDoor
