/- (*under).turn. PRINTED BY PROGRAM (gen_romx.py). -/
import Derived.Test.YtfonkblbgadhmaaGreatDoorRoMx
namespace Go.Proofs.YtfonkblbgadhmaaGreatDoor
open Go.RowKit Go.Lib

/-- the contact in another state. -/
def tnI (p : Im) (t : List UInt8) (s : Sb) : Im := ((t, p.1.n, p.1.g, s, p.1.k || (s.1 || (s.2.1 || s.2.2.1))), p.2)
theorem tnI_eq (p : Im) (t : List UInt8) (s : Sb) : (tnI p t s).1 = turnI p.1 t s := rfl
def tnM (M : List Im) (n : Nat) (th : Bool) (y : Im) (s : Sb) : List Im := if quitP y.1 s then goneI M n th else putI M n th y
/-- what turn answers. -/
def TnIs (w0 : World) (U : Nat) (v : Value) (M : List Im) (ver : Int) (p : Im) (n : Nat) (th : Bool) (y : Im) (s : Sb) (w : World) (e : Ending) (w' : World) : Prop :=
 ((quitP y.1 s || (th || decide (M.length < 16))) = false ∧ e = .returned (.tuple #[.bool false, .int .i64 9]) ∧ Below w.heap.size w w') ∨
 ((quitP y.1 s || (th || decide (M.length < 16))) = true ∧ e = .returned (.tuple #[.bool (!quitP y.1 s && pushP p.1 y.1), .int .i64 0]) ∧ ∃ v', Mv w0 U v M v' (tnM M n th y s) w w' ∧
  Ur w0 U v' (tnM M n th y s) (if !quitP y.1 s && pushP p.1 y.1 then nextV ver else ver) p n th w' ∧ ∀ ad, U ∈ ad → (∀ a ∈ ad, a < w.heap.size) → OwnX w0 ad v M w → OwnX w0 ad v' (tnM M n th y s) w')
/-- what is known half way. -/
structure Hw (w0 : World) (v : Value) (M : List Im) (p : Im) (w : World) (bs : Bs) (wx : World) : Prop where
 b : Sx w0 bs wx
 m : OwnX w0 (bs.map Prod.fst) v M wx
 x : OwX w0 (bs.map Prod.fst) 9 1 (gvI p) p.1.g.length (strV p.1.g) wx
 kp : KpB w (bs.map Prod.fst) wx
set_option maxHeartbeats 3000000 in
set_option maxRecDepth 100000 in
theorem ro_turn (w0 : World) (U : Nat) (v : Value) (M : List Im) (ver : Int) (p : Im) (n : Nat) (th : Bool) (t : List UInt8) (sa sb sc sd : Bool) (w : World) (hu : Ur w0 U v M ver p n th w) (hq : Below w0.heap.size w0 w) (hp : p = (it0, (none, 0)) ∨ p ∈ M) (hn : n ≤ M.length) (hn2 : th = true → n < M.length) (hM : M.length ≤ 1000)
  (h0 : 0 ≤ ver) (h1 : ver ≤ mostV) (hs1 : subMay p.1.s = true) (hs2 : subMay (sa, sb, sc, sd) = true) :
  Calls Tryz.prog 56 #[.pointer (some ⟨U, 0, none⟩), .string ⟨t.toArray⟩, .agg #[.bool sa, .bool sb, .bool sc, .bool sd]] w (TnIs w0 U v M ver p n th (tnI p t (sa, sb, sc, sd)) (sa, sb, sc, sd) w) := by
 have bs : Sx w0 [(U, uC v ver p n th)] w := ⟨fun b hb => by rw [List.mem_singleton.1 hb]; exact ⟨hu.bx, hu.le⟩, List.pairwise_singleton .., hq⟩
 have q := bs.q
 have o_m := hu.ow
 have o_x : OwX w0 [U] 9 1 (gvI p) p.1.g.length (strV p.1.g) w := by
  rcases hp with rfl | hp
  ·exact ⟨World.ownsRow_nil _ _ _ _, fun g hg => by cases hg⟩
  ·exact o_m.2 p hp
 have o_k := KpB.start U w
 have HU := Lib.hid hu
 have HQ := Lib.hid hq
 have HP := Lib.hid hp
 have SP := Lib.hid hs1
 have SS := Lib.hid hs2
 clear hu hq hp hs1 hs2
 have d0 := bs.lit w.heap.size rfl [.bool sa, .bool sb, .bool sc, .bool sd] 29
 have e0 := d0.at 0 2 rfl rfl
 have e1 := d0.at 0 3 rfl rfl
 have e2 := d0.at 0 4 rfl rfl
 have e3 := d0.at 0 5 rfl rfl
 have e4 := d0.at 0 6 rfl rfl
 have e5 := d0.at 0 7 rfl rfl
 have e6 := d0.at 0 8 rfl rfl
 have e7 := d0.at 0 9 rfl rfl
 go_enter Tryz.func56, Tryz.ntmps56
 go_wp2_with fail
 clear d0 e0 e1 e2 e3 e4 e5 e6 e7
 obtain ⟨w1, hw1, y1, al, bs⟩ := bs.alloc (w.heap.size) rfl [.bool sa, .bool sb, .bool sc, .bool sd] 29
 replace o_m := o_m.alloc (w.heap.size) rfl al
 replace o_x := o_x.alloc (w.heap.size) rfl al
 replace o_k := o_k.alloc (w.heap.size) rfl al
 clear al
 obtain ⟨w2, hw2, y2, al, bs⟩ := bs.alloc (w.heap.size + 1) (by omega) [.string ⟨p.1.j.toArray⟩, .string ⟨p.1.n.toArray⟩, gvI p, .bool p.1.s.1, .bool p.1.s.2.1, .bool p.1.s.2.2.1, .bool p.1.s.2.2.2, .bool p.1.k] 31
 replace o_m := o_m.alloc (w.heap.size + 1) (by omega) al
 replace o_x := o_x.alloc (w.heap.size + 1) (by omega) al
 replace o_k := o_k.alloc (w.heap.size + 1) (by omega) al
 clear al
 replace q := bs.q
 rw [hw1]
 rw [hw2]
 go_cut [8] (fun s8 wx => s8 = .pointer (some ⟨w.heap.size + 1, 0, none⟩) ∧ Hw w0 v M p w [(U, (uC v ver p n th)), (w.heap.size, [.bool sa, .bool sb, .bool sc, .bool sd]), (w.heap.size + 1, [.string ⟨t.toArray⟩, .string ⟨p.1.n.toArray⟩, gvI p, .bool sa, .bool sb, .bool sc, .bool sd, .bool p.1.k])] wx)
 case first =>
  replace o_m := o_m.ret (Below.drew (Below.refl _ _))
  replace o_x := o_x.ret (Below.drew (Below.refl _ _))
  replace o_k := o_k.ret (Below.drew (Below.refl _ _))
  replace bs := bs.ret (Below.drew (Below.refl _ _))
  replace q := bs.q
  have y3 : w2.drew.heap.size = w2.heap.size := rfl
  refine wp_region_held_drew (S := fun w' => w'.cell? ⟨w.heap.size, 0, none⟩ = some (.bool sa) ∧ w'.cell? ⟨w.heap.size, 1, none⟩ = some (.bool sb) ∧ w'.cell? ⟨w.heap.size, 2, none⟩ = some (.bool sc) ∧ w'.cell? ⟨w.heap.size, 3, none⟩ = some (.bool sd)) (by kernel_rfl) ⟨bs.at 1 0 rfl rfl, bs.at 1 1 rfl rfl, bs.at 1 2 rfl rfl, bs.at 1 3 rfl rfl⟩ (fun hHeld => ?_)
  generalize w2.drew = w3 at bs o_m o_x o_k q y3 hHeld ⊢
  refine tk_start [(0, some 18), (1, some 19), (2, some 20)] ?_
  iterate 3
   refine tk_step (v := ?_) (by kernel_rfl) (by kernel_rfl) (fun _ _ _ h => h) (by assumption) (fun o ho w' hSw => ?_) ?_
   rotate_left
   ·simp only [List.getElem?_toArray, List.getElem?_cons_succ, List.getElem?_cons_zero, Option.some.injEq] at ho; subst ho; (try dsimp only at hSw); go_simp; try with_reducible rfl
   simp only [Act.put, List.setIfInBounds_toArray, List.set_cons_zero, List.set_cons_succ]
  refine tk_end ?_
  refine tk_call (i := 3) (by kernel_rfl) (by kernel_rfl) (fun o ho K hK => ?_)
  simp only [List.getElem?_toArray, List.getElem?_cons_succ, List.getElem?_cons_zero, Option.some.injEq] at ho
  subst ho
  have c0 := bs.at 2 0 rfl rfl
  have f0 := bs.fz 2 0 rfl rfl
  go_simp
  clear c0 f0
  obtain ⟨w4, hw4, y4, bs⟩ := bs.sets 2 0 [.string ⟨t.toArray⟩] rfl (Nat.le_of_ble_eq_true rfl)
  replace o_m := o_m.sets 2 rfl hw4
  replace o_x := o_x.sets 2 rfl hw4
  replace o_k := o_k.sets 2 rfl hw4
  replace q := bs.q
  simp only [World.setCells] at hw4
  rw [hw4]
  clear hHeld
  refine hK.out _ _ ⟨bs.at 1 0 rfl rfl, bs.at 1 1 rfl rfl, bs.at 1 2 rfl rfl, bs.at 1 3 rfl rfl⟩ (fun hHeld => ?_)
  clear hK K
  refine tk_on (i := 4) (some 21) (v := ?_) (by kernel_rfl) (by kernel_rfl) (by kernel_rfl) (by kernel_rfl) (fun _ _ _ h => h) (by assumption) (fun o ho w' hSw => ?_) ?_
  rotate_left
  ·(simp only [List.getElem?_toArray, List.getElem?_cons_succ, List.getElem?_cons_zero, Option.some.injEq] at ho; subst ho; (try dsimp only at hSw); go_simp; try with_reducible rfl)
  simp only [Act.put, List.setIfInBounds_toArray, List.set_cons_zero, List.set_cons_succ]
  refine tk_call (i := 5) (by kernel_rfl) (by kernel_rfl) (fun o ho K hK => ?_)
  simp only [List.getElem?_toArray, List.getElem?_cons_succ, List.getElem?_cons_zero, Option.some.injEq] at ho
  subst ho
  have c3 := bs.at 2 3 rfl rfl
  have c4 := bs.at 2 4 rfl rfl
  have c5 := bs.at 2 5 rfl rfl
  have c6 := bs.at 2 6 rfl rfl
  have f3 := bs.fz 2 3 rfl rfl
  have f4 := bs.fz 2 4 rfl rfl
  have f5 := bs.fz 2 5 rfl rfl
  have f6 := bs.fz 2 6 rfl rfl
  go_simp
  clear c3 c4 c5 c6 f3 f4 f5 f6
  obtain ⟨w5, hw5, y5, bs⟩ := bs.sets 2 3 [.bool sa, .bool sb, .bool sc, .bool sd] rfl (Nat.le_of_ble_eq_true rfl)
  replace o_m := o_m.sets 2 rfl hw5
  replace o_x := o_x.sets 2 rfl hw5
  replace o_k := o_k.sets 2 rfl hw5
  replace q := bs.q
  simp only [World.setCells, Nat.reduceAdd] at hw5
  rw [hw5]
  clear hHeld
  refine hK.out _ _ ⟨bs.at 1 0 rfl rfl, bs.at 1 1 rfl rfl, bs.at 1 2 rfl rfl, bs.at 1 3 rfl rfl⟩ (fun hHeld => ?_)
  clear hK K
  refine wpAnyH_done (by kernel_rfl) ?_ _
  clear hHeld
  go_wp2_with fail
  go_meet
  exact ⟨rfl, ⟨bs, o_m, o_x, o_k⟩⟩
 case rest =>
  obtain ⟨rfl, hh⟩ := hcut
  clear bs o_m o_x o_k q
  obtain ⟨bs, o_m, o_x, o_k⟩ := hh
  have q := bs.q
  go_upto_region 3 with fail
  go_cut [8] (fun s8 wx => s8 = .pointer (some ⟨w.heap.size + 1, 0, none⟩) ∧ Hw w0 v M p w [(U, (uC v ver p n th)), (w.heap.size, [.bool sa, .bool sb, .bool sc, .bool sd]), (w.heap.size + 1, [.string ⟨t.toArray⟩, .string ⟨p.1.n.toArray⟩, gvI p, .bool sa, .bool sb, .bool sc, .bool sd, .bool (p.1.k || (sa || (sb || sc)))])] wx)
  case first =>
   have c7 := bs.at 2 7 rfl rfl
   have f7 := bs.fz 2 7 rfl rfl
   have e0 := bs.at 1 0 rfl rfl
   have e1 := bs.at 1 1 rfl rfl
   have e2 := bs.at 1 2 rfl rfl
   obtain ⟨k, hk⟩ : ∃ k, p.1.k = k := ⟨_, rfl⟩
   have key : ∀ W, wc.setCell ⟨w.heap.size + 1, 7, none⟩ (.bool (p.1.k || (sa || (sb || sc)))) = W → Hw w0 v M p w [(U, (uC v ver p n th)), (w.heap.size, [.bool sa, .bool sb, .bool sc, .bool sd]), (w.heap.size + 1, [.string ⟨t.toArray⟩, .string ⟨p.1.n.toArray⟩, gvI p, .bool sa, .bool sb, .bool sc, .bool sd, .bool (p.1.k || (sa || (sb || sc)))])] W := fun W hW => by
    obtain ⟨W', hW', -, b'⟩ := bs.sets 2 7 [.bool (p.1.k || (sa || (sb || sc)))] rfl (Nat.le_of_ble_eq_true rfl)
    have hh : W' = W := by rw [← hW', ← hW]; rfl
    subst hh
    exact ⟨b', o_m.sets 2 rfl hW', o_x.sets 2 rfl hW', o_k.sets 2 rfl hW'⟩
   rw [hk] at key
   have KY := Lib.hid key
   clear key
   cases k with
   | true => (go_wp2_with fail; go_meet; exact ⟨rfl, by rw [hk]; exact KY.out _ rfl⟩)
   | false =>
    cases sa with
    | true => (go_wp2_with fail; go_meet; exact ⟨rfl, by rw [hk]; exact KY.out _ rfl⟩)
    | false =>
     cases sb with
     | true => (go_wp2_with fail; go_meet; exact ⟨rfl, by rw [hk]; exact KY.out _ rfl⟩)
     | false => (cases sc <;> (go_wp2_with fail; go_meet; exact ⟨rfl, by rw [hk]; exact KY.out _ rfl⟩))
  case rest =>
   obtain ⟨rfl, hh⟩ := hcut
   clear bs o_m o_x o_k q
   obtain ⟨bs, o_m, o_x, o_k⟩ := hh
   have q := bs.q
   obtain ⟨yk, hyk⟩ : ∃ yk, (p.1.k || (sa || (sb || sc))) = yk := ⟨_, rfl⟩
   rw [hyk] at bs
   have ur : Ur w0 U v M ver p n th wc := ⟨bs.box 0 rfl, o_m.sub (by simp), HU.out.le⟩
   cases yk with
   | false =>
    simp only [Bool.or_eq_false_iff] at hyk
    obtain ⟨hk, rfl, rfl, rfl⟩ := hyk
    cases sd with
    | false =>
     have hYI : tnI p t (false, false, false, false) = (((t, p.1.n, p.1.g, (false, false, false, false), false), p.2) : Im) := by unfold tnI; rw [hk]; rfl
     have hqt : quitP (tnI p t (false, false, false, false)).1 (false, false, false, false) = true := by rw [hYI]; rfl
     have CG := Lib.hid (ro_gone w0 U v M ver p n th wc ur hn2 hM)
     have EQ := eql_sub
     have EG := eg_sub
     have c0 := bs.at 1 0 rfl rfl
     have c1 := bs.at 1 1 rfl rfl
     have c2 := bs.at 1 2 rfl rfl
     have c3 := bs.at 1 3 rfl rfl
     have c7 := bs.at 2 7 rfl rfl
     have HYI := Lib.hid hYI
     have HQT := Lib.hid hqt
     clear hYI hqt
     go_wp2_with fail
     refine CG.out.mono ?_
     rintro e w1 ⟨rfl, v', mv, ur1, cl⟩
     clear c0 c1 c2 c3 c7
     go_wp2_with fail
     go_ret2
     have kp := o_k.kp.up mv.kp
     have hvb : ∀ g, v'.ownBlock = some g → v.ownBlock = some g ∨ w.heap.size ≤ g := fun g hg => (mv.vb g hg).imp id (fun h => Nat.le_trans o_k.1.size h)
     unfold TnIs tnM
     rw [HQT.out]
     refine .inr ⟨rfl, rfl, v', Mv.of HU.out.ow HQ.out (bs.q.trans mv.q) kp.1 hvb, ur1, fun ad _ ha ho => ur1.ow.re hvb (fun q hq => ?_) ho ha⟩
     unfold goneI at hq
     refine .inr ⟨q, ?_, rfl⟩
     split at hq
     ·exact List.mem_of_mem_eraseIdx hq
     ·exact hq
    | true =>
     have hYI : tnI p t (false, false, false, true) = (((t, p.1.n, p.1.g, (false, false, false, true), false), p.2) : Im) := by unfold tnI; rw [hk]; rfl
     have hqt : quitP (tnI p t (false, false, false, true)).1 (false, false, false, true) = false := by rw [hYI]; rfl
     have CP := Lib.hid (ro_put w0 U v M ver p n th (((t, p.1.n, p.1.g, (false, false, false, true), false), p.2) : Im) wc ur (o_x.sub (by simp)) hn hn2 hM)
     have EQ := eql_sub
     have EG := eg_sub
     have c0 := bs.at 1 0 rfl rfl
     have c1 := bs.at 1 1 rfl rfl
     have c2 := bs.at 1 2 rfl rfl
     have c3 := bs.at 1 3 rfl rfl
     have d0 := bs.at 2 0 rfl rfl
     have d1 := bs.at 2 1 rfl rfl
     have d2 := bs.at 2 2 rfl rfl
     have d3 := bs.at 2 3 rfl rfl
     have d4 := bs.at 2 4 rfl rfl
     have d5 := bs.at 2 5 rfl rfl
     have d6 := bs.at 2 6 rfl rfl
     have d7 := bs.at 2 7 rfl rfl
     have HYI := Lib.hid hYI
     have HQT := Lib.hid hqt
     clear hYI hqt
     go_wp2_with fail
     refine CP.out.mono ?_
     rintro e w1 (⟨hc, rfl, hb⟩ | ⟨hc, rfl, v', mv, ur1, cl⟩)
     ·clear c0 c1 c2 c3 d0 d1 d2 d3 d4 d5 d6 d7
      have HC := Lib.hid hc
      clear hc
      go_wp2_with fail
      go_ret2
      unfold TnIs
      rw [HQT.out]
      exact .inl ⟨HC.out, rfl, o_k.1.trans (hb.mono o_k.1.size)⟩
     ·clear c0 c1 c2 c3 d0 d1 d2 d3 d4 d5 d6 d7
      have kp := o_k.kp.up mv.kp
      have hvb : ∀ g, v'.ownBlock = some g → v.ownBlock = some g ∨ w.heap.size ≤ g := fun g hg => (mv.vb g hg).imp id (fun h => Nat.le_trans o_k.1.size h)
      have hof := cl _ (by simp) bs.ltm o_m o_x
      have bs1 := bs.turned 0 rfl mv (fun g hg => o_m.1.2 g hg) ur1.bx
      clear bs o_m o_x o_k q cl ur mv
      have bs := bs1
      have q := bs.q
      clear bs1
      obtain ⟨MM, hMM⟩ : ∃ MM, putI M n th (((t, p.1.n, p.1.g, (false, false, false, true), false), p.2) : Im) = MM := ⟨_, rfl⟩
      rw [hMM] at hof ur1
      have HVB := Lib.hid hvb
      have HC := Lib.hid hc
      have HMM := Lib.hid hMM
      have o_m := hof
      have o_k := kp
      clear hof kp hvb hc hMM ur1
      have hmem : ∀ q ∈ MM, (gvI q).ownBlock = none ∨ ∃ q' ∈ M, (gvI q).ownBlock = (gvI q').ownBlock := fun q hq => by
       rw [← HMM.out] at hq
       have hy : (gvI (((t, p.1.n, p.1.g, (false, false, false, true), false), p.2) : Im)).ownBlock = none ∨ ∃ q' ∈ M, (gvI (((t, p.1.n, p.1.g, (false, false, false, true), false), p.2) : Im)).ownBlock = (gvI q').ownBlock := by
        rcases HP.out with rfl | hp
        ·exact .inl rfl
        ·exact .inr ⟨p, hp, rfl⟩
       have hq2 : q = (((t, p.1.n, p.1.g, (false, false, false, true), false), p.2) : Im) ∨ q ∈ M := by
        unfold putI at hq
        split at hq
        ·exact (List.mem_or_eq_of_mem_set hq).symm
        ·rcases List.mem_append.1 hq with h | h
         ·exact .inr (List.mem_of_mem_take h)
         ·rcases List.mem_cons.1 h with h | h
          ·exact .inl h
          ·exact .inr (List.mem_of_mem_drop h)
       rcases hq2 with rfl | h
       ·exact hy
       ·exact .inr ⟨q, h, rfl⟩
      have HMEM := Lib.hid hmem
      clear hmem
      have c0 := bs.at 0 2 rfl rfl
      have c1 := bs.at 0 3 rfl rfl
      have c2 := bs.at 0 4 rfl rfl
      have c3 := bs.at 0 5 rfl rfl
      have c4 := bs.at 0 6 rfl rfl
      have c5 := bs.at 0 7 rfl rfl
      have c6 := bs.at 0 8 rfl rfl
      have c7 := bs.at 0 9 rfl rfl
      obtain ⟨XA, hXA⟩ : ∃ XA, (seenP p.1).1 = XA := ⟨_, rfl⟩
      obtain ⟨XB, hXB⟩ : ∃ XB, (seenP p.1).2 = XB := ⟨_, rfl⟩
      obtain ⟨YA, hYA⟩ : ∃ YA, (seenP (((t, p.1.n, p.1.g, (false, false, false, true), false), p.2) : Im).1).1 = YA := ⟨_, rfl⟩
      obtain ⟨YB, hYB⟩ : ∃ YB, (seenP (((t, p.1.n, p.1.g, (false, false, false, true), false), p.2) : Im).1).2 = YB := ⟨_, rfl⟩
      have hpp : pushP p.1 (((t, p.1.n, p.1.g, (false, false, false, true), false), p.2) : Im).1 = !((XA == YA) && (XB == YB)) := by unfold pushP; rw [hXA, hXB, hYA, hYB]
      have CSX := fun W => ro_seen p W SP.out
      have CSY := fun W => ro_seen (((t, p.1.n, p.1.g, (false, false, false, true), false), p.2) : Im) W SS.out
      simp only [hXA, hXB, itA, hk] at CSX
      simp only [hYA, hYB] at CSY
      have CSX := Lib.hid CSX
      have CSY := Lib.hid CSY
      have HPP := Lib.hid hpp
      clear hXA hXB hYA hYB hpp
      go_wp2_with fail
      refine (CSX.out _).mono ?_
      rintro e w51 ⟨rfl, hb⟩
      clear c0 c1 c2 c3 c4 c5 c6 c7
      replace o_m := o_m.ret hb
      replace o_k := o_k.ret hb
      replace bs := bs.ret hb
      replace q := bs.q
      clear hb
      have c_x0 := bs.at 2 0 rfl rfl
      have c_x1 := bs.at 2 1 rfl rfl
      have c_x2 := bs.at 2 2 rfl rfl
      have c_x3 := bs.at 2 3 rfl rfl
      have c_x4 := bs.at 2 4 rfl rfl
      have c_x5 := bs.at 2 5 rfl rfl
      have c_x6 := bs.at 2 6 rfl rfl
      have c_x7 := bs.at 2 7 rfl rfl
      go_wp2_with fail
      clear c_x0 c_x1 c_x2 c_x3 c_x4 c_x5 c_x6 c_x7
      refine (CSY.out _).mono ?_
      rintro e w52 ⟨rfl, hb⟩
      replace o_m := o_m.ret hb
      replace o_k := o_k.ret hb
      replace bs := bs.ret hb
      replace q := bs.q
      clear hb
      cases he1 : (XA == YA) with
      | false =>
       have hx1 : (XA != YA) = true := by rw [bne, he1]; rfl
       have ur2 : Ur w0 U v' MM ver p n th w52 := ⟨bs.box 0 rfl, o_m.sub (by simp), HU.out.le⟩
       have CPU := Lib.hid (ro_pushed w0 U v' MM ver p n th w52 ur2 h0 h1)
       clear ur2
       go_wp2_with fail
       refine CPU.out.mono ?_
       rintro e w9 ⟨rfl, mv2, ur2, cl2⟩
       have qe := bs.q.trans mv2.q
       have kpe := o_k.kept mv2.kp HVB.out
       go_wp2_with fail
       go_ret2
       unfold TnIs tnM
       rw [HQT.out]
       simp only [Bool.false_eq_true, if_false, Bool.false_or, Bool.not_false, Bool.true_and]
       rw [HYI.out, HPP.out, HMM.out, he1]
       refine .inr ⟨HC.out, rfl, v', Mv.of HU.out.ow HQ.out qe kpe.1 HVB.out, ur2, fun ad _ ha ho => ur2.ow.re HVB.out HMEM.out ho ha⟩
      | true =>
       cases he2 : (XB == YB) with
       | false =>
        have hx1 : (XA != YA) = false := by rw [bne, he1]; rfl
        have hx2 : (XB != YB) = true := by rw [bne, he2]; rfl
        have ur2 : Ur w0 U v' MM ver p n th w52 := ⟨bs.box 0 rfl, o_m.sub (by simp), HU.out.le⟩
        have CPU := Lib.hid (ro_pushed w0 U v' MM ver p n th w52 ur2 h0 h1)
        clear ur2
        go_wp2_with fail
        refine CPU.out.mono ?_
        rintro e w9 ⟨rfl, mv2, ur2, cl2⟩
        have qe := bs.q.trans mv2.q
        have kpe := o_k.kept mv2.kp HVB.out
        go_wp2_with fail
        go_ret2
        unfold TnIs tnM
        rw [HQT.out]
        simp only [Bool.false_eq_true, if_false, Bool.false_or, Bool.not_false, Bool.true_and]
        rw [HYI.out, HPP.out, HMM.out, he1, he2]
        refine .inr ⟨HC.out, rfl, v', Mv.of HU.out.ow HQ.out qe kpe.1 HVB.out, ur2, fun ad _ ha ho => ur2.ow.re HVB.out HMEM.out ho ha⟩
       | true =>
        have hx1 : (XA != YA) = false := by rw [bne, he1]; rfl
        have hx2 : (XB != YB) = false := by rw [bne, he2]; rfl
        go_wp2_with fail
        go_ret2
        unfold TnIs tnM
        rw [HQT.out]
        simp only [Bool.false_eq_true, if_false, Bool.false_or, Bool.not_false, Bool.true_and]
        rw [HYI.out, HPP.out, HMM.out, he1, he2]
        have ur2 : Ur w0 U v' MM ver p n th w52 := ⟨bs.box 0 rfl, o_m.sub (by simp), HU.out.le⟩
        refine .inr ⟨HC.out, rfl, v', Mv.of HU.out.ow HQ.out bs.q o_k.1 HVB.out, ur2, fun ad _ ha ho => ur2.ow.re HVB.out HMEM.out ho ha⟩
   | true =>
    have hYI : tnI p t (sa, sb, sc, sd) = (((t, p.1.n, p.1.g, (sa, sb, sc, sd), true), p.2) : Im) := by unfold tnI; simp only [hyk]
    have hqt : quitP (tnI p t (sa, sb, sc, sd)).1 (sa, sb, sc, sd) = false := by rw [hYI]; rfl
    have CP := Lib.hid (ro_put w0 U v M ver p n th (((t, p.1.n, p.1.g, (sa, sb, sc, sd), true), p.2) : Im) wc ur (o_x.sub (by simp)) hn hn2 hM)
    have EQ := eql_sub
    have EG := eg_sub
    have c0 := bs.at 1 0 rfl rfl
    have c1 := bs.at 1 1 rfl rfl
    have c2 := bs.at 1 2 rfl rfl
    have c3 := bs.at 1 3 rfl rfl
    have d0 := bs.at 2 0 rfl rfl
    have d1 := bs.at 2 1 rfl rfl
    have d2 := bs.at 2 2 rfl rfl
    have d3 := bs.at 2 3 rfl rfl
    have d4 := bs.at 2 4 rfl rfl
    have d5 := bs.at 2 5 rfl rfl
    have d6 := bs.at 2 6 rfl rfl
    have d7 := bs.at 2 7 rfl rfl
    have HYI := Lib.hid hYI
    have HQT := Lib.hid hqt
    clear hYI hqt
    go_wp2_with fail
    refine CP.out.mono ?_
    rintro e w1 (⟨hc, rfl, hb⟩ | ⟨hc, rfl, v', mv, ur1, cl⟩)
    ·clear c0 c1 c2 c3 d0 d1 d2 d3 d4 d5 d6 d7
     have HC := Lib.hid hc
     clear hc
     go_wp2_with fail
     go_ret2
     unfold TnIs
     rw [HQT.out]
     exact .inl ⟨HC.out, rfl, o_k.1.trans (hb.mono o_k.1.size)⟩
    ·clear c0 c1 c2 c3 d0 d1 d2 d3 d4 d5 d6 d7
     have kp := o_k.kp.up mv.kp
     have hvb : ∀ g, v'.ownBlock = some g → v.ownBlock = some g ∨ w.heap.size ≤ g := fun g hg => (mv.vb g hg).imp id (fun h => Nat.le_trans o_k.1.size h)
     have hof := cl _ (by simp) bs.ltm o_m o_x
     have bs1 := bs.turned 0 rfl mv (fun g hg => o_m.1.2 g hg) ur1.bx
     clear bs o_m o_x o_k q cl ur mv
     have bs := bs1
     have q := bs.q
     clear bs1
     obtain ⟨MM, hMM⟩ : ∃ MM, putI M n th (((t, p.1.n, p.1.g, (sa, sb, sc, sd), true), p.2) : Im) = MM := ⟨_, rfl⟩
     rw [hMM] at hof ur1
     have HVB := Lib.hid hvb
     have HC := Lib.hid hc
     have HMM := Lib.hid hMM
     have o_m := hof
     have o_k := kp
     clear hof kp hvb hc hMM ur1
     have hmem : ∀ q ∈ MM, (gvI q).ownBlock = none ∨ ∃ q' ∈ M, (gvI q).ownBlock = (gvI q').ownBlock := fun q hq => by
      rw [← HMM.out] at hq
      have hy : (gvI (((t, p.1.n, p.1.g, (sa, sb, sc, sd), true), p.2) : Im)).ownBlock = none ∨ ∃ q' ∈ M, (gvI (((t, p.1.n, p.1.g, (sa, sb, sc, sd), true), p.2) : Im)).ownBlock = (gvI q').ownBlock := by
       rcases HP.out with rfl | hp
       ·exact .inl rfl
       ·exact .inr ⟨p, hp, rfl⟩
      have hq2 : q = (((t, p.1.n, p.1.g, (sa, sb, sc, sd), true), p.2) : Im) ∨ q ∈ M := by
       unfold putI at hq
       split at hq
       ·exact (List.mem_or_eq_of_mem_set hq).symm
       ·rcases List.mem_append.1 hq with h | h
        ·exact .inr (List.mem_of_mem_take h)
        ·rcases List.mem_cons.1 h with h | h
         ·exact .inl h
         ·exact .inr (List.mem_of_mem_drop h)
      rcases hq2 with rfl | h
      ·exact hy
      ·exact .inr ⟨q, h, rfl⟩
     have HMEM := Lib.hid hmem
     clear hmem
     have c0 := bs.at 0 2 rfl rfl
     have c1 := bs.at 0 3 rfl rfl
     have c2 := bs.at 0 4 rfl rfl
     have c3 := bs.at 0 5 rfl rfl
     have c4 := bs.at 0 6 rfl rfl
     have c5 := bs.at 0 7 rfl rfl
     have c6 := bs.at 0 8 rfl rfl
     have c7 := bs.at 0 9 rfl rfl
     obtain ⟨XA, hXA⟩ : ∃ XA, (seenP p.1).1 = XA := ⟨_, rfl⟩
     obtain ⟨XB, hXB⟩ : ∃ XB, (seenP p.1).2 = XB := ⟨_, rfl⟩
     obtain ⟨YA, hYA⟩ : ∃ YA, (seenP (((t, p.1.n, p.1.g, (sa, sb, sc, sd), true), p.2) : Im).1).1 = YA := ⟨_, rfl⟩
     obtain ⟨YB, hYB⟩ : ∃ YB, (seenP (((t, p.1.n, p.1.g, (sa, sb, sc, sd), true), p.2) : Im).1).2 = YB := ⟨_, rfl⟩
     have hpp : pushP p.1 (((t, p.1.n, p.1.g, (sa, sb, sc, sd), true), p.2) : Im).1 = !((XA == YA) && (XB == YB)) := by unfold pushP; rw [hXA, hXB, hYA, hYB]
     have CSX := fun W => ro_seen p W SP.out
     have CSY := fun W => ro_seen (((t, p.1.n, p.1.g, (sa, sb, sc, sd), true), p.2) : Im) W SS.out
     simp only [hXA, hXB] at CSX
     simp only [hYA, hYB] at CSY
     have CSX := Lib.hid CSX
     have CSY := Lib.hid CSY
     have HPP := Lib.hid hpp
     clear hXA hXB hYA hYB hpp
     go_wp2_with fail
     refine (CSX.out _).mono ?_
     rintro e w51 ⟨rfl, hb⟩
     clear c0 c1 c2 c3 c4 c5 c6 c7
     replace o_m := o_m.ret hb
     replace o_k := o_k.ret hb
     replace bs := bs.ret hb
     replace q := bs.q
     clear hb
     have c_x0 := bs.at 2 0 rfl rfl
     have c_x1 := bs.at 2 1 rfl rfl
     have c_x2 := bs.at 2 2 rfl rfl
     have c_x3 := bs.at 2 3 rfl rfl
     have c_x4 := bs.at 2 4 rfl rfl
     have c_x5 := bs.at 2 5 rfl rfl
     have c_x6 := bs.at 2 6 rfl rfl
     have c_x7 := bs.at 2 7 rfl rfl
     go_wp2_with fail
     clear c_x0 c_x1 c_x2 c_x3 c_x4 c_x5 c_x6 c_x7
     refine (CSY.out _).mono ?_
     rintro e w52 ⟨rfl, hb⟩
     replace o_m := o_m.ret hb
     replace o_k := o_k.ret hb
     replace bs := bs.ret hb
     replace q := bs.q
     clear hb
     cases he1 : (XA == YA) with
     | false =>
      have hx1 : (XA != YA) = true := by rw [bne, he1]; rfl
      have ur2 : Ur w0 U v' MM ver p n th w52 := ⟨bs.box 0 rfl, o_m.sub (by simp), HU.out.le⟩
      have CPU := Lib.hid (ro_pushed w0 U v' MM ver p n th w52 ur2 h0 h1)
      clear ur2
      go_wp2_with fail
      refine CPU.out.mono ?_
      rintro e w9 ⟨rfl, mv2, ur2, cl2⟩
      have qe := bs.q.trans mv2.q
      have kpe := o_k.kept mv2.kp HVB.out
      go_wp2_with fail
      go_ret2
      unfold TnIs tnM
      rw [HQT.out]
      simp only [Bool.false_eq_true, if_false, Bool.false_or, Bool.not_false, Bool.true_and]
      rw [HYI.out, HPP.out, HMM.out, he1]
      refine .inr ⟨HC.out, rfl, v', Mv.of HU.out.ow HQ.out qe kpe.1 HVB.out, ur2, fun ad _ ha ho => ur2.ow.re HVB.out HMEM.out ho ha⟩
     | true =>
      cases he2 : (XB == YB) with
      | false =>
       have hx1 : (XA != YA) = false := by rw [bne, he1]; rfl
       have hx2 : (XB != YB) = true := by rw [bne, he2]; rfl
       have ur2 : Ur w0 U v' MM ver p n th w52 := ⟨bs.box 0 rfl, o_m.sub (by simp), HU.out.le⟩
       have CPU := Lib.hid (ro_pushed w0 U v' MM ver p n th w52 ur2 h0 h1)
       clear ur2
       go_wp2_with fail
       refine CPU.out.mono ?_
       rintro e w9 ⟨rfl, mv2, ur2, cl2⟩
       have qe := bs.q.trans mv2.q
       have kpe := o_k.kept mv2.kp HVB.out
       go_wp2_with fail
       go_ret2
       unfold TnIs tnM
       rw [HQT.out]
       simp only [Bool.false_eq_true, if_false, Bool.false_or, Bool.not_false, Bool.true_and]
       rw [HYI.out, HPP.out, HMM.out, he1, he2]
       refine .inr ⟨HC.out, rfl, v', Mv.of HU.out.ow HQ.out qe kpe.1 HVB.out, ur2, fun ad _ ha ho => ur2.ow.re HVB.out HMEM.out ho ha⟩
      | true =>
       have hx1 : (XA != YA) = false := by rw [bne, he1]; rfl
       have hx2 : (XB != YB) = false := by rw [bne, he2]; rfl
       go_wp2_with fail
       go_ret2
       unfold TnIs tnM
       rw [HQT.out]
       simp only [Bool.false_eq_true, if_false, Bool.false_or, Bool.not_false, Bool.true_and]
       rw [HYI.out, HPP.out, HMM.out, he1, he2]
       have ur2 : Ur w0 U v' MM ver p n th w52 := ⟨bs.box 0 rfl, o_m.sub (by simp), HU.out.le⟩
       refine .inr ⟨HC.out, rfl, v', Mv.of HU.out.ow HQ.out bs.q o_k.1 HVB.out, ur2, fun ad _ ha ho => ur2.ow.re HVB.out HMEM.out ho ha⟩
end Go.Proofs.YtfonkblbgadhmaaGreatDoor
