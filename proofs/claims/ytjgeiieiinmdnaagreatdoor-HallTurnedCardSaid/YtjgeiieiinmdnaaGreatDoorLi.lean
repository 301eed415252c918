/- HaM1, HaM2, HaM3: put together by mergetpl.py. -/
import Derived.Test.YtjgeiieiinmdnaaGreatDoorLg
import Derived.Test.YtjgeiieiinmdnaaGreatDoorLf
import Derived.Test.YtjgeiieiinmdnaaGreatDoorLh
import Derived.Test.YtjgeiieiinmdnaaGreatDoorLe
namespace Go.Proofs.YtjgeiieiinmdnaaGreatDoor
open Go.RowKit Go.Lib

theorem ret_co2 {fn : Func} {tmps : Array Value} {W : World} {R p q : Nat} {v0 v1 v2 e : Value} (h : fn.results = #[.cell p 25, .tmp q]) (h2 : tmps.getD p undef = .pointer (some ⟨R, 0, none⟩)) (h3 : tmps.getD q undef = e) (k : Bx R [v0, v1, v2] W) :
  (results fn tmps).run Tryz.prog W = .ok (.tuple #[.agg #[v0, v1, v2], e]) W := by
 have c0 := k.at 0 rfl
 have c1 := k.at 1 rfl
 have c2 := k.at 2 rfl
 rw [results_cell_tmp h, h2, h3]
 simp [go_sem, Result.andThen, c0, c1, c2]
theorem turn_no {w w' : World} (e : Int) (hb : Below w.heap.size w w') : TurnIs w (co0, e) (.returned (.tuple #[.agg #[.slice none 0 0, .slice none 0 0, .int .i64 0], .int .i64 e])) w' := ⟨⟨[], (none, 0), [], (none, 0), 0⟩, rfl, rfl, ⟨OwL.nil _ _ _, OwL.nil _ _ _⟩, hb⟩
theorem fi_some {α β : Type} (f : α → β) (nm : β → List UInt8) (t : List UInt8) (L : List α) : (fiG nm (L.map f) t).isSome = (L.find? fun x => nm (f x) == t).isSome := by rw [find_map, Option.isSome_map]
theorem OwL.keepSets {α : Type} {Y : Ly α} {B : Nat} {v : Value} {M : List α} {w w' : World} (h : OwL Y (fun g => B ≤ g) v M w) {A o : Nat} {vs : List Value} (hA : A < B) (e : w.setCells A o vs = w') : OwL Y (fun g => B ≤ g) v M w' := OwL.far h (by omega) e
theorem map_erase {α β : Type} (f : α → β) (L : List α) (k : Nat) : (L.eraseIdx k).map f = (L.map f).eraseIdx k := by
 rw [List.eraseIdx_eq_take_drop_succ, List.eraseIdx_eq_take_drop_succ, List.map_append, List.map_take, List.map_drop]
set_option maxHeartbeats 8000000 in
set_option maxRecDepth 100000 in
theorem ha_Free (p : List Nd → Bool) (c : CoI) (t : List UInt8) (w : World) (h : CoFit p c w) (hm : ML w) : Calls Tryz.prog 39 #[c.v, .string ⟨t.toArray⟩] w (TurnIs w (freeF p c.d t)) := by
 obtain ⟨A, ⟨aa, ac⟩, R, ⟨ra, rc⟩, m⟩ := c
 have CK0 := fun (W : World) (hb : Below w.heap.size w W) => ha_Check p ⟨A, (aa, ac), R, (ra, rc), m⟩ W (h.ret hb) (hm.ret hb)
 have TW0 := fun (W : World) (hb : Below w.heap.size w W) => ha_Twin ⟨A, (aa, ac), R, (ra, rc), m⟩ W (h.sub.ret hb) h.zA h.zR (fun a ha => (h.ac a ha).2) (fun r hr => (h.rs r hr).2)
 obtain ⟨⟨hA, hR⟩, zA, zR, hac, hrs⟩ := h
 simp only at zA zR hac hrs
 have hA : IsL acY (.slice aa A.length ac) A w := hA
 have hR : IsL rsY (.slice ra R.length rc) R w := hR
 have FI0 := fun (W : World) (hb : Below w.heap.size w W) => ha_find_rs ra R.length rc R t W (hR.ret hb) (by omega)
 unfold freeF
 simp only [CoI.d] at CK0 TW0 ⊢
 rw [fi_some]
 show Calls Tryz.prog 39 #[.agg #[.slice aa A.length ac, .slice ra R.length rc, .int .i64 m], .string ⟨t.toArray⟩] w _
 simp only [CoI.v] at CK0 TW0
 obtain ⟨LA, hLA⟩ : ∃ LA, A.length = LA := ⟨_, rfl⟩
 obtain ⟨LR, hLR⟩ : ∃ LR, R.length = LR := ⟨_, rfl⟩
 rw [hLA, hLR] at CK0 TW0
 rw [hLR] at FI0
 rw [hLA, hLR]
 have TW := Lib.hid TW0
 clear TW0
 cases hc : coreD p (A.map AcI.d, R.map RsI.d, m) with
 | false =>
  rw [hc] at CK0
  have CK := Lib.hid (show ∀ W, Below w.heap.size w W → Calls Tryz.prog 30 #[.agg #[.slice aa LA ac, .slice ra LR rc, .int .i64 m]] W (Ret W (.int .i64 8)) from CK0)
  simp only [Bool.false_eq_true, if_false]
  clear CK0 FI0 hA hR hac hrs zA zR hLA hLR hc hm
  obtain ⟨W0, hW, y0, bs⟩ := Sx.start2 w [.slice aa LA ac, .slice ra LR rc, .int .i64 m] 25 [.slice none 0 0, .slice none 0 0, .int .i64 0] 25
  have HW := Lib.hid hW
  clear hW
  have q := bs.q
  go_enter Tryz.func39, Tryz.ntmps39
  go_wp2_with fail
  rw [HW.out]
  have c_c0 := bs.at 0 0 rfl rfl
  have c_c1 := bs.at 0 1 rfl rfl
  have c_c2 := bs.at 0 2 rfl rfl
  go_wp2_with fail
  refine (CK.out W0 q).mono ?_
  rintro e w1 ⟨rfl, hb⟩
  clear c_c0 c_c1 c_c2
  replace bs := bs.ret hb
  replace q := bs.q
  clear hb
  have c_z0 := bs.at 1 0 rfl rfl
  have f_z0 := bs.fz 1 0 rfl rfl
  have c_z1 := bs.at 1 1 rfl rfl
  have f_z1 := bs.fz 1 1 rfl rfl
  have c_z2 := bs.at 1 2 rfl rfl
  have f_z2 := bs.fz 1 2 rfl rfl
  go_wp2_with fail
  clear c_z0 f_z0 c_z1 f_z1 c_z2 f_z2
  obtain ⟨w2, hw2, y2, bs⟩ := bs.sets 1 0 [.slice none 0 0, .slice none 0 0, .int .i64 0] rfl (Nat.le_of_ble_eq_true rfl)
  replace q := bs.q
  simp only [World.setCells, Nat.reduceAdd] at hw2
  rw [hw2]
  exact bodyPost_ret (ret_co2 rfl rfl rfl (bs.box 1 rfl)) rfl (turn_no 8 q)
 | true =>
  rw [hc] at CK0
  have CK := Lib.hid (show ∀ W, Below w.heap.size w W → Calls Tryz.prog 30 #[.agg #[.slice aa LA ac, .slice ra LR rc, .int .i64 m]] W (Ret W (.int .i64 0)) from CK0)
  simp only [if_true]
  rcases idxG_cases (fun x : RsI => x.j == t) R with ⟨hi, hn⟩ | ⟨k, x, hi, hk, hq, hn⟩
  ·have e : (fun x : RsI => reN x.d == t) = fun x => x.j == t := rfl
   rw [e, hn]
   rw [hi] at FI0
   simp only [Option.isSome_none, Bool.false_eq_true, if_false]
   have FI := Lib.hid FI0
   clear CK0 FI0 hA hR hac hrs zA zR hLA hLR hc hm e hn hi
   obtain ⟨W0, hW, y0, bs⟩ := Sx.start2 w [.slice aa LA ac, .slice ra LR rc, .int .i64 m] 25 [.slice none 0 0, .slice none 0 0, .int .i64 0] 25
   have HW := Lib.hid hW
   clear hW
   have q := bs.q
   go_enter Tryz.func39, Tryz.ntmps39
   go_wp2_with fail
   rw [HW.out]
   have c_c0 := bs.at 0 0 rfl rfl
   have c_c1 := bs.at 0 1 rfl rfl
   have c_c2 := bs.at 0 2 rfl rfl
   go_wp2_with fail
   refine (CK.out W0 q).mono ?_
   rintro e w1 ⟨rfl, hb⟩
   clear c_c0 c_c1 c_c2
   replace bs := bs.ret hb
   replace q := bs.q
   clear hb
   have c_c0 := bs.at 0 0 rfl rfl
   have c_c1 := bs.at 0 1 rfl rfl
   have c_c2 := bs.at 0 2 rfl rfl
   go_wp2_with fail
   refine (ha_bound aa ra LA ac LR rc m w1).mono ?_
   rintro e w2 ⟨rfl, hb⟩
   clear c_c0 c_c1 c_c2
   replace bs := bs.ret hb
   replace q := bs.q
   clear hb
   go_wp2_with fail
   refine (FI.out w2 q).mono ?_
   rintro e w3 ⟨rfl, hb⟩
   replace bs := bs.ret hb
   replace q := bs.q
   clear hb
   have c_z0 := bs.at 1 0 rfl rfl
   have f_z0 := bs.fz 1 0 rfl rfl
   have c_z1 := bs.at 1 1 rfl rfl
   have f_z1 := bs.fz 1 1 rfl rfl
   have c_z2 := bs.at 1 2 rfl rfl
   have f_z2 := bs.fz 1 2 rfl rfl
   go_wp2_with fail
   clear c_z0 f_z0 c_z1 f_z1 c_z2 f_z2
   obtain ⟨w4, hw4, y4, bs⟩ := bs.sets 1 0 [.slice none 0 0, .slice none 0 0, .int .i64 0] rfl (Nat.le_of_ble_eq_true rfl)
   replace q := bs.q
   simp only [World.setCells, Nat.reduceAdd] at hw4
   rw [hw4]
   exact bodyPost_ret (ret_co2 rfl rfl rfl (bs.box 1 rfl)) rfl (turn_no 6 q)
  ·have e : (fun x : RsI => reN x.d == t) = fun x => x.j == t := rfl
   rw [e, hn]
   have her := eraseP_idx hi
   rw [hi] at FI0
   simp only [Option.isSome_some, if_true]
   have FI := Lib.hid FI0
   have hkl : k < R.length := by
    rcases Nat.lt_or_ge k R.length with h1 | h1
    ·exact h1
    ·rw [List.getElem?_eq_none h1] at hk; cases hk
   have hw : IntKind.i64.wrap ((k : Int) + 1) = (k : Int) + 1 := IntWalk.i64_in _ (by omega)
   have hfin : (R.eraseIdx k).map RsI.d = (R.map RsI.d).eraseP fun x => reN x == t := by
    rw [her, List.eraseP_map]
    rfl
   have HF := Lib.hid hfin
   have zR' : LR ≤ 1000 := by omega
   rw [hLR] at hkl
   have HLR := Lib.hid hLR
   have HLA := Lib.hid hLA
   clear CK0 FI0 hA hR hac hrs zA zR hLA hLR hc hm e hn hi hk hq her hfin
   obtain ⟨W0, hW, y0, bs⟩ := Sx.start2 w [.slice aa LA ac, .slice ra LR rc, .int .i64 m] 25 [.slice none 0 0, .slice none 0 0, .int .i64 0] 25
   have HW := Lib.hid hW
   clear hW
   have q := bs.q
   go_enter Tryz.func39, Tryz.ntmps39
   go_wp2_with fail
   rw [HW.out]
   have c_c0 := bs.at 0 0 rfl rfl
   have c_c1 := bs.at 0 1 rfl rfl
   have c_c2 := bs.at 0 2 rfl rfl
   go_wp2_with fail
   refine (CK.out W0 q).mono ?_
   rintro e w1 ⟨rfl, hb⟩
   clear c_c0 c_c1 c_c2
   replace bs := bs.ret hb
   replace q := bs.q
   clear hb
   have c_c0 := bs.at 0 0 rfl rfl
   have c_c1 := bs.at 0 1 rfl rfl
   have c_c2 := bs.at 0 2 rfl rfl
   go_wp2_with fail
   refine (ha_bound aa ra LA ac LR rc m w1).mono ?_
   rintro e w2 ⟨rfl, hb⟩
   clear c_c0 c_c1 c_c2
   replace bs := bs.ret hb
   replace q := bs.q
   clear hb
   go_wp2_with fail
   refine (FI.out w2 q).mono ?_
   rintro e w3 ⟨rfl, hb⟩
   replace bs := bs.ret hb
   replace q := bs.q
   clear hb
   have c_c0 := bs.at 0 0 rfl rfl
   have c_c1 := bs.at 0 1 rfl rfl
   have c_c2 := bs.at 0 2 rfl rfl
   go_wp2_with fail
   have hB : w.heap.size + 2 ≤ w3.heap.size := bs.lt _ (List.mem_of_getElem? (i := 1) rfl)
   refine (TW.out w3 q).mono ?_
   rintro e w4 ⟨⟨A2, ⟨a2, c2⟩, R2, ⟨a3, c3⟩, m2⟩, rfl, hd, ⟨ho1, ho2⟩, hb⟩
   simp only [CoI.d, Prod.mk.injEq] at hd
   obtain ⟨hd1, hd2, rfl⟩ := hd
   simp only [CoI.v, CoI.av, CoI.rv] at ho1 ho2 ⊢
   have hl1 : A2.length = A.length := by have := congrArg List.length hd1; simpa using this
   have hl2 : R2.length = R.length := by have := congrArg List.length hd2; simpa using this
   rw [HLA.out] at hl1
   rw [HLR.out] at hl2
   rw [hl1, hl2]
   rw [hl2] at ho1 ho2
   rw [hl1] at ho1
   have o_a : OwU acY (w.heap.size + 2) (.slice a3 LR c3) (.slice a2 LA c2) A2 _ := OwU.of ho1 hB
   have o_r : OwU rsY (w.heap.size + 2) nilV (.slice a3 LR c3) R2 _ := OwU.ofN ho2 hB
   have HD1 := Lib.hid hd1
   have HD2 := Lib.hid hd2
   have HL1 := Lib.hid hl1
   have HL2 := Lib.hid hl2
   clear ho1 ho2 hd1 hd2 hl1 hl2 hB
   clear c_c0 c_c1 c_c2
   replace bs := bs.ret hb
   replace q := bs.q
   clear hb
   have c_c0 := bs.at 0 0 rfl rfl
   have f_c0 := bs.fz 0 0 rfl rfl
   have c_c1 := bs.at 0 1 rfl rfl
   have f_c1 := bs.fz 0 1 rfl rfl
   have c_c2 := bs.at 0 2 rfl rfl
   have f_c2 := bs.fz 0 2 rfl rfl
   go_wp2_with fail
   clear c_c0 f_c0 c_c1 f_c1 c_c2 f_c2
   obtain ⟨w5, hw5, y5, bs⟩ := bs.sets 0 0 [.slice a2 LA c2, .slice a3 LR c3, .int .i64 m2] rfl (Nat.le_of_ble_eq_true rfl)
   replace o_a := o_a.sets (by omega) hw5
   replace o_r := o_r.sets (by omega) hw5
   replace q := bs.q
   simp only [World.setCells, Nat.reduceAdd] at hw5
   rw [hw5]
   have c_c0 := bs.at 0 0 rfl rfl
   have c_c1 := bs.at 0 1 rfl rfl
   have c_c2 := bs.at 0 2 rfl rfl
   go_wp2_with fail
   have hdel := sl_Delete_rs (w.heap.size + 2) (.slice a3 LR c3) R2 k w5 (by have := o_r.row; rw [HL2.out] at this; rw [HL2.out]; exact this) (by rw [HL2.out]; exact hkl) (by rw [HL2.out]; omega)
   refine hdel.mono ?_
   rintro e w70 ⟨v', rfl, hrow2, hgr, hvb⟩
   clear c_c0 c_c1 c_c2
   have hx2 : ∀ x ∈ R2.eraseIdx k, rsY.own (fun g => w.heap.size + 2 ≤ g ∧ (Value.slice a3 LR c3).ownBlock ≠ some g) x w70 := fun x hx => elem_keep (o_r.elem (List.mem_of_mem_eraseIdx hx)) fun j hj hS => hgr.block j hj fun e => hS.2 e.symm
   have hrb : ∀ g, (Value.slice a3 LR c3).ownBlock = some g → w.heap.size + 2 ≤ g := fun g hg => (o_r.row.lt g hg).1
   replace bs := bs.grownB hgr hrb (fun a ha => by simp at ha; omega) (by omega)
   replace q := bs.q
   replace o_a := o_a.grown hgr
   obtain ⟨a4, c4, rfl, -⟩ := row_form hrow2
   have o_v : OwL rsY (fun g => w.heap.size + 2 ≤ g) (.slice a4 (R2.eraseIdx k).length c4) (R2.eraseIdx k) w70 := own_elems hrow2 rfl rfl (fun _ h => h) fun x hx => rsY.ownMono _ _ _ _ (hx2 x hx) fun _ _ hg => hg.1
   clear hx2 hrb hgr hvb o_r hdel hrow2
   obtain ⟨L4, hL4⟩ : ∃ L4, (R2.eraseIdx k).length = L4 := ⟨_, rfl⟩
   rw [hL4] at o_v ⊢
   have HL4 := Lib.hid hL4
   clear hL4
   have c_c0 := bs.at 0 0 rfl rfl
   have f_c0 := bs.fz 0 0 rfl rfl
   have c_c1 := bs.at 0 1 rfl rfl
   have f_c1 := bs.fz 0 1 rfl rfl
   have c_c2 := bs.at 0 2 rfl rfl
   have f_c2 := bs.fz 0 2 rfl rfl
   have c_z0 := bs.at 1 0 rfl rfl
   have f_z0 := bs.fz 1 0 rfl rfl
   have c_z1 := bs.at 1 1 rfl rfl
   have f_z1 := bs.fz 1 1 rfl rfl
   have c_z2 := bs.at 1 2 rfl rfl
   have f_z2 := bs.fz 1 2 rfl rfl
   go_wp2_with fail
   clear c_c0 f_c0 c_c1 f_c1 c_c2 f_c2 c_z0 f_z0 c_z1 f_z1 c_z2 f_z2
   obtain ⟨w71, hw71, y71, bs⟩ := bs.sets 0 1 [.slice a4 L4 c4] rfl (Nat.le_of_ble_eq_true rfl)
   replace o_a := o_a.sets (by omega) hw71
   obtain ⟨w72, hw72, y72, bs⟩ := bs.sets 1 0 [.slice a2 LA c2, .slice a4 L4 c4, .int .i64 m2] rfl (Nat.le_of_ble_eq_true rfl)
   replace o_a := o_a.sets (by omega) hw72
   replace q := bs.q
   have o_v2 := OwL.keepSets (OwL.keepSets o_v (by omega) hw71) (by omega) hw72
   simp only [World.setCells] at hw71
   rw [hw71]
   simp only [World.setCells, Nat.reduceAdd] at hw72
   rw [hw72]
   refine bodyPost_ret (ret_co2 rfl rfl rfl (bs.box 1 rfl)) rfl ⟨⟨A2, (a2, c2), R2.eraseIdx k, (a4, c4), m2⟩, ?_, ?_, ⟨?_, ?_⟩, q⟩
   ·show _ = Ending.returned (.tuple #[.agg #[.slice a2 A2.length c2, .slice a4 (R2.eraseIdx k).length c4, .int .i64 m2], .int .i64 0])
    rw [HL1.out, HL4.out]
    rfl
   ·show (A2.map AcI.d, (R2.eraseIdx k).map RsI.d, m2) = _
    rw [HD1.out, map_erase, HD2.out, ← HF.out, map_erase]
   ·show OwL acY _ (.slice a2 A2.length c2) A2 _
    rw [HL1.out]
    exact OwL.mono o_a.own fun g _ hg => by omega
   ·show OwL rsY _ (.slice a4 (R2.eraseIdx k).length c4) (R2.eraseIdx k) _
    rw [HL4.out]
    exact OwL.mono o_v2 fun g _ hg => by omega
end Go.Proofs.YtjgeiieiinmdnaaGreatDoor
namespace Go.Proofs.YtjgeiieiinmdnaaGreatDoor
open Go.RowKit Go.Lib

set_option maxHeartbeats 16000000 in
set_option maxRecDepth 100000 in
theorem ha_With (p : List Nd → Bool) (c : CoI) (x : RsI) (w : World) (h : CoFit p c w) (hx : RsFit p x w) (hx2 : TwFit x) (hm : ML w) : Calls Tryz.prog 41 #[c.v, x.v] w (TurnIs w (withF p c.d x.d)) := by
 obtain ⟨A, ⟨aa, ac⟩, R, ⟨ra, rc⟩, m⟩ := c
 have CK0 := fun (W : World) (hb : Below w.heap.size w W) => ha_Check p ⟨A, (aa, ac), R, (ra, rc), m⟩ W (h.ret hb) (hm.ret hb)
 have TW0 := fun (W : World) (hb : Below w.heap.size w W) => ha_Twin ⟨A, (aa, ac), R, (ra, rc), m⟩ W (h.sub.ret hb) h.zA h.zR (fun a ha => (h.ac a ha).2) (fun r hr => (h.rs r hr).2)
 obtain ⟨⟨hA, hR⟩, zA, zR, hac, hrs⟩ := h
 simp only at zA zR hac hrs
 have hA : IsL acY (.slice aa A.length ac) A w := hA
 have hR : IsL rsY (.slice ra R.length rc) R w := hR
 have zx := hx.j
 have FI0 := fun (W : World) (hb : Below w.heap.size w W) => ha_find_rs ra R.length rc R x.j W (hR.ret hb) (by omega)
 have MX0 := fun (W : World) (hb : Below w.heap.size w W) => ha_res p x W (hx.ret hb) (hm.ret hb)
 have TX0 := fun (W : World) (hb : Below w.heap.size w W) => ha_twin x W (hx.ret hb).sub hx2
 unfold withF
 simp only [CoI.d] at CK0 TW0 ⊢
 rw [fi_some]
 show Calls Tryz.prog 41 #[.agg #[.slice aa A.length ac, .slice ra R.length rc, .int .i64 m], x.v] w _
 simp only [CoI.v] at CK0 TW0
 obtain ⟨LA, hLA⟩ : ∃ LA, A.length = LA := ⟨_, rfl⟩
 obtain ⟨LR, hLR⟩ : ∃ LR, R.length = LR := ⟨_, rfl⟩
 rw [hLA, hLR] at CK0 TW0
 rw [hLR] at FI0
 rw [hLA, hLR]
 have TW := Lib.hid TW0
 have TX := Lib.hid TX0
 have HM := Lib.hid hm
 clear TW0 TX0
 cases hc : coreD p (A.map AcI.d, R.map RsI.d, m) with
 | false =>
  rw [hc] at CK0
  have CK := Lib.hid (show ∀ W, Below w.heap.size w W → Calls Tryz.prog 30 #[.agg #[.slice aa LA ac, .slice ra LR rc, .int .i64 m]] W (Ret W (.int .i64 8)) from CK0)
  simp only [Bool.false_eq_true, if_false]
  clear CK0 FI0 MX0 hA hR hac hrs zA zR hLA hLR hc hm hx hx2 zx
  obtain ⟨W0, hW, y0, bs⟩ := Sx.start3 w [.slice aa LA ac, .slice ra LR rc, .int .i64 m] 25 [.string ⟨x.j.toArray⟩, .bool x.on, .int .i64 x.pr, x.lv, .bool x.ask, x.sv] 38 [.slice none 0 0, .slice none 0 0, .int .i64 0] 25
  have HW := Lib.hid hW
  clear hW
  have q := bs.q
  go_enter Tryz.func41, Tryz.ntmps41
  go_wp2_with fail
  rw [HW.out]
  have c_c0 := bs.at 0 0 rfl rfl
  have c_c1 := bs.at 0 1 rfl rfl
  have c_c2 := bs.at 0 2 rfl rfl
  go_wp2_with fail
  refine (CK.out W0 q).mono ?_
  rintro e w1 ⟨rfl, hb⟩
  clear c_c0 c_c1 c_c2
  replace bs := bs.ret hb
  replace q := bs.q
  clear hb
  have c_z0 := bs.at 2 0 rfl rfl
  have f_z0 := bs.fz 2 0 rfl rfl
  have c_z1 := bs.at 2 1 rfl rfl
  have f_z1 := bs.fz 2 1 rfl rfl
  have c_z2 := bs.at 2 2 rfl rfl
  have f_z2 := bs.fz 2 2 rfl rfl
  go_wp2_with fail
  clear c_z0 f_z0 c_z1 f_z1 c_z2 f_z2
  obtain ⟨w2, hw2, y2, bs⟩ := bs.sets 2 0 [.slice none 0 0, .slice none 0 0, .int .i64 0] rfl (Nat.le_of_ble_eq_true rfl)
  replace q := bs.q
  simp only [World.setCells, Nat.reduceAdd] at hw2
  rw [hw2]
  exact bodyPost_ret (ret_co2 rfl rfl rfl (bs.box 2 rfl)) rfl (turn_no 8 q)
 | true =>
  rw [hc] at CK0
  have CK := Lib.hid (show ∀ W, Below w.heap.size w W → Calls Tryz.prog 30 #[.agg #[.slice aa LA ac, .slice ra LR rc, .int .i64 m]] W (Ret W (.int .i64 0)) from CK0)
  simp only [if_true]
  have e : (fun y : RsI => reN y.d == reN x.d) = fun y => y.j == x.j := rfl
  rcases idxG_cases (fun y : RsI => y.j == x.j) R with ⟨hi, hn⟩ | ⟨k, y, hi, hk, hq, hn⟩
  ·rw [show (R.find? fun y => reN y.d == x.d.j) = none from hn]
   rw [hi] at FI0
   simp only [Option.isSome_none, Bool.false_eq_true, if_false]
   have FI := Lib.hid FI0
   clear CK0 FI0 MX0 hA hR hac hrs zA zR hLA hLR hc hm hn hi hx hx2 zx e
   obtain ⟨W0, hW, y0, bs⟩ := Sx.start3 w [.slice aa LA ac, .slice ra LR rc, .int .i64 m] 25 [.string ⟨x.j.toArray⟩, .bool x.on, .int .i64 x.pr, x.lv, .bool x.ask, x.sv] 38 [.slice none 0 0, .slice none 0 0, .int .i64 0] 25
   have HW := Lib.hid hW
   clear hW
   have q := bs.q
   go_enter Tryz.func41, Tryz.ntmps41
   go_wp2_with fail
   rw [HW.out]
   have c_c0 := bs.at 0 0 rfl rfl
   have c_c1 := bs.at 0 1 rfl rfl
   have c_c2 := bs.at 0 2 rfl rfl
   go_wp2_with fail
   refine (CK.out W0 q).mono ?_
   rintro e w1 ⟨rfl, hb⟩
   clear c_c0 c_c1 c_c2
   replace bs := bs.ret hb
   replace q := bs.q
   clear hb
   go_wp2_with fail
   replace bs := bs.ret (Below.drew (Below.refl _ _))
   replace q := bs.q
   have y2 : w1.drew.heap.size = w1.heap.size := rfl
   refine wp_region_held_drew (S := fun w' => w'.cell? ⟨w.heap.size, 0, none⟩ = some (.slice aa LA ac) ∧ w'.cell? ⟨w.heap.size, 1, none⟩ = some (.slice ra LR rc) ∧ w'.cell? ⟨w.heap.size, 2, none⟩ = some (.int .i64 m) ∧ w'.cell? ⟨w.heap.size + 1, 0, none⟩ = some (.string ⟨x.j.toArray⟩) ∧ w'.cell? ⟨w.heap.size + 1, 1, none⟩ = some (.bool x.on) ∧ w'.cell? ⟨w.heap.size + 1, 2, none⟩ = some (.int .i64 x.pr) ∧ w'.cell? ⟨w.heap.size + 1, 3, none⟩ = some (x.lv) ∧ w'.cell? ⟨w.heap.size + 1, 4, none⟩ = some (.bool x.ask) ∧ w'.cell? ⟨w.heap.size + 1, 5, none⟩ = some (x.sv)) (by kernel_rfl) ⟨bs.at 0 0 rfl rfl, bs.at 0 1 rfl rfl, bs.at 0 2 rfl rfl, bs.at 1 0 rfl rfl, bs.at 1 1 rfl rfl, bs.at 1 2 rfl rfl, bs.at 1 3 rfl rfl, bs.at 1 4 rfl rfl, bs.at 1 5 rfl rfl⟩ (fun hHeld => ?_)
   generalize w1.drew = w2 at bs q y2 hHeld ⊢
   refine tk_start [(0, some 14), (2, some 16), (3, some 17)] ?_
   iterate 3
    refine tk_step (v := ?_) (by kernel_rfl) (by kernel_rfl) (fun _ _ _ h => h) (by assumption) (fun o ho w' hSw => ?_) ?_
    rotate_left
    ·simp only [List.getElem?_toArray, List.getElem?_cons_succ, List.getElem?_cons_zero, Option.some.injEq] at ho; subst ho; (try dsimp only at hSw); go_simp; try with_reducible rfl
    simp only [Act.put, List.setIfInBounds_toArray, List.set_cons_zero, List.set_cons_succ]
   refine tk_end ?_
   refine tk_call (i := 1) (by kernel_rfl) (by kernel_rfl) (fun o ho K hK => ?_)
   simp only [List.getElem?_toArray, List.getElem?_cons_succ, List.getElem?_cons_zero, Option.some.injEq] at ho
   subst ho
   go_simp
   refine (ha_bound aa ra LA ac LR rc m w2).mono ?_
   rintro e w3 ⟨rfl, hb⟩
   replace bs := bs.ret hb
   replace q := bs.q
   clear hb
   go_simp
   clear hHeld
   refine hK.out _ _ ⟨bs.at 0 0 rfl rfl, bs.at 0 1 rfl rfl, bs.at 0 2 rfl rfl, bs.at 1 0 rfl rfl, bs.at 1 1 rfl rfl, bs.at 1 2 rfl rfl, bs.at 1 3 rfl rfl, bs.at 1 4 rfl rfl, bs.at 1 5 rfl rfl⟩ (fun hHeld => ?_)
   clear hK K
   refine tk_call (i := 4) (by kernel_rfl) (by kernel_rfl) (fun o ho K hK => ?_)
   simp only [List.getElem?_toArray, List.getElem?_cons_succ, List.getElem?_cons_zero, Option.some.injEq] at ho
   subst ho
   go_simp
   refine (FI.out w3 q).mono ?_
   rintro e w4 ⟨rfl, hb⟩
   replace bs := bs.ret hb
   replace q := bs.q
   clear hb
   go_simp
   clear hHeld
   refine hK.out _ _ ⟨bs.at 0 0 rfl rfl, bs.at 0 1 rfl rfl, bs.at 0 2 rfl rfl, bs.at 1 0 rfl rfl, bs.at 1 1 rfl rfl, bs.at 1 2 rfl rfl, bs.at 1 3 rfl rfl, bs.at 1 4 rfl rfl, bs.at 1 5 rfl rfl⟩ (fun hHeld => ?_)
   clear hK K
   refine tk_start [(5, some 19), (6, some 13)] ?_
   iterate 2
    refine tk_step (v := ?_) (by kernel_rfl) (by kernel_rfl) (fun _ _ _ h => h) (by assumption) (fun o ho w' hSw => ?_) ?_
    rotate_left
    ·simp only [List.getElem?_toArray, List.getElem?_cons_succ, List.getElem?_cons_zero, Option.some.injEq] at ho; subst ho; (try dsimp only at hSw); go_simp; try with_reducible rfl
    simp only [Act.put, List.setIfInBounds_toArray, List.set_cons_zero, List.set_cons_succ]
   refine tk_end ?_
   refine wpAnyH_done (by kernel_rfl) ?_ _
   clear hHeld
   have c_z0 := bs.at 2 0 rfl rfl
   have f_z0 := bs.fz 2 0 rfl rfl
   have c_z1 := bs.at 2 1 rfl rfl
   have f_z1 := bs.fz 2 1 rfl rfl
   have c_z2 := bs.at 2 2 rfl rfl
   have f_z2 := bs.fz 2 2 rfl rfl
   go_wp2_with fail
   clear c_z0 f_z0 c_z1 f_z1 c_z2 f_z2
   obtain ⟨w5, hw5, y5, bs⟩ := bs.sets 2 0 [.slice none 0 0, .slice none 0 0, .int .i64 0] rfl (Nat.le_of_ble_eq_true rfl)
   replace q := bs.q
   simp only [World.setCells, Nat.reduceAdd] at hw5
   rw [hw5]
   exact bodyPost_ret (ret_co2 rfl rfl rfl (bs.box 2 rfl)) rfl (turn_no 6 q)
  ·rw [show (R.find? fun y => reN y.d == x.d.j) = some y from hn]
   rw [hi] at FI0
   simp only [Option.isSome_some, if_true]
   have FI := Lib.hid FI0
   cases hmx : resF p x.d with
   | false =>
    rw [hmx] at MX0
    have MX := Lib.hid MX0
    simp only [Bool.false_eq_true, if_false]
    clear CK0 FI0 MX0 hA hR hac hrs zA zR hLA hLR hc hm hn hi hk hq hx hx2 zx e hmx
    obtain ⟨W0, hW, y0, bs⟩ := Sx.start3 w [.slice aa LA ac, .slice ra LR rc, .int .i64 m] 25 [.string ⟨x.j.toArray⟩, .bool x.on, .int .i64 x.pr, x.lv, .bool x.ask, x.sv] 38 [.slice none 0 0, .slice none 0 0, .int .i64 0] 25
    have HW := Lib.hid hW
    clear hW
    have q := bs.q
    go_enter Tryz.func41, Tryz.ntmps41
    go_wp2_with fail
    rw [HW.out]
    have c_c0 := bs.at 0 0 rfl rfl
    have c_c1 := bs.at 0 1 rfl rfl
    have c_c2 := bs.at 0 2 rfl rfl
    go_wp2_with fail
    refine (CK.out W0 q).mono ?_
    rintro e w1 ⟨rfl, hb⟩
    clear c_c0 c_c1 c_c2
    replace bs := bs.ret hb
    replace q := bs.q
    clear hb
    go_wp2_with fail
    replace bs := bs.ret (Below.drew (Below.refl _ _))
    replace q := bs.q
    have y2 : w1.drew.heap.size = w1.heap.size := rfl
    refine wp_region_held_drew (S := fun w' => w'.cell? ⟨w.heap.size, 0, none⟩ = some (.slice aa LA ac) ∧ w'.cell? ⟨w.heap.size, 1, none⟩ = some (.slice ra LR rc) ∧ w'.cell? ⟨w.heap.size, 2, none⟩ = some (.int .i64 m) ∧ w'.cell? ⟨w.heap.size + 1, 0, none⟩ = some (.string ⟨x.j.toArray⟩) ∧ w'.cell? ⟨w.heap.size + 1, 1, none⟩ = some (.bool x.on) ∧ w'.cell? ⟨w.heap.size + 1, 2, none⟩ = some (.int .i64 x.pr) ∧ w'.cell? ⟨w.heap.size + 1, 3, none⟩ = some (x.lv) ∧ w'.cell? ⟨w.heap.size + 1, 4, none⟩ = some (.bool x.ask) ∧ w'.cell? ⟨w.heap.size + 1, 5, none⟩ = some (x.sv)) (by kernel_rfl) ⟨bs.at 0 0 rfl rfl, bs.at 0 1 rfl rfl, bs.at 0 2 rfl rfl, bs.at 1 0 rfl rfl, bs.at 1 1 rfl rfl, bs.at 1 2 rfl rfl, bs.at 1 3 rfl rfl, bs.at 1 4 rfl rfl, bs.at 1 5 rfl rfl⟩ (fun hHeld => ?_)
    generalize w1.drew = w2 at bs q y2 hHeld ⊢
    refine tk_start [(0, some 14), (2, some 16), (3, some 17)] ?_
    iterate 3
     refine tk_step (v := ?_) (by kernel_rfl) (by kernel_rfl) (fun _ _ _ h => h) (by assumption) (fun o ho w' hSw => ?_) ?_
     rotate_left
     ·simp only [List.getElem?_toArray, List.getElem?_cons_succ, List.getElem?_cons_zero, Option.some.injEq] at ho; subst ho; (try dsimp only at hSw); go_simp; try with_reducible rfl
     simp only [Act.put, List.setIfInBounds_toArray, List.set_cons_zero, List.set_cons_succ]
    refine tk_end ?_
    refine tk_call (i := 1) (by kernel_rfl) (by kernel_rfl) (fun o ho K hK => ?_)
    simp only [List.getElem?_toArray, List.getElem?_cons_succ, List.getElem?_cons_zero, Option.some.injEq] at ho
    subst ho
    go_simp
    refine (ha_bound aa ra LA ac LR rc m w2).mono ?_
    rintro e w3 ⟨rfl, hb⟩
    replace bs := bs.ret hb
    replace q := bs.q
    clear hb
    go_simp
    clear hHeld
    refine hK.out _ _ ⟨bs.at 0 0 rfl rfl, bs.at 0 1 rfl rfl, bs.at 0 2 rfl rfl, bs.at 1 0 rfl rfl, bs.at 1 1 rfl rfl, bs.at 1 2 rfl rfl, bs.at 1 3 rfl rfl, bs.at 1 4 rfl rfl, bs.at 1 5 rfl rfl⟩ (fun hHeld => ?_)
    clear hK K
    refine tk_call (i := 4) (by kernel_rfl) (by kernel_rfl) (fun o ho K hK => ?_)
    simp only [List.getElem?_toArray, List.getElem?_cons_succ, List.getElem?_cons_zero, Option.some.injEq] at ho
    subst ho
    go_simp
    refine (FI.out w3 q).mono ?_
    rintro e w4 ⟨rfl, hb⟩
    replace bs := bs.ret hb
    replace q := bs.q
    clear hb
    go_simp
    clear hHeld
    refine hK.out _ _ ⟨bs.at 0 0 rfl rfl, bs.at 0 1 rfl rfl, bs.at 0 2 rfl rfl, bs.at 1 0 rfl rfl, bs.at 1 1 rfl rfl, bs.at 1 2 rfl rfl, bs.at 1 3 rfl rfl, bs.at 1 4 rfl rfl, bs.at 1 5 rfl rfl⟩ (fun hHeld => ?_)
    clear hK K
    refine tk_start [(5, some 19), (6, some 13)] ?_
    iterate 2
     refine tk_step (v := ?_) (by kernel_rfl) (by kernel_rfl) (fun _ _ _ h => h) (by assumption) (fun o ho w' hSw => ?_) ?_
     rotate_left
     ·simp only [List.getElem?_toArray, List.getElem?_cons_succ, List.getElem?_cons_zero, Option.some.injEq] at ho; subst ho; (try dsimp only at hSw); go_simp; try with_reducible rfl
     simp only [Act.put, List.setIfInBounds_toArray, List.set_cons_zero, List.set_cons_succ]
    refine tk_end ?_
    refine wpAnyH_done (by kernel_rfl) ?_ _
    clear hHeld
    have c_x0 := bs.at 1 0 rfl rfl
    have c_x1 := bs.at 1 1 rfl rfl
    have c_x2 := bs.at 1 2 rfl rfl
    have c_x3 := bs.at 1 3 rfl rfl
    have c_x4 := bs.at 1 4 rfl rfl
    have c_x5 := bs.at 1 5 rfl rfl
    go_wp2_with fail
    refine (MX.out w4 q).mono ?_
    rintro e w5 ⟨rfl, hb⟩
    clear c_x0 c_x1 c_x2 c_x3 c_x4 c_x5
    replace bs := bs.ret hb
    replace q := bs.q
    clear hb
    have c_z0 := bs.at 2 0 rfl rfl
    have f_z0 := bs.fz 2 0 rfl rfl
    have c_z1 := bs.at 2 1 rfl rfl
    have f_z1 := bs.fz 2 1 rfl rfl
    have c_z2 := bs.at 2 2 rfl rfl
    have f_z2 := bs.fz 2 2 rfl rfl
    go_wp2_with fail
    clear c_z0 f_z0 c_z1 f_z1 c_z2 f_z2
    obtain ⟨w6, hw6, y6, bs⟩ := bs.sets 2 0 [.slice none 0 0, .slice none 0 0, .int .i64 0] rfl (Nat.le_of_ble_eq_true rfl)
    replace q := bs.q
    simp only [World.setCells, Nat.reduceAdd] at hw6
    rw [hw6]
    exact bodyPost_ret (ret_co2 rfl rfl rfl (bs.box 2 rfl)) rfl (turn_no 2 q)
   | true =>
    rw [hmx] at MX0
    have MX := Lib.hid MX0
    simp only [if_true]
    have hf := co_facts hc
    have hch : chG reN (R.map RsI.d) = true := hf.2.2.2.2.2.2.2
    have hzj : ∀ y ∈ R, y.j.length ≤ 10000 := fun y hy => (hrs y hy).1.j
    have HCH := Lib.hid hch
    have HZJ := Lib.hid hzj
    have HLR := Lib.hid hLR
    have HLA := Lib.hid hLA
    have zA2 : LA ≤ 1000 := by omega
    have zR2 : LR ≤ 1000 := by omega
    clear CK0 FI0 MX0 hA hR hac hrs zA zR hLA hLR hc hm hn hi hk hq hx hx2 e hmx hf hch hzj
    obtain ⟨W0, hW, y0, bs⟩ := Sx.start3 w [.slice aa LA ac, .slice ra LR rc, .int .i64 m] 25 [.string ⟨x.j.toArray⟩, .bool x.on, .int .i64 x.pr, x.lv, .bool x.ask, x.sv] 38 [.slice none 0 0, .slice none 0 0, .int .i64 0] 25
    have HW := Lib.hid hW
    clear hW
    have q := bs.q
    go_enter Tryz.func41, Tryz.ntmps41
    go_wp2_with fail
    rw [HW.out]
    have c_c0 := bs.at 0 0 rfl rfl
    have c_c1 := bs.at 0 1 rfl rfl
    have c_c2 := bs.at 0 2 rfl rfl
    go_wp2_with fail
    refine (CK.out W0 q).mono ?_
    rintro e w1 ⟨rfl, hb⟩
    clear c_c0 c_c1 c_c2
    replace bs := bs.ret hb
    replace q := bs.q
    clear hb
    go_wp2_with fail
    replace bs := bs.ret (Below.drew (Below.refl _ _))
    replace q := bs.q
    have y2 : w1.drew.heap.size = w1.heap.size := rfl
    refine wp_region_held_drew (S := fun w' => w'.cell? ⟨w.heap.size, 0, none⟩ = some (.slice aa LA ac) ∧ w'.cell? ⟨w.heap.size, 1, none⟩ = some (.slice ra LR rc) ∧ w'.cell? ⟨w.heap.size, 2, none⟩ = some (.int .i64 m) ∧ w'.cell? ⟨w.heap.size + 1, 0, none⟩ = some (.string ⟨x.j.toArray⟩) ∧ w'.cell? ⟨w.heap.size + 1, 1, none⟩ = some (.bool x.on) ∧ w'.cell? ⟨w.heap.size + 1, 2, none⟩ = some (.int .i64 x.pr) ∧ w'.cell? ⟨w.heap.size + 1, 3, none⟩ = some (x.lv) ∧ w'.cell? ⟨w.heap.size + 1, 4, none⟩ = some (.bool x.ask) ∧ w'.cell? ⟨w.heap.size + 1, 5, none⟩ = some (x.sv)) (by kernel_rfl) ⟨bs.at 0 0 rfl rfl, bs.at 0 1 rfl rfl, bs.at 0 2 rfl rfl, bs.at 1 0 rfl rfl, bs.at 1 1 rfl rfl, bs.at 1 2 rfl rfl, bs.at 1 3 rfl rfl, bs.at 1 4 rfl rfl, bs.at 1 5 rfl rfl⟩ (fun hHeld => ?_)
    generalize w1.drew = w2 at bs q y2 hHeld ⊢
    refine tk_start [(0, some 14), (2, some 16), (3, some 17)] ?_
    iterate 3
     refine tk_step (v := ?_) (by kernel_rfl) (by kernel_rfl) (fun _ _ _ h => h) (by assumption) (fun o ho w' hSw => ?_) ?_
     rotate_left
     ·simp only [List.getElem?_toArray, List.getElem?_cons_succ, List.getElem?_cons_zero, Option.some.injEq] at ho; subst ho; (try dsimp only at hSw); go_simp; try with_reducible rfl
     simp only [Act.put, List.setIfInBounds_toArray, List.set_cons_zero, List.set_cons_succ]
    refine tk_end ?_
    refine tk_call (i := 1) (by kernel_rfl) (by kernel_rfl) (fun o ho K hK => ?_)
    simp only [List.getElem?_toArray, List.getElem?_cons_succ, List.getElem?_cons_zero, Option.some.injEq] at ho
    subst ho
    go_simp
    refine (ha_bound aa ra LA ac LR rc m w2).mono ?_
    rintro e w3 ⟨rfl, hb⟩
    replace bs := bs.ret hb
    replace q := bs.q
    clear hb
    go_simp
    clear hHeld
    refine hK.out _ _ ⟨bs.at 0 0 rfl rfl, bs.at 0 1 rfl rfl, bs.at 0 2 rfl rfl, bs.at 1 0 rfl rfl, bs.at 1 1 rfl rfl, bs.at 1 2 rfl rfl, bs.at 1 3 rfl rfl, bs.at 1 4 rfl rfl, bs.at 1 5 rfl rfl⟩ (fun hHeld => ?_)
    clear hK K
    refine tk_call (i := 4) (by kernel_rfl) (by kernel_rfl) (fun o ho K hK => ?_)
    simp only [List.getElem?_toArray, List.getElem?_cons_succ, List.getElem?_cons_zero, Option.some.injEq] at ho
    subst ho
    go_simp
    refine (FI.out w3 q).mono ?_
    rintro e w4 ⟨rfl, hb⟩
    replace bs := bs.ret hb
    replace q := bs.q
    clear hb
    go_simp
    clear hHeld
    refine hK.out _ _ ⟨bs.at 0 0 rfl rfl, bs.at 0 1 rfl rfl, bs.at 0 2 rfl rfl, bs.at 1 0 rfl rfl, bs.at 1 1 rfl rfl, bs.at 1 2 rfl rfl, bs.at 1 3 rfl rfl, bs.at 1 4 rfl rfl, bs.at 1 5 rfl rfl⟩ (fun hHeld => ?_)
    clear hK K
    refine tk_start [(5, some 19), (6, some 13)] ?_
    iterate 2
     refine tk_step (v := ?_) (by kernel_rfl) (by kernel_rfl) (fun _ _ _ h => h) (by assumption) (fun o ho w' hSw => ?_) ?_
     rotate_left
     ·simp only [List.getElem?_toArray, List.getElem?_cons_succ, List.getElem?_cons_zero, Option.some.injEq] at ho; subst ho; (try dsimp only at hSw); go_simp; try with_reducible rfl
     simp only [Act.put, List.setIfInBounds_toArray, List.set_cons_zero, List.set_cons_succ]
    refine tk_end ?_
    refine wpAnyH_done (by kernel_rfl) ?_ _
    clear hHeld
    have c_x0 := bs.at 1 0 rfl rfl
    have c_x1 := bs.at 1 1 rfl rfl
    have c_x2 := bs.at 1 2 rfl rfl
    have c_x3 := bs.at 1 3 rfl rfl
    have c_x4 := bs.at 1 4 rfl rfl
    have c_x5 := bs.at 1 5 rfl rfl
    go_wp2_with fail
    refine (MX.out w4 q).mono ?_
    rintro e w5 ⟨rfl, hb⟩
    clear c_x0 c_x1 c_x2 c_x3 c_x4 c_x5
    replace bs := bs.ret hb
    replace q := bs.q
    clear hb
    have c_c0 := bs.at 0 0 rfl rfl
    have c_c1 := bs.at 0 1 rfl rfl
    have c_c2 := bs.at 0 2 rfl rfl
    go_wp2_with fail
    have hB : w.heap.size + 3 ≤ w5.heap.size := bs.lt _ (List.mem_of_getElem? (i := 2) rfl)
    refine (TW.out w5 q).mono ?_
    rintro e w6 ⟨⟨A2, ⟨a2, c2⟩, R2, ⟨a3, c3⟩, m2⟩, rfl, hd, ⟨ho1, ho2⟩, hb⟩
    simp only [CoI.d, Prod.mk.injEq] at hd
    obtain ⟨hd1, hd2, rfl⟩ := hd
    simp only [CoI.v, CoI.av, CoI.rv] at ho1 ho2 ⊢
    have hl1 : A2.length = A.length := by have := congrArg List.length hd1; simpa using this
    have hl2 : R2.length = R.length := by have := congrArg List.length hd2; simpa using this
    rw [HLA.out] at hl1
    rw [HLR.out] at hl2
    rw [hl1, hl2]
    rw [hl2] at ho1 ho2
    rw [hl1] at ho1
    have o_a : OwU acY (w.heap.size + 3) (.slice a3 LR c3) (.slice a2 LA c2) A2 _ := OwU.of ho1 hB
    have o_r : OwU rsY (w.heap.size + 3) nilV (.slice a3 LR c3) R2 _ := OwU.ofN ho2 hB
    have HD1 := Lib.hid hd1
    have HD2 := Lib.hid hd2
    have HL1 := Lib.hid hl1
    have HL2 := Lib.hid hl2
    clear ho1 ho2 hd1 hd2 hl1 hl2 hB
    clear c_c0 c_c1 c_c2
    replace bs := bs.ret hb
    replace q := bs.q
    clear hb
    have c_c0 := bs.at 0 0 rfl rfl
    have f_c0 := bs.fz 0 0 rfl rfl
    have c_c1 := bs.at 0 1 rfl rfl
    have f_c1 := bs.fz 0 1 rfl rfl
    have c_c2 := bs.at 0 2 rfl rfl
    have f_c2 := bs.fz 0 2 rfl rfl
    go_wp2_with fail
    clear c_c0 f_c0 c_c1 f_c1 c_c2 f_c2
    obtain ⟨w7, hw7, y7, bs⟩ := bs.sets 0 0 [.slice a2 LA c2, .slice a3 LR c3, .int .i64 m2] rfl (Nat.le_of_ble_eq_true rfl)
    replace o_a := o_a.sets (by omega) hw7
    replace o_r := o_r.sets (by omega) hw7
    replace q := bs.q
    simp only [World.setCells, Nat.reduceAdd] at hw7
    rw [hw7]
    go_wp2_with fail
    replace o_a := o_a.ret (Below.drew (Below.refl _ _))
    replace o_r := o_r.ret (Below.drew (Below.refl _ _))
    replace bs := bs.ret (Below.drew (Below.refl _ _))
    replace q := bs.q
    have y8 : w7.drew.heap.size = w7.heap.size := rfl
    refine wp_region_held_drew (S := fun w' => w'.cell? ⟨w.heap.size, 0, none⟩ = some (.slice a2 LA c2) ∧ w'.cell? ⟨w.heap.size, 2, none⟩ = some (.int .i64 m2) ∧ w'.cell? ⟨w.heap.size + 1, 0, none⟩ = some (.string ⟨x.j.toArray⟩) ∧ w'.cell? ⟨w.heap.size + 1, 1, none⟩ = some (.bool x.on) ∧ w'.cell? ⟨w.heap.size + 1, 2, none⟩ = some (.int .i64 x.pr) ∧ w'.cell? ⟨w.heap.size + 1, 3, none⟩ = some (x.lv) ∧ w'.cell? ⟨w.heap.size + 1, 4, none⟩ = some (.bool x.ask) ∧ w'.cell? ⟨w.heap.size + 1, 5, none⟩ = some (x.sv)) (by kernel_rfl) ⟨bs.at 0 0 rfl rfl, bs.at 0 2 rfl rfl, bs.at 1 0 rfl rfl, bs.at 1 1 rfl rfl, bs.at 1 2 rfl rfl, bs.at 1 3 rfl rfl, bs.at 1 4 rfl rfl, bs.at 1 5 rfl rfl⟩ (fun hHeld => ?_)
    generalize w7.drew = w8 at bs o_a o_r q y8 hHeld ⊢
    refine tk_on (i := 2) (some 30) (v := ?_) (by kernel_rfl) (by kernel_rfl) (by kernel_rfl) (by kernel_rfl) (fun _ _ _ h => h) (by assumption) (fun o ho w' hSw => ?_) ?_
    rotate_left
    ·(simp only [List.getElem?_toArray, List.getElem?_cons_succ, List.getElem?_cons_zero, Option.some.injEq] at ho; subst ho; (try dsimp only at hSw); go_simp; try with_reducible rfl)
    simp only [Act.put, List.setIfInBounds_toArray, List.set_cons_zero, List.set_cons_succ]
    refine tk_call (i := 0) (by kernel_rfl) (by kernel_rfl) (fun o ho K hK => ?_)
    simp only [List.getElem?_toArray, List.getElem?_cons_zero, Option.some.injEq] at ho
    subst ho
    have c_c0 := bs.at 0 0 rfl rfl
    have c_c1 := bs.at 0 1 rfl rfl
    have c_c2 := bs.at 0 2 rfl rfl
    go_simp
    clear c_c0 c_c1 c_c2
    clear hHeld
    refine hK.out _ _ ⟨bs.at 0 0 rfl rfl, bs.at 0 2 rfl rfl, bs.at 1 0 rfl rfl, bs.at 1 1 rfl rfl, bs.at 1 2 rfl rfl, bs.at 1 3 rfl rfl, bs.at 1 4 rfl rfl, bs.at 1 5 rfl rfl⟩ (fun hHeld => ?_)
    clear hK K
    refine tk_call (i := 1) (by kernel_rfl) (by kernel_rfl) (fun o ho K hK => ?_)
    simp only [List.getElem?_toArray, List.getElem?_cons_succ, List.getElem?_cons_zero, Option.some.injEq] at ho
    subst ho
    go_simp
    refine (ha_bound a2 a3 LA c2 LR c3 m2 w8).mono ?_
    rintro e w9 ⟨rfl, hb⟩
    replace o_a := o_a.ret hb
    replace o_r := o_r.ret hb
    replace bs := bs.ret hb
    replace q := bs.q
    clear hb
    go_simp
    clear hHeld
    refine hK.out _ _ ⟨bs.at 0 0 rfl rfl, bs.at 0 2 rfl rfl, bs.at 1 0 rfl rfl, bs.at 1 1 rfl rfl, bs.at 1 2 rfl rfl, bs.at 1 3 rfl rfl, bs.at 1 4 rfl rfl, bs.at 1 5 rfl rfl⟩ (fun hHeld => ?_)
    clear hK K
    refine tk_call (i := 3) (by kernel_rfl) (by kernel_rfl) (fun o ho K hK => ?_)
    simp only [List.getElem?_toArray, List.getElem?_cons_succ, List.getElem?_cons_zero, Option.some.injEq] at ho
    subst ho
    go_simp
    have hB : w.heap.size + 3 ≤ w9.heap.size := bs.lt _ (List.mem_of_getElem? (i := 2) rfl)
    refine (TX.out w9 q).mono ?_
    rintro e w10 ⟨r3, rfl, hd3, hown3, hb⟩
    replace o_a := o_a.ret hb
    replace o_r := o_r.ret hb
    replace bs := bs.ret hb
    replace q := bs.q
    clear hb
    have o_x : OwE rsY (w.heap.size + 3) r3 w10 := rsY.ownMono _ _ _ _ hown3 fun g _ hg => Nat.le_trans hB hg
    have H3 := Lib.hid hd3
    clear hd3 hB hown3
    go_simp
    clear hHeld
    refine hK.out _ _ ⟨bs.at 0 0 rfl rfl, bs.at 0 2 rfl rfl, bs.at 1 0 rfl rfl, bs.at 1 1 rfl rfl, bs.at 1 2 rfl rfl, bs.at 1 3 rfl rfl, bs.at 1 4 rfl rfl, bs.at 1 5 rfl rfl⟩ (fun hHeld => ?_)
    clear hK K
    refine tk_call (i := 4) (by kernel_rfl) (by kernel_rfl) (fun o ho K hK => ?_)
    simp only [List.getElem?_toArray, List.getElem?_cons_succ, List.getElem?_cons_zero, Option.some.injEq] at ho
    subst ho
    go_simp
    have hB : w.heap.size + 3 ≤ w10.heap.size := bs.lt _ (List.mem_of_getElem? (i := 2) rfl)
    have hcall := ha_put_rs a3 c3 R2 r3 w10 (by have := o_r.isL; rw [HL2.out]; exact this) (by rw [HL2.out]; omega) (fun y hy => by
     obtain ⟨z, hz, e⟩ := map_mem HD2.out hy
     have e2 : z.j = y.j := congrArg reN e
     rw [← e2]
     exact HZJ.out z hz) (by rw [show r3.j = x.j from congrArg reN H3.out]; exact zx) (by
     have := HCH.out
     rw [← HD2.out, chG_map] at this
     exact this) (HM.out.ret q)
    rw [HL2.out] at hcall
    refine hcall.mono ?_
    rintro e w11 ⟨a5, c5, rfl, hown5, hb⟩
    clear hcall
    replace o_a := o_a.ret hb
    replace o_r := o_r.ret hb
    replace o_x := o_x.ret hb
    replace bs := bs.ret hb
    replace q := bs.q
    obtain ⟨N5, hN5⟩ : ∃ N5, puO (fun y : RsI => y.j) R2 r3 = N5 := ⟨_, rfl⟩
    rw [hN5] at hown5 ⊢
    have o_v : OwV rsY (w.heap.size + 3) (.slice a5 N5.length c5) N5 w11 := own_elems (hown5.mono hB) rfl rfl (fun _ h => h) fun y hy => by
     rw [← hN5] at hy
     rcases puO_mem hy with h | h
     ·exact rsY.ownMono _ _ _ _ (o_r.elem h) fun _ _ hg => hg.1
     ·rw [h]; exact o_x
    obtain ⟨L5, hL5⟩ : ∃ L5, N5.length = L5 := ⟨_, rfl⟩
    rw [hL5] at o_v ⊢
    have HN5 := Lib.hid hN5
    have HL5 := Lib.hid hL5
    clear hb hB hown5 hN5 hL5 o_x
    go_simp
    clear hHeld
    refine hK.out _ _ ⟨bs.at 0 0 rfl rfl, bs.at 0 2 rfl rfl, bs.at 1 0 rfl rfl, bs.at 1 1 rfl rfl, bs.at 1 2 rfl rfl, bs.at 1 3 rfl rfl, bs.at 1 4 rfl rfl, bs.at 1 5 rfl rfl⟩ (fun hHeld => ?_)
    clear hK K
    refine tk_on (i := 5) (some 33) (v := ?_) (by kernel_rfl) (by kernel_rfl) (by kernel_rfl) (by kernel_rfl) (fun _ _ _ h => h) (by assumption) (fun o ho w' hSw => ?_) ?_
    rotate_left
    ·(simp only [List.getElem?_toArray, List.getElem?_cons_succ, List.getElem?_cons_zero, Option.some.injEq] at ho; subst ho; (try dsimp only at hSw); go_simp; try with_reducible rfl)
    simp only [Act.put, List.setIfInBounds_toArray, List.set_cons_zero, List.set_cons_succ]
    refine tk_call (i := 6) (by kernel_rfl) (by kernel_rfl) (fun o ho K hK => ?_)
    simp only [List.getElem?_toArray, List.getElem?_cons_succ, List.getElem?_cons_zero, Option.some.injEq] at ho
    subst ho
    have c_c0 := bs.at 0 0 rfl rfl
    have f_c0 := bs.fz 0 0 rfl rfl
    have c_c1 := bs.at 0 1 rfl rfl
    have f_c1 := bs.fz 0 1 rfl rfl
    have c_c2 := bs.at 0 2 rfl rfl
    have f_c2 := bs.fz 0 2 rfl rfl
    go_simp
    clear c_c0 f_c0 c_c1 f_c1 c_c2 f_c2
    obtain ⟨w12, hw12, y12, bs⟩ := bs.sets 0 1 [.slice a5 L5 c5] rfl (Nat.le_of_ble_eq_true rfl)
    replace o_a := o_a.sets (by omega) hw12
    replace o_r := o_r.sets (by omega) hw12
    replace o_v := o_v.sets (by omega) hw12
    replace q := bs.q
    simp only [World.setCells] at hw12
    rw [hw12]
    clear hHeld
    refine hK.out _ _ ⟨bs.at 0 0 rfl rfl, bs.at 0 2 rfl rfl, bs.at 1 0 rfl rfl, bs.at 1 1 rfl rfl, bs.at 1 2 rfl rfl, bs.at 1 3 rfl rfl, bs.at 1 4 rfl rfl, bs.at 1 5 rfl rfl⟩ (fun hHeld => ?_)
    clear hK K
    refine wpAnyH_done (by kernel_rfl) ?_ _
    clear hHeld
    have c_c0 := bs.at 0 0 rfl rfl
    have c_c1 := bs.at 0 1 rfl rfl
    have c_c2 := bs.at 0 2 rfl rfl
    have c_z0 := bs.at 2 0 rfl rfl
    have f_z0 := bs.fz 2 0 rfl rfl
    have c_z1 := bs.at 2 1 rfl rfl
    have f_z1 := bs.fz 2 1 rfl rfl
    have c_z2 := bs.at 2 2 rfl rfl
    have f_z2 := bs.fz 2 2 rfl rfl
    go_wp2_with fail
    clear c_c0 c_c1 c_c2 c_z0 f_z0 c_z1 f_z1 c_z2 f_z2
    obtain ⟨w13, hw13, y13, bs⟩ := bs.sets 2 0 [.slice a2 LA c2, .slice a5 L5 c5, .int .i64 m2] rfl (Nat.le_of_ble_eq_true rfl)
    replace o_a := o_a.sets (by omega) hw13
    replace o_r := o_r.sets (by omega) hw13
    replace o_v := o_v.sets (by omega) hw13
    replace q := bs.q
    simp only [World.setCells, Nat.reduceAdd] at hw13
    rw [hw13]
    refine bodyPost_ret (ret_co2 rfl rfl rfl (bs.box 2 rfl)) rfl ⟨⟨A2, (a2, c2), N5, (a5, c5), m2⟩, ?_, ?_, ⟨?_, ?_⟩, q⟩
    ·show _ = Ending.returned (.tuple #[.agg #[.slice a2 A2.length c2, .slice a5 N5.length c5, .int .i64 m2], .int .i64 0])
     rw [HL1.out, HL5.out]
     rfl
    ·show (A2.map AcI.d, N5.map RsI.d, m2) = _
     have e5 : N5.map RsI.d = puO reN (R2.map RsI.d) r3.d := by rw [← HN5.out]; exact puO_map (f := RsI.d) (nm := reN) R2 r3
     rw [HD1.out, e5, HD2.out, H3.out]
    ·show OwL acY _ (.slice a2 A2.length c2) A2 _
     rw [HL1.out]
     exact OwL.mono o_a.own fun g _ hg => by omega
    ·show OwL rsY _ (.slice a5 N5.length c5) N5 _
     rw [HL5.out]
     exact OwL.mono o_v fun g _ hg => by omega
end Go.Proofs.YtjgeiieiinmdnaaGreatDoor
namespace Go.Proofs.YtjgeiieiinmdnaaGreatDoor
open Go.RowKit Go.Lib

set_option maxHeartbeats 16000000 in
set_option maxRecDepth 100000 in
theorem ha_Keep (p : List Nd → Bool) (c : CoI) (x : AcI) (w : World) (h : CoFit p c w) (hx : IsItems x.iv x.it w) (hx2 : SmallI x.it) (zx : x.j.length ≤ 10000) (hm : ML w) : Calls Tryz.prog 43 #[c.v, x.v] w (TurnIs w (keepF p c.d x.d)) := by
 obtain ⟨A, ⟨aa, ac⟩, R, ⟨ra, rc⟩, m⟩ := c
 have CK0 := fun (W : World) (hb : Below w.heap.size w W) => ha_Check p ⟨A, (aa, ac), R, (ra, rc), m⟩ W (h.ret hb) (hm.ret hb)
 have TW0 := fun (W : World) (hb : Below w.heap.size w W) => ha_Twin ⟨A, (aa, ac), R, (ra, rc), m⟩ W (h.sub.ret hb) h.zA h.zR (fun a ha => (h.ac a ha).2) (fun r hr => (h.rs r hr).2)
 obtain ⟨⟨hA, hR⟩, zA, zR, hac, hrs⟩ := h
 simp only at zA zR hac hrs
 have hA : IsL acY (.slice aa A.length ac) A w := hA
 have hR : IsL rsY (.slice ra R.length rc) R w := hR
 have FI0 := fun (W : World) (hb : Below w.heap.size w W) => ha_find_ac aa A.length ac A x.j W (hA.ret hb) (by omega)
 have MX0 := fun (W : World) (hb : Below w.heap.size w W) => ha_account x W (hx.ret hb) hx2 zx (hm.ret hb)
 have TX0 := fun (W : World) (hb : Below w.heap.size w W) => ro_Twin x.iv x.ver x.it W (hx.ret hb) hx2.1 (fun q hq => (hx2.2 q hq).2.2.1)
 unfold keepF
 simp only [CoI.d] at CK0 TW0 ⊢
 rw [fi_some]
 show Calls Tryz.prog 43 #[.agg #[.slice aa A.length ac, .slice ra R.length rc, .int .i64 m], x.v] w _
 simp only [CoI.v] at CK0 TW0
 obtain ⟨LA, hLA⟩ : ∃ LA, A.length = LA := ⟨_, rfl⟩
 obtain ⟨LR, hLR⟩ : ∃ LR, R.length = LR := ⟨_, rfl⟩
 rw [hLA, hLR] at CK0 TW0
 rw [hLA] at FI0
 rw [hLA, hLR]
 have TW := Lib.hid TW0
 have TX := Lib.hid TX0
 have HM := Lib.hid hm
 clear TW0 TX0
 cases hc : coreD p (A.map AcI.d, R.map RsI.d, m) with
 | false =>
  rw [hc] at CK0
  have CK := Lib.hid (show ∀ W, Below w.heap.size w W → Calls Tryz.prog 30 #[.agg #[.slice aa LA ac, .slice ra LR rc, .int .i64 m]] W (Ret W (.int .i64 8)) from CK0)
  simp only [Bool.false_eq_true, if_false]
  clear CK0 FI0 MX0 hA hR hac hrs zA zR hLA hLR hc hm hx hx2 zx
  obtain ⟨W0, hW, y0, bs⟩ := Sx.start3 w [.slice aa LA ac, .slice ra LR rc, .int .i64 m] 25 [.string ⟨x.j.toArray⟩, x.iv, .int .i64 x.ver] 33 [.slice none 0 0, .slice none 0 0, .int .i64 0] 25
  have HW := Lib.hid hW
  clear hW
  have q := bs.q
  go_enter Tryz.func43, Tryz.ntmps43
  go_wp2_with fail
  rw [HW.out]
  have c_c0 := bs.at 0 0 rfl rfl
  have c_c1 := bs.at 0 1 rfl rfl
  have c_c2 := bs.at 0 2 rfl rfl
  go_wp2_with fail
  refine (CK.out W0 q).mono ?_
  rintro e w1 ⟨rfl, hb⟩
  clear c_c0 c_c1 c_c2
  replace bs := bs.ret hb
  replace q := bs.q
  clear hb
  have c_z0 := bs.at 2 0 rfl rfl
  have f_z0 := bs.fz 2 0 rfl rfl
  have c_z1 := bs.at 2 1 rfl rfl
  have f_z1 := bs.fz 2 1 rfl rfl
  have c_z2 := bs.at 2 2 rfl rfl
  have f_z2 := bs.fz 2 2 rfl rfl
  go_wp2_with fail
  clear c_z0 f_z0 c_z1 f_z1 c_z2 f_z2
  obtain ⟨w2, hw2, y2, bs⟩ := bs.sets 2 0 [.slice none 0 0, .slice none 0 0, .int .i64 0] rfl (Nat.le_of_ble_eq_true rfl)
  replace q := bs.q
  simp only [World.setCells, Nat.reduceAdd] at hw2
  rw [hw2]
  exact bodyPost_ret (ret_co2 rfl rfl rfl (bs.box 2 rfl)) rfl (turn_no 8 q)
 | true =>
  rw [hc] at CK0
  have CK := Lib.hid (show ∀ W, Below w.heap.size w W → Calls Tryz.prog 30 #[.agg #[.slice aa LA ac, .slice ra LR rc, .int .i64 m]] W (Ret W (.int .i64 0)) from CK0)
  simp only [if_true]
  have e : (fun y : AcI => acN y.d == acN x.d) = fun y => y.j == x.j := rfl
  rcases idxG_cases (fun y : AcI => y.j == x.j) A with ⟨hi, hn⟩ | ⟨k, y, hi, hk, hq, hn⟩
  ·rw [show (A.find? fun y => acN y.d == x.d.fst) = none from hn]
   rw [hi] at FI0
   simp only [Option.isSome_none, Bool.false_eq_true, if_false]
   have FI := Lib.hid FI0
   clear CK0 FI0 MX0 hA hR hac hrs zA zR hLA hLR hc hm hn hi hx hx2 zx e
   obtain ⟨W0, hW, y0, bs⟩ := Sx.start3 w [.slice aa LA ac, .slice ra LR rc, .int .i64 m] 25 [.string ⟨x.j.toArray⟩, x.iv, .int .i64 x.ver] 33 [.slice none 0 0, .slice none 0 0, .int .i64 0] 25
   have HW := Lib.hid hW
   clear hW
   have q := bs.q
   go_enter Tryz.func43, Tryz.ntmps43
   go_wp2_with fail
   rw [HW.out]
   have c_c0 := bs.at 0 0 rfl rfl
   have c_c1 := bs.at 0 1 rfl rfl
   have c_c2 := bs.at 0 2 rfl rfl
   go_wp2_with fail
   refine (CK.out W0 q).mono ?_
   rintro e w1 ⟨rfl, hb⟩
   clear c_c0 c_c1 c_c2
   replace bs := bs.ret hb
   replace q := bs.q
   clear hb
   go_wp2_with fail
   replace bs := bs.ret (Below.drew (Below.refl _ _))
   replace q := bs.q
   have y2 : w1.drew.heap.size = w1.heap.size := rfl
   refine wp_region_held_drew (S := fun w' => w'.cell? ⟨w.heap.size, 0, none⟩ = some (.slice aa LA ac) ∧ w'.cell? ⟨w.heap.size, 1, none⟩ = some (.slice ra LR rc) ∧ w'.cell? ⟨w.heap.size, 2, none⟩ = some (.int .i64 m) ∧ w'.cell? ⟨w.heap.size + 1, 0, none⟩ = some (.string ⟨x.j.toArray⟩) ∧ w'.cell? ⟨w.heap.size + 1, 1, none⟩ = some (x.iv) ∧ w'.cell? ⟨w.heap.size + 1, 2, none⟩ = some (.int .i64 x.ver)) (by kernel_rfl) ⟨bs.at 0 0 rfl rfl, bs.at 0 1 rfl rfl, bs.at 0 2 rfl rfl, bs.at 1 0 rfl rfl, bs.at 1 1 rfl rfl, bs.at 1 2 rfl rfl⟩ (fun hHeld => ?_)
   generalize w1.drew = w2 at bs q y2 hHeld ⊢
   refine tk_start [(0, some 14), (2, some 16), (3, some 17)] ?_
   iterate 3
    refine tk_step (v := ?_) (by kernel_rfl) (by kernel_rfl) (fun _ _ _ h => h) (by assumption) (fun o ho w' hSw => ?_) ?_
    rotate_left
    ·simp only [List.getElem?_toArray, List.getElem?_cons_succ, List.getElem?_cons_zero, Option.some.injEq] at ho; subst ho; (try dsimp only at hSw); go_simp; try with_reducible rfl
    simp only [Act.put, List.setIfInBounds_toArray, List.set_cons_zero, List.set_cons_succ]
   refine tk_end ?_
   refine tk_call (i := 1) (by kernel_rfl) (by kernel_rfl) (fun o ho K hK => ?_)
   simp only [List.getElem?_toArray, List.getElem?_cons_succ, List.getElem?_cons_zero, Option.some.injEq] at ho
   subst ho
   go_simp
   refine (ha_accounts aa ra LA ac LR rc m w2).mono ?_
   rintro e w3 ⟨rfl, hb⟩
   replace bs := bs.ret hb
   replace q := bs.q
   clear hb
   go_simp
   clear hHeld
   refine hK.out _ _ ⟨bs.at 0 0 rfl rfl, bs.at 0 1 rfl rfl, bs.at 0 2 rfl rfl, bs.at 1 0 rfl rfl, bs.at 1 1 rfl rfl, bs.at 1 2 rfl rfl⟩ (fun hHeld => ?_)
   clear hK K
   refine tk_call (i := 4) (by kernel_rfl) (by kernel_rfl) (fun o ho K hK => ?_)
   simp only [List.getElem?_toArray, List.getElem?_cons_succ, List.getElem?_cons_zero, Option.some.injEq] at ho
   subst ho
   go_simp
   refine (FI.out w3 q).mono ?_
   rintro e w4 ⟨rfl, hb⟩
   replace bs := bs.ret hb
   replace q := bs.q
   clear hb
   go_simp
   clear hHeld
   refine hK.out _ _ ⟨bs.at 0 0 rfl rfl, bs.at 0 1 rfl rfl, bs.at 0 2 rfl rfl, bs.at 1 0 rfl rfl, bs.at 1 1 rfl rfl, bs.at 1 2 rfl rfl⟩ (fun hHeld => ?_)
   clear hK K
   refine tk_start [(5, some 19), (6, some 13)] ?_
   iterate 2
    refine tk_step (v := ?_) (by kernel_rfl) (by kernel_rfl) (fun _ _ _ h => h) (by assumption) (fun o ho w' hSw => ?_) ?_
    rotate_left
    ·simp only [List.getElem?_toArray, List.getElem?_cons_succ, List.getElem?_cons_zero, Option.some.injEq] at ho; subst ho; (try dsimp only at hSw); go_simp; try with_reducible rfl
    simp only [Act.put, List.setIfInBounds_toArray, List.set_cons_zero, List.set_cons_succ]
   refine tk_end ?_
   refine wpAnyH_done (by kernel_rfl) ?_ _
   clear hHeld
   have c_z0 := bs.at 2 0 rfl rfl
   have f_z0 := bs.fz 2 0 rfl rfl
   have c_z1 := bs.at 2 1 rfl rfl
   have f_z1 := bs.fz 2 1 rfl rfl
   have c_z2 := bs.at 2 2 rfl rfl
   have f_z2 := bs.fz 2 2 rfl rfl
   go_wp2_with fail
   clear c_z0 f_z0 c_z1 f_z1 c_z2 f_z2
   obtain ⟨w5, hw5, y5, bs⟩ := bs.sets 2 0 [.slice none 0 0, .slice none 0 0, .int .i64 0] rfl (Nat.le_of_ble_eq_true rfl)
   replace q := bs.q
   simp only [World.setCells, Nat.reduceAdd] at hw5
   rw [hw5]
   exact bodyPost_ret (ret_co2 rfl rfl rfl (bs.box 2 rfl)) rfl (turn_no 6 q)
  ·rw [show (A.find? fun y => acN y.d == x.d.fst) = some y from hn]
   rw [hi] at FI0
   simp only [Option.isSome_some, if_true]
   have FI := Lib.hid FI0
   cases hmx : accF x.d with
   | false =>
    rw [hmx] at MX0
    have MX := Lib.hid MX0
    simp only [Bool.false_eq_true, if_false]
    clear CK0 FI0 MX0 hA hR hac hrs zA zR hLA hLR hc hm hn hi hk hq hx hx2 zx e hmx
    obtain ⟨W0, hW, y0, bs⟩ := Sx.start3 w [.slice aa LA ac, .slice ra LR rc, .int .i64 m] 25 [.string ⟨x.j.toArray⟩, x.iv, .int .i64 x.ver] 33 [.slice none 0 0, .slice none 0 0, .int .i64 0] 25
    have HW := Lib.hid hW
    clear hW
    have q := bs.q
    go_enter Tryz.func43, Tryz.ntmps43
    go_wp2_with fail
    rw [HW.out]
    have c_c0 := bs.at 0 0 rfl rfl
    have c_c1 := bs.at 0 1 rfl rfl
    have c_c2 := bs.at 0 2 rfl rfl
    go_wp2_with fail
    refine (CK.out W0 q).mono ?_
    rintro e w1 ⟨rfl, hb⟩
    clear c_c0 c_c1 c_c2
    replace bs := bs.ret hb
    replace q := bs.q
    clear hb
    go_wp2_with fail
    replace bs := bs.ret (Below.drew (Below.refl _ _))
    replace q := bs.q
    have y2 : w1.drew.heap.size = w1.heap.size := rfl
    refine wp_region_held_drew (S := fun w' => w'.cell? ⟨w.heap.size, 0, none⟩ = some (.slice aa LA ac) ∧ w'.cell? ⟨w.heap.size, 1, none⟩ = some (.slice ra LR rc) ∧ w'.cell? ⟨w.heap.size, 2, none⟩ = some (.int .i64 m) ∧ w'.cell? ⟨w.heap.size + 1, 0, none⟩ = some (.string ⟨x.j.toArray⟩) ∧ w'.cell? ⟨w.heap.size + 1, 1, none⟩ = some (x.iv) ∧ w'.cell? ⟨w.heap.size + 1, 2, none⟩ = some (.int .i64 x.ver)) (by kernel_rfl) ⟨bs.at 0 0 rfl rfl, bs.at 0 1 rfl rfl, bs.at 0 2 rfl rfl, bs.at 1 0 rfl rfl, bs.at 1 1 rfl rfl, bs.at 1 2 rfl rfl⟩ (fun hHeld => ?_)
    generalize w1.drew = w2 at bs q y2 hHeld ⊢
    refine tk_start [(0, some 14), (2, some 16), (3, some 17)] ?_
    iterate 3
     refine tk_step (v := ?_) (by kernel_rfl) (by kernel_rfl) (fun _ _ _ h => h) (by assumption) (fun o ho w' hSw => ?_) ?_
     rotate_left
     ·simp only [List.getElem?_toArray, List.getElem?_cons_succ, List.getElem?_cons_zero, Option.some.injEq] at ho; subst ho; (try dsimp only at hSw); go_simp; try with_reducible rfl
     simp only [Act.put, List.setIfInBounds_toArray, List.set_cons_zero, List.set_cons_succ]
    refine tk_end ?_
    refine tk_call (i := 1) (by kernel_rfl) (by kernel_rfl) (fun o ho K hK => ?_)
    simp only [List.getElem?_toArray, List.getElem?_cons_succ, List.getElem?_cons_zero, Option.some.injEq] at ho
    subst ho
    go_simp
    refine (ha_accounts aa ra LA ac LR rc m w2).mono ?_
    rintro e w3 ⟨rfl, hb⟩
    replace bs := bs.ret hb
    replace q := bs.q
    clear hb
    go_simp
    clear hHeld
    refine hK.out _ _ ⟨bs.at 0 0 rfl rfl, bs.at 0 1 rfl rfl, bs.at 0 2 rfl rfl, bs.at 1 0 rfl rfl, bs.at 1 1 rfl rfl, bs.at 1 2 rfl rfl⟩ (fun hHeld => ?_)
    clear hK K
    refine tk_call (i := 4) (by kernel_rfl) (by kernel_rfl) (fun o ho K hK => ?_)
    simp only [List.getElem?_toArray, List.getElem?_cons_succ, List.getElem?_cons_zero, Option.some.injEq] at ho
    subst ho
    go_simp
    refine (FI.out w3 q).mono ?_
    rintro e w4 ⟨rfl, hb⟩
    replace bs := bs.ret hb
    replace q := bs.q
    clear hb
    go_simp
    clear hHeld
    refine hK.out _ _ ⟨bs.at 0 0 rfl rfl, bs.at 0 1 rfl rfl, bs.at 0 2 rfl rfl, bs.at 1 0 rfl rfl, bs.at 1 1 rfl rfl, bs.at 1 2 rfl rfl⟩ (fun hHeld => ?_)
    clear hK K
    refine tk_start [(5, some 19), (6, some 13)] ?_
    iterate 2
     refine tk_step (v := ?_) (by kernel_rfl) (by kernel_rfl) (fun _ _ _ h => h) (by assumption) (fun o ho w' hSw => ?_) ?_
     rotate_left
     ·simp only [List.getElem?_toArray, List.getElem?_cons_succ, List.getElem?_cons_zero, Option.some.injEq] at ho; subst ho; (try dsimp only at hSw); go_simp; try with_reducible rfl
     simp only [Act.put, List.setIfInBounds_toArray, List.set_cons_zero, List.set_cons_succ]
    refine tk_end ?_
    refine wpAnyH_done (by kernel_rfl) ?_ _
    clear hHeld
    have c_x0 := bs.at 1 0 rfl rfl
    have c_x1 := bs.at 1 1 rfl rfl
    have c_x2 := bs.at 1 2 rfl rfl
    go_wp2_with fail
    refine (MX.out w4 q).mono ?_
    rintro e w5 ⟨rfl, hb⟩
    clear c_x0 c_x1 c_x2
    replace bs := bs.ret hb
    replace q := bs.q
    clear hb
    have c_z0 := bs.at 2 0 rfl rfl
    have f_z0 := bs.fz 2 0 rfl rfl
    have c_z1 := bs.at 2 1 rfl rfl
    have f_z1 := bs.fz 2 1 rfl rfl
    have c_z2 := bs.at 2 2 rfl rfl
    have f_z2 := bs.fz 2 2 rfl rfl
    go_wp2_with fail
    clear c_z0 f_z0 c_z1 f_z1 c_z2 f_z2
    obtain ⟨w6, hw6, y6, bs⟩ := bs.sets 2 0 [.slice none 0 0, .slice none 0 0, .int .i64 0] rfl (Nat.le_of_ble_eq_true rfl)
    replace q := bs.q
    simp only [World.setCells, Nat.reduceAdd] at hw6
    rw [hw6]
    exact bodyPost_ret (ret_co2 rfl rfl rfl (bs.box 2 rfl)) rfl (turn_no 2 q)
   | true =>
    rw [hmx] at MX0
    have MX := Lib.hid MX0
    simp only [if_true]
    have hf := co_facts hc
    have hch : chG acN (A.map AcI.d) = true := hf.2.2.2.2.2.1
    have hzj : ∀ y ∈ A, y.j.length ≤ 10000 := fun y hy => (hac y hy).1
    have HCH := Lib.hid hch
    have HZJ := Lib.hid hzj
    have HLR := Lib.hid hLR
    have HLA := Lib.hid hLA
    have zA2 : LA ≤ 1000 := by omega
    have zR2 : LR ≤ 1000 := by omega
    clear CK0 FI0 MX0 hA hR hac hrs zA zR hLA hLR hc hm hn hi hk hq hx hx2 e hmx hf hch hzj
    obtain ⟨W0, hW, y0, bs⟩ := Sx.start3 w [.slice aa LA ac, .slice ra LR rc, .int .i64 m] 25 [.string ⟨x.j.toArray⟩, x.iv, .int .i64 x.ver] 33 [.slice none 0 0, .slice none 0 0, .int .i64 0] 25
    have HW := Lib.hid hW
    clear hW
    have q := bs.q
    go_enter Tryz.func43, Tryz.ntmps43
    go_wp2_with fail
    rw [HW.out]
    have c_c0 := bs.at 0 0 rfl rfl
    have c_c1 := bs.at 0 1 rfl rfl
    have c_c2 := bs.at 0 2 rfl rfl
    go_wp2_with fail
    refine (CK.out W0 q).mono ?_
    rintro e w1 ⟨rfl, hb⟩
    clear c_c0 c_c1 c_c2
    replace bs := bs.ret hb
    replace q := bs.q
    clear hb
    go_wp2_with fail
    replace bs := bs.ret (Below.drew (Below.refl _ _))
    replace q := bs.q
    have y2 : w1.drew.heap.size = w1.heap.size := rfl
    refine wp_region_held_drew (S := fun w' => w'.cell? ⟨w.heap.size, 0, none⟩ = some (.slice aa LA ac) ∧ w'.cell? ⟨w.heap.size, 1, none⟩ = some (.slice ra LR rc) ∧ w'.cell? ⟨w.heap.size, 2, none⟩ = some (.int .i64 m) ∧ w'.cell? ⟨w.heap.size + 1, 0, none⟩ = some (.string ⟨x.j.toArray⟩) ∧ w'.cell? ⟨w.heap.size + 1, 1, none⟩ = some (x.iv) ∧ w'.cell? ⟨w.heap.size + 1, 2, none⟩ = some (.int .i64 x.ver)) (by kernel_rfl) ⟨bs.at 0 0 rfl rfl, bs.at 0 1 rfl rfl, bs.at 0 2 rfl rfl, bs.at 1 0 rfl rfl, bs.at 1 1 rfl rfl, bs.at 1 2 rfl rfl⟩ (fun hHeld => ?_)
    generalize w1.drew = w2 at bs q y2 hHeld ⊢
    refine tk_start [(0, some 14), (2, some 16), (3, some 17)] ?_
    iterate 3
     refine tk_step (v := ?_) (by kernel_rfl) (by kernel_rfl) (fun _ _ _ h => h) (by assumption) (fun o ho w' hSw => ?_) ?_
     rotate_left
     ·simp only [List.getElem?_toArray, List.getElem?_cons_succ, List.getElem?_cons_zero, Option.some.injEq] at ho; subst ho; (try dsimp only at hSw); go_simp; try with_reducible rfl
     simp only [Act.put, List.setIfInBounds_toArray, List.set_cons_zero, List.set_cons_succ]
    refine tk_end ?_
    refine tk_call (i := 1) (by kernel_rfl) (by kernel_rfl) (fun o ho K hK => ?_)
    simp only [List.getElem?_toArray, List.getElem?_cons_succ, List.getElem?_cons_zero, Option.some.injEq] at ho
    subst ho
    go_simp
    refine (ha_accounts aa ra LA ac LR rc m w2).mono ?_
    rintro e w3 ⟨rfl, hb⟩
    replace bs := bs.ret hb
    replace q := bs.q
    clear hb
    go_simp
    clear hHeld
    refine hK.out _ _ ⟨bs.at 0 0 rfl rfl, bs.at 0 1 rfl rfl, bs.at 0 2 rfl rfl, bs.at 1 0 rfl rfl, bs.at 1 1 rfl rfl, bs.at 1 2 rfl rfl⟩ (fun hHeld => ?_)
    clear hK K
    refine tk_call (i := 4) (by kernel_rfl) (by kernel_rfl) (fun o ho K hK => ?_)
    simp only [List.getElem?_toArray, List.getElem?_cons_succ, List.getElem?_cons_zero, Option.some.injEq] at ho
    subst ho
    go_simp
    refine (FI.out w3 q).mono ?_
    rintro e w4 ⟨rfl, hb⟩
    replace bs := bs.ret hb
    replace q := bs.q
    clear hb
    go_simp
    clear hHeld
    refine hK.out _ _ ⟨bs.at 0 0 rfl rfl, bs.at 0 1 rfl rfl, bs.at 0 2 rfl rfl, bs.at 1 0 rfl rfl, bs.at 1 1 rfl rfl, bs.at 1 2 rfl rfl⟩ (fun hHeld => ?_)
    clear hK K
    refine tk_start [(5, some 19), (6, some 13)] ?_
    iterate 2
     refine tk_step (v := ?_) (by kernel_rfl) (by kernel_rfl) (fun _ _ _ h => h) (by assumption) (fun o ho w' hSw => ?_) ?_
     rotate_left
     ·simp only [List.getElem?_toArray, List.getElem?_cons_succ, List.getElem?_cons_zero, Option.some.injEq] at ho; subst ho; (try dsimp only at hSw); go_simp; try with_reducible rfl
     simp only [Act.put, List.setIfInBounds_toArray, List.set_cons_zero, List.set_cons_succ]
    refine tk_end ?_
    refine wpAnyH_done (by kernel_rfl) ?_ _
    clear hHeld
    have c_x0 := bs.at 1 0 rfl rfl
    have c_x1 := bs.at 1 1 rfl rfl
    have c_x2 := bs.at 1 2 rfl rfl
    go_wp2_with fail
    refine (MX.out w4 q).mono ?_
    rintro e w5 ⟨rfl, hb⟩
    clear c_x0 c_x1 c_x2
    replace bs := bs.ret hb
    replace q := bs.q
    clear hb
    have c_c0 := bs.at 0 0 rfl rfl
    have c_c1 := bs.at 0 1 rfl rfl
    have c_c2 := bs.at 0 2 rfl rfl
    go_wp2_with fail
    have hB : w.heap.size + 3 ≤ w5.heap.size := bs.lt _ (List.mem_of_getElem? (i := 2) rfl)
    refine (TW.out w5 q).mono ?_
    rintro e w6 ⟨⟨A2, ⟨a2, c2⟩, R2, ⟨a3, c3⟩, m2⟩, rfl, hd, ⟨ho1, ho2⟩, hb⟩
    simp only [CoI.d, Prod.mk.injEq] at hd
    obtain ⟨hd1, hd2, rfl⟩ := hd
    simp only [CoI.v, CoI.av, CoI.rv] at ho1 ho2 ⊢
    have hl1 : A2.length = A.length := by have := congrArg List.length hd1; simpa using this
    have hl2 : R2.length = R.length := by have := congrArg List.length hd2; simpa using this
    rw [HLA.out] at hl1
    rw [HLR.out] at hl2
    rw [hl1, hl2]
    rw [hl2] at ho1 ho2
    rw [hl1] at ho1
    have o_a : OwU acY (w.heap.size + 3) (.slice a3 LR c3) (.slice a2 LA c2) A2 _ := OwU.of ho1 hB
    have o_r : OwU rsY (w.heap.size + 3) nilV (.slice a3 LR c3) R2 _ := OwU.ofN ho2 hB
    have HD1 := Lib.hid hd1
    have HD2 := Lib.hid hd2
    have HL1 := Lib.hid hl1
    have HL2 := Lib.hid hl2
    clear ho1 ho2 hd1 hd2 hl1 hl2 hB
    clear c_c0 c_c1 c_c2
    replace bs := bs.ret hb
    replace q := bs.q
    clear hb
    have c_c0 := bs.at 0 0 rfl rfl
    have f_c0 := bs.fz 0 0 rfl rfl
    have c_c1 := bs.at 0 1 rfl rfl
    have f_c1 := bs.fz 0 1 rfl rfl
    have c_c2 := bs.at 0 2 rfl rfl
    have f_c2 := bs.fz 0 2 rfl rfl
    go_wp2_with fail
    clear c_c0 f_c0 c_c1 f_c1 c_c2 f_c2
    obtain ⟨w7, hw7, y7, bs⟩ := bs.sets 0 0 [.slice a2 LA c2, .slice a3 LR c3, .int .i64 m2] rfl (Nat.le_of_ble_eq_true rfl)
    replace o_a := o_a.sets (by omega) hw7
    replace o_r := o_r.sets (by omega) hw7
    replace q := bs.q
    simp only [World.setCells, Nat.reduceAdd] at hw7
    rw [hw7]
    go_wp2_with fail
    replace o_a := o_a.ret (Below.drew (Below.refl _ _))
    replace o_r := o_r.ret (Below.drew (Below.refl _ _))
    replace bs := bs.ret (Below.drew (Below.refl _ _))
    replace q := bs.q
    have y8 : w7.drew.heap.size = w7.heap.size := rfl
    refine wp_region_held_drew (S := fun w' => w'.cell? ⟨w.heap.size, 1, none⟩ = some (.slice a3 LR c3) ∧ w'.cell? ⟨w.heap.size, 2, none⟩ = some (.int .i64 m2) ∧ w'.cell? ⟨w.heap.size + 1, 0, none⟩ = some (.string ⟨x.j.toArray⟩) ∧ w'.cell? ⟨w.heap.size + 1, 1, none⟩ = some (x.iv) ∧ w'.cell? ⟨w.heap.size + 1, 2, none⟩ = some (.int .i64 x.ver)) (by kernel_rfl) ⟨bs.at 0 1 rfl rfl, bs.at 0 2 rfl rfl, bs.at 1 0 rfl rfl, bs.at 1 1 rfl rfl, bs.at 1 2 rfl rfl⟩ (fun hHeld => ?_)
    generalize w7.drew = w8 at bs o_a o_r q y8 hHeld ⊢
    refine tk_start [(2, some 30), (3, some 31), (4, some 32), (5, some 33)] ?_
    iterate 4
     refine tk_step (v := ?_) (by kernel_rfl) (by kernel_rfl) (fun _ _ _ h => h) (by assumption) (fun o ho w' hSw => ?_) ?_
     rotate_left
     ·simp only [List.getElem?_toArray, List.getElem?_cons_succ, List.getElem?_cons_zero, Option.some.injEq] at ho; subst ho; (try dsimp only at hSw); go_simp; try with_reducible rfl
     simp only [Act.put, List.setIfInBounds_toArray, List.set_cons_zero, List.set_cons_succ]
    refine tk_end ?_
    refine tk_call (i := 0) (by kernel_rfl) (by kernel_rfl) (fun o ho K hK => ?_)
    simp only [List.getElem?_toArray, List.getElem?_cons_zero, Option.some.injEq] at ho
    subst ho
    have c_c0 := bs.at 0 0 rfl rfl
    have c_c1 := bs.at 0 1 rfl rfl
    have c_c2 := bs.at 0 2 rfl rfl
    go_simp
    clear c_c0 c_c1 c_c2
    clear hHeld
    refine hK.out _ _ ⟨bs.at 0 1 rfl rfl, bs.at 0 2 rfl rfl, bs.at 1 0 rfl rfl, bs.at 1 1 rfl rfl, bs.at 1 2 rfl rfl⟩ (fun hHeld => ?_)
    clear hK K
    refine tk_call (i := 1) (by kernel_rfl) (by kernel_rfl) (fun o ho K hK => ?_)
    simp only [List.getElem?_toArray, List.getElem?_cons_succ, List.getElem?_cons_zero, Option.some.injEq] at ho
    subst ho
    go_simp
    refine (ha_accounts a2 a3 LA c2 LR c3 m2 w8).mono ?_
    rintro e w9 ⟨rfl, hb⟩
    replace o_a := o_a.ret hb
    replace o_r := o_r.ret hb
    replace bs := bs.ret hb
    replace q := bs.q
    clear hb
    go_simp
    clear hHeld
    refine hK.out _ _ ⟨bs.at 0 1 rfl rfl, bs.at 0 2 rfl rfl, bs.at 1 0 rfl rfl, bs.at 1 1 rfl rfl, bs.at 1 2 rfl rfl⟩ (fun hHeld => ?_)
    clear hK K
    refine tk_call (i := 6) (by kernel_rfl) (by kernel_rfl) (fun o ho K hK => ?_)
    simp only [List.getElem?_toArray, List.getElem?_cons_succ, List.getElem?_cons_zero, Option.some.injEq] at ho
    subst ho
    go_simp
    have hB : w.heap.size + 3 ≤ w9.heap.size := bs.lt _ (List.mem_of_getElem? (i := 2) rfl)
    refine (TX.out w9 q).mono ?_
    rintro e w10 ⟨a6, c6, rfl, ⟨M6, hM6, hown6, hb⟩⟩
    replace o_a := o_a.ret hb
    replace o_r := o_r.ret hb
    replace bs := bs.ret hb
    replace q := bs.q
    clear hb
    have hl6 : (x.it.map Prod.fst).length = M6.length := by rw [← hM6, List.length_map]
    rw [hl6] at hown6 ⊢
    obtain ⟨r3, hr3⟩ : ∃ r3 : AcI, r3 = ⟨x.j, M6, (a6, c6), x.ver⟩ := ⟨_, rfl⟩
    have o_x : OwE acY (w.heap.size + 3) r3 w10 := by rw [hr3]; exact OwI.mono (OwI.of hown6) fun g _ hg => Nat.le_trans hB hg
    have hd3 : r3.d = x.d := by rw [hr3]; show (x.j, M6.map Prod.fst, x.ver) = (x.j, x.it.map Prod.fst, x.ver); rw [hM6]
    have hrv : Value.agg #[.string ⟨x.j.toArray⟩, .slice a6 M6.length c6, .int .i64 x.ver] = r3.v := by rw [hr3]
    clear hown6 hM6 hl6 hr3
    have H3 := Lib.hid hd3
    clear hd3 hB
    go_simp
    clear hHeld
    refine hK.out _ _ ⟨bs.at 0 1 rfl rfl, bs.at 0 2 rfl rfl, bs.at 1 0 rfl rfl, bs.at 1 1 rfl rfl, bs.at 1 2 rfl rfl⟩ (fun hHeld => ?_)
    clear hK K
    refine tk_on (i := 7) (some 35) (v := ?_) (by kernel_rfl) (by kernel_rfl) (by kernel_rfl) (by kernel_rfl) (fun _ _ _ h => h) (by assumption) (fun o ho w' hSw => ?_) ?_
    rotate_left
    ·(simp only [List.getElem?_toArray, List.getElem?_cons_succ, List.getElem?_cons_zero, Option.some.injEq] at ho; subst ho; (try dsimp only at hSw); go_simp; try with_reducible rfl)
    simp only [Act.put, List.setIfInBounds_toArray, List.set_cons_zero, List.set_cons_succ]
    refine tk_call (i := 8) (by kernel_rfl) (by kernel_rfl) (fun o ho K hK => ?_)
    simp only [List.getElem?_toArray, List.getElem?_cons_succ, List.getElem?_cons_zero, Option.some.injEq] at ho
    subst ho
    go_simp
    have hB : w.heap.size + 3 ≤ w10.heap.size := bs.lt _ (List.mem_of_getElem? (i := 2) rfl)
    have hcall := ha_put_ac a2 c2 A2 r3 w10 (by have := o_a.isL; rw [HL1.out]; exact this) (by rw [HL1.out]; omega) (fun y hy => by
     obtain ⟨z, hz, e⟩ := map_mem HD1.out hy
     have e2 : z.j = y.j := congrArg acN e
     rw [← e2]
     exact HZJ.out z hz) (by rw [show r3.j = x.j from congrArg acN H3.out]; exact zx) (by
     have := HCH.out
     rw [← HD1.out, chG_map] at this
     exact this) (HM.out.ret q)
    rw [HL1.out] at hcall
    refine hcall.mono ?_
    rintro e w11 ⟨a5, c5, rfl, hown5, hb⟩
    clear hcall
    replace o_a := o_a.ret hb
    replace o_r := o_r.ret hb
    replace o_x := o_x.ret hb
    replace bs := bs.ret hb
    replace q := bs.q
    obtain ⟨N5, hN5⟩ : ∃ N5, puO (fun y : AcI => y.j) A2 r3 = N5 := ⟨_, rfl⟩
    rw [hN5] at hown5 ⊢
    have o_v : OwV acY (w.heap.size + 3) (.slice a5 N5.length c5) N5 w11 := own_elems (hown5.mono hB) rfl rfl (fun _ h => h) fun y hy => by
     rw [← hN5] at hy
     rcases puO_mem hy with h | h
     ·exact acY.ownMono _ _ _ _ (o_a.elem h) fun _ _ hg => hg.1
     ·rw [h]; exact o_x
    obtain ⟨L5, hL5⟩ : ∃ L5, N5.length = L5 := ⟨_, rfl⟩
    rw [hL5] at o_v ⊢
    have HN5 := Lib.hid hN5
    have HL5 := Lib.hid hL5
    clear hb hB hown5 hN5 hL5 o_x
    go_simp
    clear hHeld
    refine hK.out _ _ ⟨bs.at 0 1 rfl rfl, bs.at 0 2 rfl rfl, bs.at 1 0 rfl rfl, bs.at 1 1 rfl rfl, bs.at 1 2 rfl rfl⟩ (fun hHeld => ?_)
    clear hK K
    refine tk_on (i := 9) (some 37) (v := ?_) (by kernel_rfl) (by kernel_rfl) (by kernel_rfl) (by kernel_rfl) (fun _ _ _ h => h) (by assumption) (fun o ho w' hSw => ?_) ?_
    rotate_left
    ·(simp only [List.getElem?_toArray, List.getElem?_cons_succ, List.getElem?_cons_zero, Option.some.injEq] at ho; subst ho; (try dsimp only at hSw); go_simp; try with_reducible rfl)
    simp only [Act.put, List.setIfInBounds_toArray, List.set_cons_zero, List.set_cons_succ]
    refine tk_call (i := 10) (by kernel_rfl) (by kernel_rfl) (fun o ho K hK => ?_)
    simp only [List.getElem?_toArray, List.getElem?_cons_succ, List.getElem?_cons_zero, Option.some.injEq] at ho
    subst ho
    have c_c0 := bs.at 0 0 rfl rfl
    have f_c0 := bs.fz 0 0 rfl rfl
    have c_c1 := bs.at 0 1 rfl rfl
    have f_c1 := bs.fz 0 1 rfl rfl
    have c_c2 := bs.at 0 2 rfl rfl
    have f_c2 := bs.fz 0 2 rfl rfl
    go_simp
    clear c_c0 f_c0 c_c1 f_c1 c_c2 f_c2
    obtain ⟨w12, hw12, y12, bs⟩ := bs.sets 0 0 [.slice a5 L5 c5] rfl (Nat.le_of_ble_eq_true rfl)
    replace o_a := o_a.sets (by omega) hw12
    replace o_r := o_r.sets (by omega) hw12
    replace o_v := o_v.sets (by omega) hw12
    replace q := bs.q
    simp only [World.setCells] at hw12
    rw [hw12]
    clear hHeld
    refine hK.out _ _ ⟨bs.at 0 1 rfl rfl, bs.at 0 2 rfl rfl, bs.at 1 0 rfl rfl, bs.at 1 1 rfl rfl, bs.at 1 2 rfl rfl⟩ (fun hHeld => ?_)
    clear hK K
    refine wpAnyH_done (by kernel_rfl) ?_ _
    clear hHeld
    have c_c0 := bs.at 0 0 rfl rfl
    have c_c1 := bs.at 0 1 rfl rfl
    have c_c2 := bs.at 0 2 rfl rfl
    have c_z0 := bs.at 2 0 rfl rfl
    have f_z0 := bs.fz 2 0 rfl rfl
    have c_z1 := bs.at 2 1 rfl rfl
    have f_z1 := bs.fz 2 1 rfl rfl
    have c_z2 := bs.at 2 2 rfl rfl
    have f_z2 := bs.fz 2 2 rfl rfl
    go_wp2_with fail
    clear c_c0 c_c1 c_c2 c_z0 f_z0 c_z1 f_z1 c_z2 f_z2
    obtain ⟨w13, hw13, y13, bs⟩ := bs.sets 2 0 [.slice a5 L5 c5, .slice a3 LR c3, .int .i64 m2] rfl (Nat.le_of_ble_eq_true rfl)
    replace o_a := o_a.sets (by omega) hw13
    replace o_r := o_r.sets (by omega) hw13
    replace o_v := o_v.sets (by omega) hw13
    replace q := bs.q
    simp only [World.setCells, Nat.reduceAdd] at hw13
    rw [hw13]
    refine bodyPost_ret (ret_co2 rfl rfl rfl (bs.box 2 rfl)) rfl ⟨⟨N5, (a5, c5), R2, (a3, c3), m2⟩, ?_, ?_, ⟨?_, ?_⟩, q⟩
    ·show _ = Ending.returned (.tuple #[.agg #[.slice a5 N5.length c5, .slice a3 R2.length c3, .int .i64 m2], .int .i64 0])
     rw [HL2.out, HL5.out]
     rfl
    ·show (N5.map AcI.d, R2.map RsI.d, m2) = _
     have e5 : N5.map AcI.d = puO acN (A2.map AcI.d) r3.d := by rw [← HN5.out]; exact puO_map (f := AcI.d) (nm := acN) A2 r3
     rw [HD2.out, e5, HD1.out, H3.out]
    ·show OwL acY _ (.slice a5 N5.length c5) N5 _
     rw [HL5.out]
     exact OwL.mono o_v fun g _ hg => by omega
    ·show OwL rsY _ (.slice a3 R2.length c3) R2 _
     rw [HL2.out]
     exact OwL.mono o_r.own fun g _ hg => by omega
end Go.Proofs.YtjgeiieiinmdnaaGreatDoor
