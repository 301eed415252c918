/- HaJ, HaK, HaV: put together by mergetpl.py. -/
import Derived.Test.YtjgeiieiinmdnaaGreatDoorLd
import Derived.Test.YtjgeiieiinmdnaaGreatDoorLc
import Derived.Test.YtjgeiieiinmdnaaGreatDoorKk
namespace Go.Proofs.YtjgeiieiinmdnaaGreatDoor
open Go.RowKit Go.Lib

theorem idxG_cases {α : Type} (q : α → Bool) : ∀ L : List α, (idxG q L = -1 ∧ L.find? q = none) ∨ ∃ (k : Nat) (x : α), idxG q L = k ∧ L[k]? = some x ∧ q x = true ∧ L.find? q = some x := fun L => by
 cases h : L.any q with
 | false =>
  refine .inl ⟨idxG_none h, ?_⟩
  rw [List.find?_eq_none]
  intro x hx
  have := List.any_eq_false.1 h x hx
  simpa using this
 | true =>
  obtain ⟨x, hx⟩ : ∃ x, L.find? q = some x := by
   cases hf : L.find? q with
   | some x => exact ⟨x, rfl⟩
   | none =>
    rw [List.find?_eq_none] at hf
    obtain ⟨x, hx, hq⟩ := List.any_eq_true.1 h
    exact absurd hq (hf x hx)
  have hq := List.find?_some hx
  obtain ⟨hq2, l1, l2, hL, has⟩ := List.find?_eq_some_iff_append.1 hx
  refine .inr ⟨l1.length, x, ?_, by rw [hL]; simp, hq, hx⟩
  subst hL
  refine idxG_at (by simp) ?_ (by simpa using hq)
  rw [List.take_left]
  refine List.any_eq_false.2 fun y hy => ?_
  have := has y hy
  simpa using this
theorem find_map {α β : Type} (f : α → β) (nm : β → List UInt8) (t : List UInt8) (L : List α) : fiG nm (L.map f) t = (L.find? fun x => nm (f x) == t).map f := by
 unfold fiG
 rw [List.find?_map]
 rfl
theorem ret_a2k {fn : Func} {tmps : Array Value} {W : World} {R p q : Nat} {v0 v1 v2 e : Value} (h : fn.results = #[.cell p 33, .tmp q]) (h2 : tmps.getD p undef = .pointer (some ⟨R, 0, none⟩)) (h3 : tmps.getD q undef = e) (k : Bx R [v0, v1, v2] W) :
  (results fn tmps).run Tryz.prog W = .ok (.tuple #[.agg #[v0, v1, v2], e]) W := by
 have c0 := k.at 0 rfl
 have c1 := k.at 1 rfl
 have c2 := k.at 2 rfl
 rw [results_cell_tmp h, h2, h3]
 simp [go_sem, Result.andThen, c0, c1, c2]
theorem ret_r2k {fn : Func} {tmps : Array Value} {W : World} {R p q : Nat} {v0 v1 v2 v3 v4 v5 e : Value} (h : fn.results = #[.cell p 38, .tmp q]) (h2 : tmps.getD p undef = .pointer (some ⟨R, 0, none⟩)) (h3 : tmps.getD q undef = e) (k : Bx R [v0, v1, v2, v3, v4, v5] W) :
  (results fn tmps).run Tryz.prog W = .ok (.tuple #[.agg #[v0, v1, v2, v3, v4, v5], e]) W := by
 have c0 := k.at 0 rfl
 have c1 := k.at 1 rfl
 have c2 := k.at 2 rfl
 have c3 := k.at 3 rfl
 have c4 := k.at 4 rfl
 have c5 := k.at 5 rfl
 rw [results_cell_tmp h, h2, h3]
 simp [go_sem, Result.andThen, c0, c1, c2, c3, c4, c5]
def ac0 : Ac := ([], [], 0)
def re0 : Re := ([], false, 0, [], false, [])
/-- what Find answers. -/
def FndA (w : World) (A : List Ac) (t : List UInt8) (e : Ending) (w' : World) : Prop := ∃ a : AcI, e = .returned (.tuple #[a.v, .bool (fiG acN A t).isSome]) ∧ a.d = (fiG acN A t).getD ac0 ∧ acY.own (fun g => w.heap.size ≤ g) a w' ∧ Below w.heap.size w w'
/-- what Who answers. -/
def FndR (w : World) (R : List Re) (t : List UInt8) (e : Ending) (w' : World) : Prop := ∃ r : RsI, e = .returned (.tuple #[r.v, .bool (fiG reN R t).isSome]) ∧ r.d = (fiG reN R t).getD re0 ∧ rsY.own (fun g => w.heap.size ≤ g) r w' ∧ Below w.heap.size w w'
set_option maxHeartbeats 4000000 in
set_option maxRecDepth 100000 in
theorem ha_Find (c : CoI) (t : List UInt8) (w : World) (hs : IsL acY c.av c.A w) (hz : c.A.length ≤ 1000) (hf : ∀ a ∈ c.A, SmallI a.it) : Calls Tryz.prog 11 #[c.v, .string ⟨t.toArray⟩] w (FndA w (c.A.map AcI.d) t) := by
 obtain ⟨A, ⟨aa, ac⟩, R, ⟨ra, rc⟩, m⟩ := c
 simp only at hz hf
 have hs : IsL acY (.slice aa A.length ac) A w := hs
 show Calls Tryz.prog 11 #[.agg #[.slice aa A.length ac, .slice ra R.length rc, .int .i64 m], .string ⟨t.toArray⟩] w (FndA w (A.map AcI.d) t)
 obtain ⟨LA, hLA⟩ : ∃ LA, A.length = LA := ⟨_, rfl⟩
 obtain ⟨LR, hLR⟩ : ∃ LR, R.length = LR := ⟨_, rfl⟩
 unfold FndA
 rw [find_map]
 rw [hLA, hLR]
 have hlen : A.length = LA := hLA
 have hs2 : IsL acY (.slice aa LA ac) A w := by rw [← hlen]; exact hs
 have FI := Lib.hid fun (W : World) (hb : Below w.heap.size w W) => ha_find_ac aa LA ac A t W (hs2.ret hb) (by omega)
 have HS := Lib.hid hs2
 have HF := Lib.hid hf
 have HL := Lib.hid hlen
 rcases idxG_cases (fun x : AcI => x.j == t) A with ⟨hi, hn⟩ | ⟨k, x, hi, hk, hq, hn⟩
 ·have e : (fun x : AcI => acN x.d == t) = fun x => x.j == t := rfl
  rw [e, hn]
  rw [hi] at FI
  clear hs hs2 hf hlen hLA hLR hi hn e
  obtain ⟨W0, hW, y0, bs⟩ := Sx.start2 w [.slice aa LA ac, .slice ra LR rc, .int .i64 m] 25 [.string ⟨#[]⟩, .slice none 0 0, .int .i64 0] 33
  have HW := Lib.hid hW
  clear hW
  have q := bs.q
  go_enter Tryz.func11, Tryz.ntmps11
  go_wp2_with fail
  rw [HW.out]
  have c_c0 := bs.at 0 0 rfl rfl
  have c_c1 := bs.at 0 1 rfl rfl
  have c_c2 := bs.at 0 2 rfl rfl
  go_wp2_with fail
  refine (ha_accounts aa ra LA ac LR rc m W0).mono ?_
  rintro e w1 ⟨rfl, hb⟩
  clear c_c0 c_c1 c_c2
  replace bs := bs.ret hb
  replace q := bs.q
  clear hb
  go_wp2_with fail
  refine (FI.out w1 q).mono ?_
  rintro e w2 ⟨rfl, hb⟩
  replace bs := bs.ret hb
  replace q := bs.q
  clear hb
  have c_z0 := bs.at 1 0 rfl rfl
  have f_z0 := bs.fz 1 0 rfl rfl
  have c_z1 := bs.at 1 1 rfl rfl
  have f_z1 := bs.fz 1 1 rfl rfl
  have c_z2 := bs.at 1 2 rfl rfl
  have f_z2 := bs.fz 1 2 rfl rfl
  go_wp2_with fail
  clear c_z0 f_z0 c_z1 f_z1 c_z2 f_z2
  obtain ⟨w3, hw3, y3, bs⟩ := bs.sets 1 0 [.string ⟨#[]⟩, .slice none 0 0, .int .i64 0] rfl (Nat.le_of_ble_eq_true rfl)
  replace q := bs.q
  simp only [World.setCells, Nat.reduceAdd] at hw3
  rw [hw3]
  refine bodyPost_ret (ret_a2k rfl rfl rfl (bs.box 1 rfl)) rfl ⟨⟨[], [], (none, 0), 0⟩, rfl, rfl, ⟨OwS.nil _ _ _ _, fun p hp => by cases hp⟩, q⟩
 ·have e : (fun x : AcI => acN x.d == t) = fun x => x.j == t := rfl
  rw [e, hn]
  rw [hi] at FI
  have hxj : x.j = t := by simpa using hq
  have hkl : k < A.length := by
   rcases Nat.lt_or_ge k A.length with h1 | h1
   ·exact h1
   ·rw [List.getElem?_eq_none h1] at hk; cases hk
  have hxm : x ∈ A := List.mem_of_getElem? hk
  obtain ⟨b, off, cp, hv, -, hc⟩ := hs2.cells hk
  rw [hlen] at hv hkl
  simp only [Value.slice.injEq, true_and] at hv
  obtain ⟨rfl, rfl⟩ := hv
  have wk : (k : Int) < (LA : Int) := by omega
  have TW := Lib.hid fun (W : World) (hb : Below w.heap.size w W) => ro_Twin x.iv x.ver x.it W (IsItems.ret (hs2.2.2 x hxm) hb) (hf x hxm).1 (fun p hp => ((hf x hxm).2 p hp).2.2.1)
  have HC := Lib.hid fun (w' : World) (hb : Below w.heap.size w w') => show w'.cell? ⟨b, off + k * 3 + 1, none⟩ = some x.iv ∧ w'.cell? ⟨b, off + k * 3 + 2, none⟩ = some (.int .i64 x.ver) from ⟨hc w' hb 1 _ rfl, hc w' hb 2 _ rfl⟩
  have HX := Lib.hid hxj
  clear hs hs2 hf hlen hLA hLR hi hn e hq hk hxm hxj hc
  obtain ⟨W0, hW, y0, bs⟩ := Sx.start2 w [.slice (some ⟨b, off, none⟩) LA ac, .slice ra LR rc, .int .i64 m] 25 [.string ⟨#[]⟩, .slice none 0 0, .int .i64 0] 33
  have HW := Lib.hid hW
  clear hW
  have q := bs.q
  go_enter Tryz.func11, Tryz.ntmps11
  go_wp2_with fail
  rw [HW.out]
  have c_c0 := bs.at 0 0 rfl rfl
  have c_c1 := bs.at 0 1 rfl rfl
  have c_c2 := bs.at 0 2 rfl rfl
  go_wp2_with fail
  refine (ha_accounts (some ⟨b, off, none⟩) ra LA ac LR rc m W0).mono ?_
  rintro e w1 ⟨rfl, hb⟩
  clear c_c0 c_c1 c_c2
  replace bs := bs.ret hb
  replace q := bs.q
  clear hb
  go_wp2_with fail
  refine (FI.out w1 q).mono ?_
  rintro e w2 ⟨rfl, hb⟩
  replace bs := bs.ret hb
  replace q := bs.q
  clear hb
  obtain ⟨i1, i2⟩ := HC.out _ q
  have c_c0 := bs.at 0 0 rfl rfl
  have c_c1 := bs.at 0 1 rfl rfl
  have c_c2 := bs.at 0 2 rfl rfl
  go_wp2_with fail
  refine (TW.out w2 q).mono ?_
  rintro e w3 ⟨a1, c1, rfl, ⟨M1, hM1, hown, hb⟩⟩
  clear i1 i2 c_c0 c_c1 c_c2
  have o_n := OwnX.mk' bs hown
  replace bs := bs.ret hb
  replace q := bs.q
  clear hb
  rw [List.length_map] at o_n ⊢
  have hl1 : M1.length = x.it.length := by have := congrArg List.length hM1; simpa using this
  have HM1 := Lib.hid hM1
  have HL1 := Lib.hid hl1
  clear hM1 hown hl1
  have c_z0 := bs.at 1 0 rfl rfl
  have f_z0 := bs.fz 1 0 rfl rfl
  have c_z1 := bs.at 1 1 rfl rfl
  have f_z1 := bs.fz 1 1 rfl rfl
  have c_z2 := bs.at 1 2 rfl rfl
  have f_z2 := bs.fz 1 2 rfl rfl
  go_wp2_with fail
  clear c_z0 f_z0 c_z1 f_z1 c_z2 f_z2
  obtain ⟨w4, hw4, y4, bs⟩ := bs.sets 1 0 [.string ⟨t.toArray⟩, .slice a1 x.it.length c1, .int .i64 x.ver] rfl (Nat.le_of_ble_eq_true rfl)
  replace o_n := o_n.sets 1 rfl hw4
  replace q := bs.q
  simp only [World.setCells, Nat.reduceAdd] at hw4
  rw [hw4]
  refine bodyPost_ret (ret_a2k rfl rfl rfl (bs.box 1 rfl)) rfl ⟨⟨t, M1, (a1, c1), x.ver⟩, ?_, ?_, ?_, q⟩
  ·show _ = Ending.returned (.tuple #[.agg #[.string ⟨t.toArray⟩, .slice a1 M1.length c1, .int .i64 x.ver], _])
   rw [HL1.out]
   rfl
  ·show (t, M1.map Prod.fst, x.ver) = (x.j, x.it.map Prod.fst, x.ver)
   rw [HM1.out, HX.out]
  ·have := OwI.of o_n.own
   show OwI _ (.slice a1 M1.length c1) M1 _
   rw [HL1.out]
   exact this
set_option maxHeartbeats 4000000 in
set_option maxRecDepth 100000 in
theorem ha_Who (c : CoI) (t : List UInt8) (w : World) (hs : IsL rsY c.rv c.R w) (hz : c.R.length ≤ 1000) (hf : ∀ r ∈ c.R, TwFit r) : Calls Tryz.prog 13 #[c.v, .string ⟨t.toArray⟩] w (FndR w (c.R.map RsI.d) t) := by
 obtain ⟨A, ⟨aa, ac⟩, R, ⟨ra, rc⟩, m⟩ := c
 simp only at hz hf
 have hs : IsL rsY (.slice ra R.length rc) R w := hs
 show Calls Tryz.prog 13 #[.agg #[.slice aa A.length ac, .slice ra R.length rc, .int .i64 m], .string ⟨t.toArray⟩] w (FndR w (R.map RsI.d) t)
 obtain ⟨LA, hLA⟩ : ∃ LA, A.length = LA := ⟨_, rfl⟩
 obtain ⟨LR, hLR⟩ : ∃ LR, R.length = LR := ⟨_, rfl⟩
 unfold FndR
 rw [find_map]
 rw [hLA, hLR]
 have hlen : R.length = LR := hLR
 have hs2 : IsL rsY (.slice ra LR rc) R w := by rw [← hlen]; exact hs
 have FI := Lib.hid fun (W : World) (hb : Below w.heap.size w W) => ha_find_rs ra LR rc R t W (hs2.ret hb) (by omega)
 have HS := Lib.hid hs2
 have HF := Lib.hid hf
 have HL := Lib.hid hlen
 rcases idxG_cases (fun x : RsI => x.j == t) R with ⟨hi, hn⟩ | ⟨k, x, hi, hk, hq, hn⟩
 ·have e : (fun x : RsI => reN x.d == t) = fun x => x.j == t := rfl
  rw [e, hn]
  rw [hi] at FI
  clear hs hs2 hf hlen hLA hLR hi hn e
  obtain ⟨W0, hW, y0, bs⟩ := Sx.start2 w [.slice aa LA ac, .slice ra LR rc, .int .i64 m] 25 [.string ⟨#[]⟩, .bool false, .int .i64 0, .slice none 0 0, .bool false, .slice none 0 0] 38
  have HW := Lib.hid hW
  clear hW
  have q := bs.q
  go_enter Tryz.func13, Tryz.ntmps13
  go_wp2_with fail
  rw [HW.out]
  have c_c0 := bs.at 0 0 rfl rfl
  have c_c1 := bs.at 0 1 rfl rfl
  have c_c2 := bs.at 0 2 rfl rfl
  go_wp2_with fail
  refine (ha_bound aa ra LA ac LR rc m W0).mono ?_
  rintro e w1 ⟨rfl, hb⟩
  clear c_c0 c_c1 c_c2
  replace bs := bs.ret hb
  replace q := bs.q
  clear hb
  go_wp2_with fail
  refine (FI.out w1 q).mono ?_
  rintro e w2 ⟨rfl, hb⟩
  replace bs := bs.ret hb
  replace q := bs.q
  clear hb
  have c_z0 := bs.at 1 0 rfl rfl
  have f_z0 := bs.fz 1 0 rfl rfl
  have c_z1 := bs.at 1 1 rfl rfl
  have f_z1 := bs.fz 1 1 rfl rfl
  have c_z2 := bs.at 1 2 rfl rfl
  have f_z2 := bs.fz 1 2 rfl rfl
  have c_z3 := bs.at 1 3 rfl rfl
  have f_z3 := bs.fz 1 3 rfl rfl
  have c_z4 := bs.at 1 4 rfl rfl
  have f_z4 := bs.fz 1 4 rfl rfl
  have c_z5 := bs.at 1 5 rfl rfl
  have f_z5 := bs.fz 1 5 rfl rfl
  go_wp2_with fail
  clear c_z0 f_z0 c_z1 f_z1 c_z2 f_z2 c_z3 f_z3 c_z4 f_z4 c_z5 f_z5
  obtain ⟨w3, hw3, y3, bs⟩ := bs.sets 1 0 [.string ⟨#[]⟩, .bool false, .int .i64 0, .slice none 0 0, .bool false, .slice none 0 0] rfl (Nat.le_of_ble_eq_true rfl)
  replace q := bs.q
  simp only [World.setCells, Nat.reduceAdd] at hw3
  rw [hw3]
  refine bodyPost_ret (ret_r2k rfl rfl rfl (bs.box 1 rfl)) rfl ⟨⟨[], false, 0, [], (none, 0), false, [], (none, 0)⟩, rfl, rfl, ⟨OwL.nil _ _ _, OwS.nil _ _ _ _⟩, q⟩
 ·have e : (fun x : RsI => reN x.d == t) = fun x => x.j == t := rfl
  rw [e, hn]
  rw [hi] at FI
  have hxj : x.j = t := by simpa using hq
  have hkl : k < R.length := by
   rcases Nat.lt_or_ge k R.length with h1 | h1
   ·exact h1
   ·rw [List.getElem?_eq_none h1] at hk; cases hk
  have hxm : x ∈ R := List.mem_of_getElem? hk
  obtain ⟨b, off, cp, hv, -, hc⟩ := hs2.cells hk
  rw [hlen] at hv hkl
  simp only [Value.slice.injEq, true_and] at hv
  obtain ⟨rfl, rfl⟩ := hv
  have wk : (k : Int) < (LR : Int) := by omega
  have TW := Lib.hid fun (W : World) (hb : Below w.heap.size w W) => ha_twin x W (rsY.subRet _ _ _ (hs2.2.2 x hxm) hb) (hf x hxm)
  have HC := Lib.hid fun (w' : World) (hb : Below w.heap.size w w') => show w'.cell? ⟨b, off + k * 6, none⟩ = some (.string ⟨x.j.toArray⟩) ∧ w'.cell? ⟨b, off + k * 6 + 1, none⟩ = some (.bool x.on) ∧ w'.cell? ⟨b, off + k * 6 + 2, none⟩ = some (.int .i64 x.pr) ∧ w'.cell? ⟨b, off + k * 6 + 3, none⟩ = some (x.lv) ∧ w'.cell? ⟨b, off + k * 6 + 4, none⟩ = some (.bool x.ask) ∧ w'.cell? ⟨b, off + k * 6 + 5, none⟩ = some (x.sv) from ⟨hc w' hb 0 _ rfl, hc w' hb 1 _ rfl, hc w' hb 2 _ rfl, hc w' hb 3 _ rfl, hc w' hb 4 _ rfl, hc w' hb 5 _ rfl⟩
  have HX := Lib.hid hxj
  clear hs hs2 hf hlen hLA hLR hi hn e hq hk hxm hxj hc
  obtain ⟨W0, hW, y0, bs⟩ := Sx.start2 w [.slice aa LA ac, .slice (some ⟨b, off, none⟩) LR rc, .int .i64 m] 25 [.string ⟨#[]⟩, .bool false, .int .i64 0, .slice none 0 0, .bool false, .slice none 0 0] 38
  have HW := Lib.hid hW
  clear hW
  have q := bs.q
  go_enter Tryz.func13, Tryz.ntmps13
  go_wp2_with fail
  rw [HW.out]
  have c_c0 := bs.at 0 0 rfl rfl
  have c_c1 := bs.at 0 1 rfl rfl
  have c_c2 := bs.at 0 2 rfl rfl
  go_wp2_with fail
  refine (ha_bound aa (some ⟨b, off, none⟩) LA ac LR rc m W0).mono ?_
  rintro e w1 ⟨rfl, hb⟩
  clear c_c0 c_c1 c_c2
  replace bs := bs.ret hb
  replace q := bs.q
  clear hb
  go_wp2_with fail
  refine (FI.out w1 q).mono ?_
  rintro e w2 ⟨rfl, hb⟩
  replace bs := bs.ret hb
  replace q := bs.q
  clear hb
  obtain ⟨i0, i1, i2, i3, i4, i5⟩ := HC.out _ q
  have c_c0 := bs.at 0 0 rfl rfl
  have c_c1 := bs.at 0 1 rfl rfl
  have c_c2 := bs.at 0 2 rfl rfl
  go_wp2_with fail
  refine (TW.out w2 q).mono ?_
  rintro e w3 ⟨r1, rfl, hd, hown, hb⟩
  have o_l := OwZ.mk' bs hown.1
  have o_s := OwX.mk' bs (hown.2.owns (fun g hg => hg))
  have HD := Lib.hid hd
  clear hd hown
  clear i0 i1 i2 i3 i4 i5 c_c0 c_c1 c_c2
  replace bs := bs.ret hb
  replace q := bs.q
  clear hb
  have c_z0 := bs.at 1 0 rfl rfl
  have f_z0 := bs.fz 1 0 rfl rfl
  have c_z1 := bs.at 1 1 rfl rfl
  have f_z1 := bs.fz 1 1 rfl rfl
  have c_z2 := bs.at 1 2 rfl rfl
  have f_z2 := bs.fz 1 2 rfl rfl
  have c_z3 := bs.at 1 3 rfl rfl
  have f_z3 := bs.fz 1 3 rfl rfl
  have c_z4 := bs.at 1 4 rfl rfl
  have f_z4 := bs.fz 1 4 rfl rfl
  have c_z5 := bs.at 1 5 rfl rfl
  have f_z5 := bs.fz 1 5 rfl rfl
  go_wp2_with fail
  clear c_z0 f_z0 c_z1 f_z1 c_z2 f_z2 c_z3 f_z3 c_z4 f_z4 c_z5 f_z5
  obtain ⟨w4, hw4, y4, bs⟩ := bs.sets 1 0 [.string ⟨r1.j.toArray⟩, .bool r1.on, .int .i64 r1.pr, r1.lv, .bool r1.ask, r1.sv] rfl (Nat.le_of_ble_eq_true rfl)
  replace o_l := o_l.sets 1 rfl hw4
  replace o_s := o_s.sets 1 rfl hw4
  replace q := bs.q
  simp only [World.setCells, Nat.reduceAdd] at hw4
  rw [hw4]
  refine bodyPost_ret (ret_r2k rfl rfl rfl (bs.box 1 rfl)) rfl ⟨r1, rfl, HD.out, ⟨o_l.own, ⟨o_s.1.mono (Nat.zero_le _), fun g hg => (o_s.1.lt g hg).1⟩⟩, q⟩
end Go.Proofs.YtjgeiieiinmdnaaGreatDoor
namespace Go.Proofs.YtjgeiieiinmdnaaGreatDoor
open Go.RowKit Go.Lib

end Go.Proofs.YtjgeiieiinmdnaaGreatDoor
namespace Go.Proofs.YtjgeiieiinmdnaaGreatDoor
open Go.RowKit Go.Lib

end Go.Proofs.YtjgeiieiinmdnaaGreatDoor
