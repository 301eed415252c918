/- HaJ, HaK, HaV: put together by mergetpl.py. -/
import Derived.Test.YtjgeiieiinmdnaaGreatDoorLd
import Derived.Test.YtjgeiieiinmdnaaGreatDoorLc
import Derived.Test.YtjgeiieiinmdnaaGreatDoorKk
namespace Go.Proofs.YtjgeiieiinmdnaaGreatDoor
open Go.RowKit Go.Lib

theorem idxG_cases {α : Type} (q : α → Bool) : ∀ L : List α, (idxG q L = -1 ∧ L.find? q = none) ∨ ∃ (k : Nat) (x : α), idxG q L = k ∧ L[k]? = some x ∧ q x = true ∧ L.find? q = some x := fun L => by
 cases h : L.any q with
 | false =>
  refine .inl ⟨idxG_none h, ?_⟩
  rw [List.find?_eq_none]
  intro x hx
  have := List.any_eq_false.1 h x hx
  simpa using this
 | true =>
  obtain ⟨x, hx⟩ : ∃ x, L.find? q = some x := by
   cases hf : L.find? q with
   | some x => exact ⟨x, rfl⟩
   | none =>
    rw [List.find?_eq_none] at hf
    obtain ⟨x, hx, hq⟩ := List.any_eq_true.1 h
    exact absurd hq (hf x hx)
  have hq := List.find?_some hx
  obtain ⟨hq2, l1, l2, hL, has⟩ := List.find?_eq_some_iff_append.1 hx
  refine .inr ⟨l1.length, x, ?_, by rw [hL]; simp, hq, hx⟩
  subst hL
  refine idxG_at (by simp) ?_ (by simpa using hq)
  rw [List.take_left]
  refine List.any_eq_false.2 fun y hy => ?_
  have := has y hy
  simpa using this
theorem find_map {α β : Type} (f : α → β) (nm : β → List UInt8) (t : List UInt8) (L : List α) : fiG nm (L.map f) t = (L.find? fun x => nm (f x) == t).map f := by
 unfold fiG
 rw [List.find?_map]
 rfl
theorem ret_r2k {fn : Func} {tmps : Array Value} {W : World} {R p q : Nat} {v0 v1 v2 v3 v4 v5 e : Value} (h : fn.results = #[.cell p 38, .tmp q]) (h2 : tmps.getD p undef = .pointer (some ⟨R, 0, none⟩)) (h3 : tmps.getD q undef = e) (k : Bx R [v0, v1, v2, v3, v4, v5] W) :
  (results fn tmps).run Tryz.prog W = .ok (.tuple #[.agg #[v0, v1, v2, v3, v4, v5], e]) W := by
 have c0 := k.at 0 rfl
 have c1 := k.at 1 rfl
 have c2 := k.at 2 rfl
 have c3 := k.at 3 rfl
 have c4 := k.at 4 rfl
 have c5 := k.at 5 rfl
 rw [results_cell_tmp h, h2, h3]
 simp [go_sem, Result.andThen, c0, c1, c2, c3, c4, c5]
def ac0 : Ac := ([], [], 0)
def re0 : Re := ([], false, 0, [], false, [])
/-- what Find answers. -/
def FndA (w : World) (A : List Ac) (t : List UInt8) (e : Ending) (w' : World) : Prop := ∃ a : AcI, e = .returned (.tuple #[a.v, .bool (fiG acN A t).isSome]) ∧ a.d = (fiG acN A t).getD ac0 ∧ acY.own (fun g => w.heap.size ≤ g) a w' ∧ Below w.heap.size w w'
/-- what Who answers. -/
def FndR (w : World) (R : List Re) (t : List UInt8) (e : Ending) (w' : World) : Prop := ∃ r : RsI, e = .returned (.tuple #[r.v, .bool (fiG reN R t).isSome]) ∧ r.d = (fiG reN R t).getD re0 ∧ rsY.own (fun g => w.heap.size ≤ g) r w' ∧ Below w.heap.size w w'
set_option maxHeartbeats 4000000 in
set_option maxRecDepth 100000 in
theorem ha_Who (c : CoI) (t : List UInt8) (w : World) (hs : IsL rsY c.rv c.R w) (hz : c.R.length ≤ 1000) (hf : ∀ r ∈ c.R, TwFit r) : Calls Tryz.prog 13 #[c.v, .string ⟨t.toArray⟩] w (FndR w (c.R.map RsI.d) t) := by
 obtain ⟨A, ⟨aa, ac⟩, R, ⟨ra, rc⟩, m⟩ := c
 simp only at hz hf
 have hs : IsL rsY (.slice ra R.length rc) R w := hs
 show Calls Tryz.prog 13 #[.agg #[.slice aa A.length ac, .slice ra R.length rc, .int .i64 m], .string ⟨t.toArray⟩] w (FndR w (R.map RsI.d) t)
 obtain ⟨LA, hLA⟩ : ∃ LA, A.length = LA := ⟨_, rfl⟩
 obtain ⟨LR, hLR⟩ : ∃ LR, R.length = LR := ⟨_, rfl⟩
 unfold FndR
 rw [find_map]
 rw [hLA, hLR]
 have hlen : R.length = LR := hLR
 have hs2 : IsL rsY (.slice ra LR rc) R w := by rw [← hlen]; exact hs
 have FI := Lib.hid fun (W : World) (hb : Below w.heap.size w W) => ha_find_rs ra LR rc R t W (hs2.ret hb) (by omega)
 have HS := Lib.hid hs2
 have HF := Lib.hid hf
 have HL := Lib.hid hlen
 rcases idxG_cases (fun x : RsI => x.j == t) R with ⟨hi, hn⟩ | ⟨k, x, hi, hk, hq, hn⟩
 ·have e : (fun x : RsI => reN x.d == t) = fun x => x.j == t := rfl
  rw [e, hn]
  rw [hi] at FI
  clear hs hs2 hf hlen hLA hLR hi hn e
  obtain ⟨W0, hW, y0, bs⟩ := Sx.start2 w [.slice aa LA ac, .slice ra LR rc, .int .i64 m] 25 [.string ⟨#[]⟩, .bool false, .int .i64 0, .slice none 0 0, .bool false, .slice none 0 0] 38
  have HW := Lib.hid hW
  clear hW
  have q := bs.q
  go_enter Tryz.func13, Tryz.ntmps13
  go_wp2_with fail
  rw [HW.out]
  have c_c0 := bs.at 0 0 rfl rfl
  have c_c1 := bs.at 0 1 rfl rfl
  have c_c2 := bs.at 0 2 rfl rfl
  go_wp2_with fail
  refine (ha_bound aa ra LA ac LR rc m W0).mono ?_
  rintro e w1 ⟨rfl, hb⟩
  clear c_c0 c_c1 c_c2
  replace bs := bs.ret hb
  replace q := bs.q
  clear hb
  go_wp2_with fail
  refine (FI.out w1 q).mono ?_
  rintro e w2 ⟨rfl, hb⟩
  replace bs := bs.ret hb
  replace q := bs.q
  clear hb
  have c_z0 := bs.at 1 0 rfl rfl
  have f_z0 := bs.fz 1 0 rfl rfl
  have c_z1 := bs.at 1 1 rfl rfl
  have f_z1 := bs.fz 1 1 rfl rfl
  have c_z2 := bs.at 1 2 rfl rfl
  have f_z2 := bs.fz 1 2 rfl rfl
  have c_z3 := bs.at 1 3 rfl rfl
  have f_z3 := bs.fz 1 3 rfl rfl
  have c_z4 := bs.at 1 4 rfl rfl
  have f_z4 := bs.fz 1 4 rfl rfl
  have c_z5 := bs.at 1 5 rfl rfl
  have f_z5 := bs.fz 1 5 rfl rfl
  go_wp2_with fail
  clear c_z0 f_z0 c_z1 f_z1 c_z2 f_z2 c_z3 f_z3 c_z4 f_z4 c_z5 f_z5
  obtain ⟨w3, hw3, y3, bs⟩ := bs.sets 1 0 [.string ⟨#[]⟩, .bool false, .int .i64 0, .slice none 0 0, .bool false, .slice none 0 0] rfl (Nat.le_of_ble_eq_true rfl)
  replace q := bs.q
  simp only [World.setCells, Nat.reduceAdd] at hw3
  rw [hw3]
  refine bodyPost_ret (ret_r2k rfl rfl rfl (bs.box 1 rfl)) rfl ⟨⟨[], false, 0, [], (none, 0), false, [], (none, 0)⟩, rfl, rfl, ⟨OwL.nil _ _ _, OwS.nil _ _ _ _⟩, q⟩
 ·have e : (fun x : RsI => reN x.d == t) = fun x => x.j == t := rfl
  rw [e, hn]
  rw [hi] at FI
  have hxj : x.j = t := by simpa using hq
  have hkl : k < R.length := by
   rcases Nat.lt_or_ge k R.length with h1 | h1
   ·exact h1
   ·rw [List.getElem?_eq_none h1] at hk; cases hk
  have hxm : x ∈ R := List.mem_of_getElem? hk
  obtain ⟨b, off, cp, hv, -, hc⟩ := hs2.cells hk
  rw [hlen] at hv hkl
  simp only [Value.slice.injEq, true_and] at hv
  obtain ⟨rfl, rfl⟩ := hv
  have wk : (k : Int) < (LR : Int) := by omega
  have TW := Lib.hid fun (W : World) (hb : Below w.heap.size w W) => ha_twin x W (rsY.subRet _ _ _ (hs2.2.2 x hxm) hb) (hf x hxm)
  have HC := Lib.hid fun (w' : World) (hb : Below w.heap.size w w') => show w'.cell? ⟨b, off + k * 6, none⟩ = some (.string ⟨x.j.toArray⟩) ∧ w'.cell? ⟨b, off + k * 6 + 1, none⟩ = some (.bool x.on) ∧ w'.cell? ⟨b, off + k * 6 + 2, none⟩ = some (.int .i64 x.pr) ∧ w'.cell? ⟨b, off + k * 6 + 3, none⟩ = some (x.lv) ∧ w'.cell? ⟨b, off + k * 6 + 4, none⟩ = some (.bool x.ask) ∧ w'.cell? ⟨b, off + k * 6 + 5, none⟩ = some (x.sv) from ⟨hc w' hb 0 _ rfl, hc w' hb 1 _ rfl, hc w' hb 2 _ rfl, hc w' hb 3 _ rfl, hc w' hb 4 _ rfl, hc w' hb 5 _ rfl⟩
  have HX := Lib.hid hxj
  clear hs hs2 hf hlen hLA hLR hi hn e hq hk hxm hxj hc
  obtain ⟨W0, hW, y0, bs⟩ := Sx.start2 w [.slice aa LA ac, .slice (some ⟨b, off, none⟩) LR rc, .int .i64 m] 25 [.string ⟨#[]⟩, .bool false, .int .i64 0, .slice none 0 0, .bool false, .slice none 0 0] 38
  have HW := Lib.hid hW
  clear hW
  have q := bs.q
  go_enter Tryz.func13, Tryz.ntmps13
  go_wp2_with fail
  rw [HW.out]
  have c_c0 := bs.at 0 0 rfl rfl
  have c_c1 := bs.at 0 1 rfl rfl
  have c_c2 := bs.at 0 2 rfl rfl
  go_wp2_with fail
  refine (ha_bound aa (some ⟨b, off, none⟩) LA ac LR rc m W0).mono ?_
  rintro e w1 ⟨rfl, hb⟩
  clear c_c0 c_c1 c_c2
  replace bs := bs.ret hb
  replace q := bs.q
  clear hb
  go_wp2_with fail
  refine (FI.out w1 q).mono ?_
  rintro e w2 ⟨rfl, hb⟩
  replace bs := bs.ret hb
  replace q := bs.q
  clear hb
  obtain ⟨i0, i1, i2, i3, i4, i5⟩ := HC.out _ q
  have c_c0 := bs.at 0 0 rfl rfl
  have c_c1 := bs.at 0 1 rfl rfl
  have c_c2 := bs.at 0 2 rfl rfl
  go_wp2_with fail
  refine (TW.out w2 q).mono ?_
  rintro e w3 ⟨r1, rfl, hd, hown, hb⟩
  have o_l := OwZ.mk' bs hown.1
  have o_s := OwX.mk' bs (hown.2.owns (fun g hg => hg))
  have HD := Lib.hid hd
  clear hd hown
  clear i0 i1 i2 i3 i4 i5 c_c0 c_c1 c_c2
  replace bs := bs.ret hb
  replace q := bs.q
  clear hb
  have c_z0 := bs.at 1 0 rfl rfl
  have f_z0 := bs.fz 1 0 rfl rfl
  have c_z1 := bs.at 1 1 rfl rfl
  have f_z1 := bs.fz 1 1 rfl rfl
  have c_z2 := bs.at 1 2 rfl rfl
  have f_z2 := bs.fz 1 2 rfl rfl
  have c_z3 := bs.at 1 3 rfl rfl
  have f_z3 := bs.fz 1 3 rfl rfl
  have c_z4 := bs.at 1 4 rfl rfl
  have f_z4 := bs.fz 1 4 rfl rfl
  have c_z5 := bs.at 1 5 rfl rfl
  have f_z5 := bs.fz 1 5 rfl rfl
  go_wp2_with fail
  clear c_z0 f_z0 c_z1 f_z1 c_z2 f_z2 c_z3 f_z3 c_z4 f_z4 c_z5 f_z5
  obtain ⟨w4, hw4, y4, bs⟩ := bs.sets 1 0 [.string ⟨r1.j.toArray⟩, .bool r1.on, .int .i64 r1.pr, r1.lv, .bool r1.ask, r1.sv] rfl (Nat.le_of_ble_eq_true rfl)
  replace o_l := o_l.sets 1 rfl hw4
  replace o_s := o_s.sets 1 rfl hw4
  replace q := bs.q
  simp only [World.setCells, Nat.reduceAdd] at hw4
  rw [hw4]
  refine bodyPost_ret (ret_r2k rfl rfl rfl (bs.box 1 rfl)) rfl ⟨r1, rfl, HD.out, ⟨o_l.own, ⟨o_s.1.mono (Nat.zero_le _), fun g hg => (o_s.1.lt g hg).1⟩⟩, q⟩
end Go.Proofs.YtjgeiieiinmdnaaGreatDoor
namespace Go.Proofs.YtjgeiieiinmdnaaGreatDoor
open Go.RowKit Go.Lib

/-- the addresses of an account's resources of which something is so. -/
def slF (R : List RsI) (t : List UInt8) (q : RsI → Bool) : List (List UInt8) := (R.filter fun r => prsP r.j && (bareP r.j == t && q r)).map fun r => r.j
theorem slF_some (R : List RsI) (t : List UInt8) (q : Re → Bool) : slF R t (fun r => q r.d) = someF (R.map RsI.d) t q := by
 unfold slF someF
 rw [List.filter_map, List.map_map]
 rfl
theorem slF_take {R : List RsI} {t : List UInt8} {q : RsI → Bool} {k : Nat} {x : RsI} (hk : R[k]? = some x) : slF (R.take (k + 1)) t q = slF (R.take k) t q ++ if prsP x.j && (bareP x.j == t && q x) then [x.j] else [] := by
 have hkl : k < R.length := by
  rcases Nat.lt_or_ge k R.length with h1 | h1
  ·exact h1
  ·rw [List.getElem?_eq_none h1] at hk; cases hk
 have hM : R[k] = x := by rw [List.getElem?_eq_getElem hkl] at hk; exact Option.some.inj hk
 unfold slF
 rw [List.take_succ_eq_append_getElem hkl, List.filter_append, List.map_append, hM]
 congr 1
 cases h : (prsP x.j && (bareP x.j == t && q x)) with
 | true => rw [List.filter_cons_of_pos (by simpa using h)]; rfl
 | false => rw [List.filter_cons_of_neg (by rw [h]; decide)]; rfl
theorem slF_len (R : List RsI) (t : List UInt8) (q : RsI → Bool) : (slF R t q).length ≤ R.length := by
 unfold slF
 rw [List.length_map]
 exact List.length_filter_le _ _
theorem OwX.up {w0 w : World} {ad : List Nat} {e : TypeId} {size n : Nat} {v : Value} {xs : List Value} (h : OwX w0 ad e size v n xs w) (hm : w0.heap.size ∈ ad) : w.ownsRow (w0.heap.size + 1) e size v n xs := by
 refine ⟨h.1.1, ?_⟩
 rcases h.1.2 with h1 | ⟨g, cap, cur, e1, hb, hg, r⟩
 ·exact .inl h1
 ·refine .inr ⟨g, cap, cur, e1, ?_, hg, r⟩
  have := h.2 g (by rw [e1]; rfl)
  rcases Nat.lt_or_ge w0.heap.size g with h2 | h2
  ·exact h2
  ·have : g = w0.heap.size := by omega
   subst this
   contradiction
theorem OwX.down {w0 w : World} {e : TypeId} {size n : Nat} {v : Value} {xs : List Value} (h : w.ownsRow (w0.heap.size + 1) e size v n xs) : OwX w0 [w0.heap.size] e size v n xs w := ⟨h.mono (Nat.le_succ _), fun g hg hm => by
 have := (h.lt g hg).1
 have := List.mem_singleton.1 hm
 omega⟩
theorem Bx.row {L n : Nat} {cs : List Value} {w : World} (h : Bx L cs w) (hl : cs.length = n) : IsRow n (.slice (some ⟨L, 0, none⟩) 1 1) 1 cs w :=
 ⟨by rw [hl, Nat.one_mul], some ⟨L, 0, none⟩, 1, rfl, (fun h => by cases h), .inr ⟨L, 0, rfl, h.lt, fun j hj => by rw [Nat.zero_add]; exact h.at j (List.getElem?_eq_getElem hj)⟩⟩
/-- texts in new memory. -/
def TxtIs (w : World) (g : List (List UInt8)) (e : Ending) (w' : World) : Prop := ∃ v, e = .returned v ∧ OwG (fun b => w.heap.size ≤ b) v g w' ∧ Below w.heap.size w w'
set_option maxHeartbeats 8000000 in
set_option maxRecDepth 100000 in
theorem ha_some (c : CoI) (t : List UInt8) (f : Value) (Q : RsI → Bool) (w : World) (hs : IsL rsY c.rv c.R w) (hz : c.R.length ≤ 1000) (hj : ∀ r ∈ c.R, r.j.length ≤ 10000) (hm : ML w) (hf : PredL (fun x : RsI => x.v) f Q c.R w) : Calls Tryz.prog 65 #[c.v, .string ⟨t.toArray⟩, f] w (TxtIs w (slF c.R t Q)) := by
 obtain ⟨A, ⟨aa, ac⟩, R, ⟨ra, rc⟩, m⟩ := c
 simp only at hz hf hj
 obtain ⟨g, lb, rfl, eg, hg⟩ := hf
 have hs : IsL rsY (.slice ra R.length rc) R w := hs
 show Calls Tryz.prog 65 #[.agg #[.slice aa A.length ac, .slice ra R.length rc, .int .i64 m], .string ⟨t.toArray⟩, _] w (TxtIs w (slF R t Q))
 obtain ⟨LA, hLA⟩ : ∃ LA, A.length = LA := ⟨_, rfl⟩
 obtain ⟨L, hL⟩ : ∃ L, R.length = L := ⟨_, rfl⟩
 obtain ⟨tb, htb⟩ : ∃ tb : ByteArray, ByteArray.mk t.toArray = tb := ⟨_, rfl⟩
 rw [hLA, hL, htb]
 have HTB := Lib.hid htb
 have hs2 : IsL rsY (.slice ra L rc) R w := by rw [← hL]; exact hs
 obtain ⟨i0, hi, hz0, hz1, hz2⟩ := info_parts vinfo_str
 have HS := Lib.hid hs2
 have HL := Lib.hid hL
 have HJ := Lib.hid hj
 have HM := Lib.hid hm
 have HG := Lib.hid hg
 have hLz : L ≤ 1000 := by omega
 clear hs hs2 hLA hL hj hm hg hz htb
 obtain ⟨W0, hW, y0, bs⟩ := Sx.start1 w [.slice aa LA ac, .slice ra L rc, .int .i64 m] 25
 have HW := Lib.hid hW
 clear hW
 have q := bs.q
 go_enter Tryz.func65, Tryz.ntmps65
 go_wp2_with fail
 rw [HW.out]
 have c_c0 := bs.at 0 0 rfl rfl
 have c_c1 := bs.at 0 1 rfl rfl
 have c_c2 := bs.at 0 2 rfl rfl
 go_wp2_with fail
 clear c_c0 c_c1 c_c2
 go_loopw [14, 6] (fun i lv wx => ∃ (k : Nat), k ≤ L ∧ i = .int .i64 k ∧ wx.ownsRow (w.heap.size + 1) 9 1 lv (slF (R.take k) t Q).length (strV (slF (R.take k) t Q)) ∧ Sx w [(w.heap.size, [.slice aa LA ac, .slice ra L rc, .int .i64 m])] wx) (fun i _ _ => L - (intOf i).toNat)
 case atStart => exact ⟨0, Nat.zero_le _, rfl, World.ownsRow_nil _ _ _ _, bs⟩
 case round =>
  clear bs q
  obtain ⟨k, hk, rfl, hrow, bs⟩ := hrel
  have q := bs.q
  by_cases hlt : k < L
  ·have hkM : k < R.length := by rw [HL.out]; exact hlt
   obtain ⟨x, hx⟩ : ∃ x, R[k] = x := ⟨_, rfl⟩
   have hkx : R[k]? = some x := by rw [List.getElem?_eq_getElem hkM, hx]
   have hxm : x ∈ R := by rw [← hx]; exact List.getElem_mem hkM
   have hstep := slF_take (t := t) (q := Q) hkx
   have hlen := slF_len (R.take k) t Q
   rw [List.length_take] at hlen
   obtain ⟨gs, hgs⟩ : ∃ gs, slF (R.take k) t Q = gs := ⟨_, rfl⟩
   rw [hgs] at hrow hlen hstep
   obtain ⟨n, hn⟩ : ∃ n, gs.length = n := ⟨_, rfl⟩
   rw [hn] at hrow hlen
   obtain ⟨la, lc, rfl, -⟩ := row_form hrow
   have hn2 : n ≤ 1000 := by omega
   obtain ⟨b, off, cp, hv, -, hc⟩ := HS.out.cells hkx
   rw [HL.out] at hv
   simp only [Value.slice.injEq, true_and] at hv
   obtain ⟨rfl, rfl⟩ := hv
   have CP := fun (W : World) (hb : Below w.heap.size w W) => jd_Parse ⟨x.j.toArray⟩ W (by rw [← size_toList]; exact HJ.out x hxm) (HM.out.ret hb)
   have CB := fun (W : World) (hb : Below w.heap.size w W) => ha_bare ⟨x.j.toArray⟩ W (by rw [← size_toList]; exact HJ.out x hxm) (HM.out.ret hb)
   have CG := fun (W : World) (hb : Below w.heap.size w W) => HG.out x hxm W hb
   simp only [prsV_adr] at CP
   obtain ⟨P, hP⟩ : ∃ P, prsP x.j = P := ⟨_, rfl⟩
   obtain ⟨y, hy⟩ : ∃ y, Q x = y := ⟨_, rfl⟩
   obtain ⟨bt, hbt⟩ : ∃ bt, bareP x.j = bt := ⟨_, rfl⟩
   simp only [hP] at CP
   simp only [hbt] at CB
   simp only [hP, hbt, hy] at hstep
   rw [hy] at CG
   obtain ⟨bb, hbb⟩ : ∃ bb, jB bt = bb := ⟨_, rfl⟩
   rw [hbb] at CB
   have hBQ : (bb.toList == tb.toList) = (bt == t) := by
    rw [← hbb, ← HTB.out, show (jB bt).toList = bt by rw [Lib.toList_data, jB_list], Lib.toList_data]
   obtain ⟨B, hB⟩ : ∃ B, (bt == t) = B := ⟨_, rfl⟩
   rw [hB] at hBQ hstep
   have CP := Lib.hid CP
   have CB := Lib.hid CB
   have CG := Lib.hid CG
   have HN := Lib.hid hn
   have HT := Lib.hid hstep
   have o_l : OwX w [w.heap.size] 9 1 (.slice la n lc) n (strV gs) wr := OwX.down hrow
   clear hx hkx hxm hkM hn hrow hlen hP hy hbt hstep hgs hB hbb
   have i0 : wr.cell? ⟨b, off + k * 6, none⟩ = some (.string ⟨x.j.toArray⟩) := hc wr q 0 _ rfl
   have i1 : wr.cell? ⟨b, off + k * 6 + 1, none⟩ = some (.bool x.on) := hc wr q 1 _ rfl
   have i2 : wr.cell? ⟨b, off + k * 6 + 2, none⟩ = some (.int .i64 x.pr) := hc wr q 2 _ rfl
   have i3 : wr.cell? ⟨b, off + k * 6 + 3, none⟩ = some (x.lv) := hc wr q 3 _ rfl
   have i4 : wr.cell? ⟨b, off + k * 6 + 4, none⟩ = some (.bool x.ask) := hc wr q 4 _ rfl
   have i5 : wr.cell? ⟨b, off + k * 6 + 5, none⟩ = some (x.sv) := hc wr q 5 _ rfl
   clear hc
   cases P with
   | false =>
    have d0 := (bs.lit (wr.heap.size) rfl [.string ⟨x.j.toArray⟩, .bool x.on, .int .i64 x.pr, x.lv, .bool x.ask, x.sv] 38)
    have c0_n00 := d0.at 1 0 rfl rfl
    have c0_n01 := d0.at 1 1 rfl rfl
    have c0_n02 := d0.at 1 2 rfl rfl
    have c0_n03 := d0.at 1 3 rfl rfl
    have c0_n04 := d0.at 1 4 rfl rfl
    have c0_n05 := d0.at 1 5 rfl rfl
    go_wp2_with fail
    clear d0 c0_n00 c0_n01 c0_n02 c0_n03 c0_n04 c0_n05
    clear i0 i1 i2 i3 i4 i5
    obtain ⟨w31, hw31, y31, al, bs⟩ := bs.alloc (wr.heap.size) rfl [.string ⟨x.j.toArray⟩, .bool x.on, .int .i64 x.pr, x.lv, .bool x.ask, x.sv] 38
    replace o_l := o_l.alloc (wr.heap.size) rfl al
    clear al
    replace q := bs.q
    rw [hw31]
    refine (CP.out w31 q).mono ?_
    rintro e w32 ⟨rfl, hb⟩
    replace o_l := o_l.ret hb
    replace bs := bs.ret hb
    replace q := bs.q
    clear hb
    simp only [Bool.false_eq_true, if_false]
    have c_r0 := bs.at 1 0 rfl rfl
    have c_r1 := bs.at 1 1 rfl rfl
    have c_r2 := bs.at 1 2 rfl rfl
    have c_r3 := bs.at 1 3 rfl rfl
    have c_r4 := bs.at 1 4 rfl rfl
    have c_r5 := bs.at 1 5 rfl rfl
    have d0 := (bs.lit (w32.heap.size) rfl [.string (jB (adr x.j).1), .string (jB (adr x.j).2.1), .string (jB (adr x.j).2.2)] 117)
    have c0_r0 := d0.at 1 0 rfl rfl
    have c0_r1 := d0.at 1 1 rfl rfl
    have c0_r2 := d0.at 1 2 rfl rfl
    have c0_r3 := d0.at 1 3 rfl rfl
    have c0_r4 := d0.at 1 4 rfl rfl
    have c0_r5 := d0.at 1 5 rfl rfl
    go_wp2_with fail
    clear c_r0 c_r1 c_r2 c_r3 c_r4 c_r5 d0 c0_r0 c0_r1 c0_r2 c0_r3 c0_r4 c0_r5
    obtain ⟨w33, hw33, y33, al, bs⟩ := bs.alloc (w32.heap.size) rfl [.string (jB (adr x.j).1), .string (jB (adr x.j).2.1), .string (jB (adr x.j).2.2)] 117
    replace o_l := o_l.alloc (w32.heap.size) rfl al
    clear al
    replace q := bs.q
    rw [hw33]
    go_wp2_with fail
    go_roundw
    case rel => exact ⟨k + 1, by omega, by go_num, by rw [show slF (R.take (k + 1)) t Q = gs from HT.out.trans (List.append_nil gs), HN.out]; exact o_l.up (by simp), bs.some 1⟩
    case measure => simp [intOf]; omega
   | true =>
    have d0 := (bs.lit (wr.heap.size) rfl [.string ⟨x.j.toArray⟩, .bool x.on, .int .i64 x.pr, x.lv, .bool x.ask, x.sv] 38)
    have c0_n00 := d0.at 1 0 rfl rfl
    have c0_n01 := d0.at 1 1 rfl rfl
    have c0_n02 := d0.at 1 2 rfl rfl
    have c0_n03 := d0.at 1 3 rfl rfl
    have c0_n04 := d0.at 1 4 rfl rfl
    have c0_n05 := d0.at 1 5 rfl rfl
    go_wp2_with fail
    clear d0 c0_n00 c0_n01 c0_n02 c0_n03 c0_n04 c0_n05
    clear i0 i1 i2 i3 i4 i5
    obtain ⟨w31, hw31, y31, al, bs⟩ := bs.alloc (wr.heap.size) rfl [.string ⟨x.j.toArray⟩, .bool x.on, .int .i64 x.pr, x.lv, .bool x.ask, x.sv] 38
    replace o_l := o_l.alloc (wr.heap.size) rfl al
    clear al
    replace q := bs.q
    rw [hw31]
    refine (CP.out w31 q).mono ?_
    rintro e w32 ⟨rfl, hb⟩
    replace o_l := o_l.ret hb
    replace bs := bs.ret hb
    replace q := bs.q
    clear hb
    simp only [if_true]
    have c_r0 := bs.at 1 0 rfl rfl
    have c_r1 := bs.at 1 1 rfl rfl
    have c_r2 := bs.at 1 2 rfl rfl
    have c_r3 := bs.at 1 3 rfl rfl
    have c_r4 := bs.at 1 4 rfl rfl
    have c_r5 := bs.at 1 5 rfl rfl
    have d0 := (bs.lit (w32.heap.size) rfl [.string (jB (adr x.j).1), .string (jB (adr x.j).2.1), .string (jB (adr x.j).2.2)] 117)
    have c0_r0 := d0.at 1 0 rfl rfl
    have c0_r1 := d0.at 1 1 rfl rfl
    have c0_r2 := d0.at 1 2 rfl rfl
    have c0_r3 := d0.at 1 3 rfl rfl
    have c0_r4 := d0.at 1 4 rfl rfl
    have c0_r5 := d0.at 1 5 rfl rfl
    go_wp2_with fail
    clear c_r0 c_r1 c_r2 c_r3 c_r4 c_r5 d0 c0_r0 c0_r1 c0_r2 c0_r3 c0_r4 c0_r5
    obtain ⟨w33, hw33, y33, al, bs⟩ := bs.alloc (w32.heap.size) rfl [.string (jB (adr x.j).1), .string (jB (adr x.j).2.1), .string (jB (adr x.j).2.2)] 117
    replace o_l := o_l.alloc (w32.heap.size) rfl al
    clear al
    replace q := bs.q
    rw [hw33]
    have c_r0 := bs.at 1 0 rfl rfl
    have c_r1 := bs.at 1 1 rfl rfl
    have c_r2 := bs.at 1 2 rfl rfl
    have c_r3 := bs.at 1 3 rfl rfl
    have c_r4 := bs.at 1 4 rfl rfl
    have c_r5 := bs.at 1 5 rfl rfl
    go_wp2_with fail
    refine (CB.out w33 q).mono ?_
    rintro e w34 ⟨rfl, hb⟩
    clear c_r0 c_r1 c_r2 c_r3 c_r4 c_r5
    replace o_l := o_l.ret hb
    replace bs := bs.ret hb
    replace q := bs.q
    clear hb
    cases B with
    | false =>
     have c_r0 := bs.at 1 0 rfl rfl
     have c_r1 := bs.at 1 1 rfl rfl
     have c_r2 := bs.at 1 2 rfl rfl
     have c_r3 := bs.at 1 3 rfl rfl
     have c_r4 := bs.at 1 4 rfl rfl
     have c_r5 := bs.at 1 5 rfl rfl
     go_wp2_with fail
     go_roundw
     case rel => exact ⟨k + 1, by omega, by go_num, by rw [show slF (R.take (k + 1)) t Q = gs from HT.out.trans (List.append_nil gs), HN.out]; exact o_l.up (by simp), bs.some 1⟩
     case measure => simp [intOf]; omega
    | true =>
     cases y with
     | false =>
      have c_r0 := bs.at 1 0 rfl rfl
      have c_r1 := bs.at 1 1 rfl rfl
      have c_r2 := bs.at 1 2 rfl rfl
      have c_r3 := bs.at 1 3 rfl rfl
      have c_r4 := bs.at 1 4 rfl rfl
      have c_r5 := bs.at 1 5 rfl rfl
      have CG1 := Lib.hid (CG.out _ q)
      go_wp2_with (go_at_fn g; refine CG1.out.mono ?_; rintro e w60 ⟨rfl, hb⟩)
      clear c_r0 c_r1 c_r2 c_r3 c_r4 c_r5
      replace o_l := o_l.ret hb
      replace bs := bs.ret hb
      replace q := bs.q
      clear hb
      go_roundw
      case rel => exact ⟨k + 1, by omega, by go_num, by rw [show slF (R.take (k + 1)) t Q = gs from HT.out.trans (List.append_nil gs), HN.out]; exact o_l.up (by simp), bs.some 1⟩
      case measure => simp [intOf]; omega
     | true =>
      have c_r0 := bs.at 1 0 rfl rfl
      have c_r1 := bs.at 1 1 rfl rfl
      have c_r2 := bs.at 1 2 rfl rfl
      have c_r3 := bs.at 1 3 rfl rfl
      have c_r4 := bs.at 1 4 rfl rfl
      have c_r5 := bs.at 1 5 rfl rfl
      have CG1 := Lib.hid (CG.out _ q)
      go_wp2_with (first | (go_at_fn g; refine CG1.out.mono ?_; rintro e w60 ⟨rfl, hb⟩; have k0 := (bs.ret hb).at 1 0 rfl rfl) | (at_builtin; refine Hid.out ?_))
      clear c_r0 c_r1 c_r2 c_r3 c_r4 c_r5
      replace o_l := o_l.ret hb
      replace bs := bs.ret hb
      replace q := bs.q
      clear hb k0
      obtain ⟨w61, hw61, y61, al, bs⟩ := bs.alloc (w60.heap.size) rfl [.string ⟨x.j.toArray⟩] 9
      replace o_l := o_l.alloc (w60.heap.size) rfl al
      clear al
      replace q := bs.q
      rw [hw61]
      refine Lib.hid ?_
      refine wpList_app_row rfl _ _ _ rfl (w.heap.size + 1) 9 i0 _ 1 16 Tryz.underlying26 hi hz0 hz1 hz2 rfl (by omega) _ n (strV gs) rfl (o_l.up (by simp)) _ (by rfl) 1 [.string ⟨x.j.toArray⟩] ((bs.box 3 rfl).row rfl) (by intro u hu; cases List.mem_singleton.1 hu; rfl) (by omega) (by omega) (by have := bs.lt _ (List.mem_of_getElem? (i := 0) rfl); simp at this; omega) ?_
      intro v' w' hown hgr
      replace bs := bs.grown hgr (fun g hg => ⟨(o_l.1.lt g hg).1, o_l.2 g hg⟩)
      clear o_l q
      go_wp2_with fail
      go_roundw
      case rel => exact ⟨k + 1, by omega, by go_num, by rw [show slF (R.take (k + 1)) t Q = gs ++ [x.j] from HT.out, List.length_append, HN.out, strV_snoc]; exact hown, bs.some 1⟩
      case measure => simp [intOf]; omega
  ·have e : R.take k = R := List.take_of_length_le (by rw [HL.out]; omega)
   rw [e] at hrow
   have HR := Lib.hid hrow
   clear hrow e
   go_wp2_with fail
   go_ret
   exact ⟨_, rfl, ⟨HR.out.mono (Nat.zero_le _), fun g hg => by have := (HR.out.lt g hg).1; omega⟩, q⟩
set_option maxRecDepth 100000 in
theorem ha_pOn (x : RsI) (w : World) : Calls Tryz.prog 66 #[x.v] w (Ret w (.bool x.on)) := by
 obtain ⟨W0, hW, y0, bs⟩ := Sx.start1 w [.string ⟨x.j.toArray⟩, .bool x.on, .int .i64 x.pr, x.lv, .bool x.ask, x.sv] 38
 have HW := Lib.hid hW
 clear hW
 have q := bs.q
 go_enter Tryz.func66, Tryz.ntmps66
 go_wp2_with fail
 rw [HW.out]
 have c_x0 := bs.at 0 0 rfl rfl
 have c_x1 := bs.at 0 1 rfl rfl
 have c_x2 := bs.at 0 2 rfl rfl
 have c_x3 := bs.at 0 3 rfl rfl
 have c_x4 := bs.at 0 4 rfl rfl
 have c_x5 := bs.at 0 5 rfl rfl
 go_wp2_with fail
 go_ret
 exact ⟨rfl, q⟩
theorem e_pOn : ∀ args w, (callFunc 66 args).run Tryz.prog w = .ok (.enter 66 args) w := enters_of Tryz.func66 (by kernel_rfl) rfl
set_option maxRecDepth 100000 in
theorem ha_On (c : CoI) (t : List UInt8) (w : World) (hs : IsL rsY c.rv c.R w) (hz : c.R.length ≤ 1000) (hj : ∀ r ∈ c.R, r.j.length ≤ 10000) (hm : ML w) : Calls Tryz.prog 22 #[c.v, .string ⟨t.toArray⟩] w (TxtIs w (onF (c.R.map RsI.d) t)) := by
 have e : slF c.R t (fun r => r.on) = onF (c.R.map RsI.d) t := slF_some c.R t (fun r => r.on)
 rw [← e]
 have SM := Lib.hid fun (W : World) (hb : Below w.heap.size w W) => ha_some c t (.func (.func 66) #[] #[]) (fun r => r.on) W (hs.ret hb) hz hj (hm.ret hb) ⟨_, _, rfl, e_pOn, fun p _ V _ => ha_pOn p V⟩
 obtain ⟨A, ⟨aa, ac⟩, R, ⟨ra, rc⟩, m⟩ := c
 simp only [CoI.v] at SM ⊢
 obtain ⟨LA, hLA⟩ : ∃ LA, A.length = LA := ⟨_, rfl⟩
 obtain ⟨L, hL⟩ : ∃ L, R.length = L := ⟨_, rfl⟩
 rw [hLA, hL] at SM ⊢
 clear hs hz hj hm e hLA hL
 obtain ⟨W0, hW, y0, bs⟩ := Sx.start1 w [.slice aa LA ac, .slice ra L rc, .int .i64 m] 25
 have HW := Lib.hid hW
 clear hW
 have q := bs.q
 go_enter Tryz.func22, Tryz.ntmps22
 go_wp2_with fail
 rw [HW.out]
 have c_c0 := bs.at 0 0 rfl rfl
 have c_c1 := bs.at 0 1 rfl rfl
 have c_c2 := bs.at 0 2 rfl rfl
 go_wp2_with fail
 refine (SM.out W0 q).mono ?_
 rintro e w1 ⟨v, rfl, hown, hb⟩
 have HO := Lib.hid (OwS.mono (S' := fun g => w.heap.size ≤ g) hown (fun g _ hg => Nat.le_trans q.size hg))
 clear hown
 clear c_c0 c_c1 c_c2
 replace bs := bs.ret hb
 replace q := bs.q
 clear hb
 go_wp2_with fail
 go_ret
 exact ⟨v, rfl, HO.out, q⟩
end Go.Proofs.YtjgeiieiinmdnaaGreatDoor
namespace Go.Proofs.YtjgeiieiinmdnaaGreatDoor
open Go.RowKit Go.Lib

/-- the greatest priority so far. -/
def topS (t : List UInt8) (s : Int) (r : RsI) : Int := if prsP r.j && (bareP r.j == t && r.on) then max s r.pr else s
def topR (t : List UInt8) (s : Int) (R : List RsI) : Int := R.foldl (topS t) s
theorem topR_take {t : List UInt8} {s : Int} {R : List RsI} {k : Nat} {x : RsI} (hk : R[k]? = some x) : topR t s (R.take (k + 1)) = topS t (topR t s (R.take k)) x := by
 have hkl : k < R.length := by
  rcases Nat.lt_or_ge k R.length with h1 | h1
  ·exact h1
  ·rw [List.getElem?_eq_none h1] at hk; cases hk
 have hM : R[k] = x := by rw [List.getElem?_eq_getElem hkl] at hk; exact Option.some.inj hk
 unfold topR
 rw [List.take_succ_eq_append_getElem hkl, List.foldl_append, hM]
 rfl
theorem topR_F (t : List UInt8) : ∀ (R : List RsI) (s : Int), topR t s R = ((R.map RsI.d).filter fun r => prsP r.j && ((bareP r.j == t) && r.on)).foldl (fun m r => max m r.pr) s
 | [], s => rfl
 | x :: R, s => by
  have e : topR t s (x :: R) = topR t (topS t s x) R := rfl
  rw [e, topR_F t R]
  unfold topS
  rw [List.map_cons]
  cases h : (prsP x.j && (bareP x.j == t && x.on)) with
  | true =>
   rw [List.filter_cons_of_pos (by exact h)]
   rfl
  | false =>
   rw [List.filter_cons_of_neg (by rw [show (prsP x.d.j && ((bareP x.d.j == t) && x.d.on)) = false from h]; decide)]
   rfl
theorem Sx.same {w0 w : World} {bs : Bs} {i : Nat} {b : Nat × List Value} (h : Sx w0 bs w) (hi : bs[i]? = Option.some b) : Sx w0 (bs.set i b) w := by
 have hil : i < bs.length := by
  rcases Nat.lt_or_ge i bs.length with h1 | h1
  ·exact h1
  ·rw [List.getElem?_eq_none h1] at hi; cases hi
 have hb : bs[i] = b := by rw [List.getElem?_eq_getElem hil] at hi; exact Option.some.inj hi
 rw [← hb, List.set_getElem_self]
 exact h
set_option maxHeartbeats 2000000 in
set_option maxRecDepth 100000 in
theorem ha_Best1 (x : RsI) (L : Nat) (s : Int) (w0 w : World) (bs : Bs) (i : Nat) (h : Sx w0 bs w) (hi : bs[i]? = some (L, [.int .i64 s])) :
  Calls Tryz.prog 68 #[x.v, .pointer (some ⟨L, 0, none⟩)] w (fun e w' => e = .returned (.bool false) ∧ Sx w0 (bs.set i (L, [.int .i64 (if x.on then max s x.pr else s)])) w') := by
 obtain ⟨W, hW, -, -, b1⟩ := h.alloc w.heap.size rfl [.string ⟨x.j.toArray⟩, .bool x.on, .int .i64 x.pr, x.lv, .bool x.ask, x.sv] 38
 have hil : i < bs.length := by
  rcases Nat.lt_or_ge i bs.length with h1 | h1
  ·exact h1
  ·rw [List.getElem?_eq_none h1] at hi; cases hi
 have kx : Bx w.heap.size [.string ⟨x.j.toArray⟩, .bool x.on, .int .i64 x.pr, x.lv, .bool x.ask, x.sv] W := b1.box bs.length (by simp)
 have hi2 : (bs ++ [(w.heap.size, [.string ⟨x.j.toArray⟩, .bool x.on, .int .i64 x.pr, x.lv, .bool x.ask, x.sv])])[i]? = some (L, [.int .i64 s]) := by rw [List.getElem?_append_left hil]; exact hi
 have kt := b1.box i hi2
 have e0 : ∀ b, ((bs ++ [(w.heap.size, [.string ⟨x.j.toArray⟩, .bool x.on, .int .i64 x.pr, x.lv, .bool x.ask, x.sv])]).set i b).take bs.length = bs.set i b := fun b => by
  rw [List.set_append_left _ _ hil, List.take_left' (by rw [List.length_set])]
 obtain ⟨w2, hw2, -, b2⟩ := b1.sets i 0 [.int .i64 (max s x.pr)] hi2 (Nat.le_of_ble_eq_true rfl)
 have f1 : Sx w0 (bs.set i (L, [.int .i64 s])) W := by
  have := (b1.same hi2).some bs.length
  rw [e0] at this
  exact this
 have f2 : Sx w0 (bs.set i (L, [.int .i64 (max s x.pr)])) w2 := by
  have := b2.some bs.length
  rw [e0] at this
  exact this
 have HW := Lib.hid hW
 have H2 := Lib.hid hw2
 have F1 := Lib.hid f1
 have F2 := Lib.hid f2
 have c0 := kx.at 0 rfl
 have c1 := kx.at 1 rfl
 have c2 := kx.at 2 rfl
 have c3 := kx.at 3 rfl
 have c4 := kx.at 4 rfl
 have c5 := kx.at 5 rfl
 have ct := kt.at 0 rfl
 have ft := kt.fz 0 (by simp)
 obtain ⟨on, hon⟩ : ∃ on, x.on = on := ⟨_, rfl⟩
 rw [hon] at c1 HW ⊢
 show Calls _ _ #[.agg #[.string ⟨x.j.toArray⟩, .bool x.on, .int .i64 x.pr, x.lv, .bool x.ask, x.sv], _] w _
 rw [hon]
 clear h hi hW kx hi2 kt e0 b1 b2 hw2 f1 f2 hil hon
 cases on with
 | false =>
  go_enter Tryz.func68, Tryz.ntmps68
  go_wp2_with fail
  rw [HW.out]
  go_ret
  exact ⟨rfl, F1.out⟩
 | true =>
  have H2b := H2.out
  simp only [World.setCells] at H2b
  have H3 := Lib.hid H2b
  clear H2b
  go_enter Tryz.func68, Tryz.ntmps68
  go_upto_region 2 with fail
  rw [HW.out]
  go_wp2_with fail
  rw [H3.out]
  go_ret
  exact ⟨rfl, F2.out⟩
theorem e_Best1 : ∀ args w, (callFunc 68 args).run Tryz.prog w = .ok (.enter 68 args) w := enters_of Tryz.func68 (by kernel_rfl) rfl
theorem e_Best2 : ∀ args w, (callFunc 69 args).run Tryz.prog w = .ok (.enter 69 args) w := enters_of Tryz.func69 (by kernel_rfl) rfl
set_option maxRecDepth 100000 in
theorem ha_Best2_w (j : ByteArray) (on ask : Bool) (pr s : Int) (lv sv : Value) (E : Bool) (L : Nat) (w : World) (hl : L < w.heap.size) (ct : w.cell? ⟨L, 0, none⟩ = some (.int .i64 s)) (h : (pr == s) = E) :
  Calls Tryz.prog 69 #[.agg #[.string j, .bool on, .int .i64 pr, lv, .bool ask, sv], .pointer (some ⟨L, 0, none⟩)] w (Ret w (.bool (on && E))) := by
 cases on with
 | false =>
  obtain ⟨W0, hW, y0, bs⟩ := Sx.start1 w [.string j, .bool false, .int .i64 pr, lv, .bool ask, sv] 38
  have HW := Lib.hid hW
  clear hW
  have q := bs.q
  go_enter Tryz.func69, Tryz.ntmps69
  go_wp2_with fail
  rw [HW.out]
  go_ret
  exact ⟨by first | rfl | simp, q⟩
 | true =>
  obtain ⟨W0, hW, y0, bs⟩ := Sx.start1 w [.string j, .bool true, .int .i64 pr, lv, .bool ask, sv] 38
  have HW := Lib.hid hW
  clear hW
  have q := bs.q
  go_enter Tryz.func69, Tryz.ntmps69
  go_wp2_with fail
  rw [HW.out]
  go_ret
  exact ⟨by first | rfl | simp, q⟩
theorem ha_Best2 (x : RsI) (s : Int) (L : Nat) (w : World) (hl : L < w.heap.size) (ct : w.cell? ⟨L, 0, none⟩ = some (.int .i64 s)) :
  Calls Tryz.prog 69 #[x.v, .pointer (some ⟨L, 0, none⟩)] w (Ret w (.bool (x.on && (x.pr == s)))) := ha_Best2_w _ _ _ _ _ _ _ _ L w hl ct rfl
set_option maxHeartbeats 1500000 in
set_option maxRecDepth 100000 in
theorem ha_someTop (c : CoI) (t : List UInt8) (A0 TL0 : Nat) (C0 : List Value) (w w1 : World) (hs : IsL rsY c.rv c.R w) (hz : c.R.length ≤ 1000) (hj : ∀ r ∈ c.R, r.j.length ≤ 10000) (hm : ML w) (bs : Sx w [(A0, C0), (TL0, [.int .i64 0])] w1) :
  Calls Tryz.prog 65 #[c.v, .string ⟨t.toArray⟩, .func (.func 68) #[] #[.pointer (some ⟨TL0, 0, none⟩)]] w1 (fun e w' => e = .returned (.slice none 0 0) ∧ Sx w [(A0, C0), (TL0, [.int .i64 (topR t 0 c.R)])] w') := by
 obtain ⟨A, ⟨aa, ac⟩, R, ⟨ra, rc⟩, m⟩ := c
 simp only at hz hj
 have eg := e_Best1
 have hs : IsL rsY (.slice ra R.length rc) R w := hs
 show Calls Tryz.prog 65 #[.agg #[.slice aa A.length ac, .slice ra R.length rc, .int .i64 m], .string ⟨t.toArray⟩, _] w1 (fun e w' => e = .returned (.slice none 0 0) ∧ Sx w [(A0, C0), (TL0, [.int .i64 (topR t 0 R)])] w')
 obtain ⟨LA, hLA⟩ : ∃ LA, A.length = LA := ⟨_, rfl⟩
 obtain ⟨L, hL⟩ : ∃ L, R.length = L := ⟨_, rfl⟩
 obtain ⟨tb, htb⟩ : ∃ tb : ByteArray, ByteArray.mk t.toArray = tb := ⟨_, rfl⟩
 rw [hLA, hL, htb]
 have HTB := Lib.hid htb
 have hs2 : IsL rsY (.slice ra L rc) R w := by rw [← hL]; exact hs
 have HS := Lib.hid hs2
 have HL := Lib.hid hL
 have HJ := Lib.hid hj
 have HM := Lib.hid hm
 have hLz : L ≤ 1000 := by omega
 clear hs hs2 hLA hL hj hm hz htb
 obtain ⟨W0, hW, y0, al, bs⟩ := bs.alloc (w1.heap.size) rfl [.slice aa LA ac, .slice ra L rc, .int .i64 m] 25
 have HW := Lib.hid hW
 clear hW al
 have q := bs.q
 go_enter Tryz.func65, Tryz.ntmps65
 go_wp2_with fail
 rw [HW.out]
 have c_c0 := bs.at 2 0 rfl rfl
 have c_c1 := bs.at 2 1 rfl rfl
 have c_c2 := bs.at 2 2 rfl rfl
 go_wp2_with fail
 clear c_c0 c_c1 c_c2
 go_loopw [14, 6] (fun i lv wx => ∃ (k : Nat), k ≤ L ∧ i = .int .i64 k ∧ lv = .slice none 0 0 ∧ Sx w [(A0, C0), (TL0, [.int .i64 (topR t 0 (R.take k))]), (w1.heap.size, [.slice aa LA ac, .slice ra L rc, .int .i64 m])] wx) (fun i _ _ => L - (intOf i).toNat)
 case atStart => exact ⟨0, Nat.zero_le _, rfl, rfl, bs⟩
 case round =>
  clear bs q
  obtain ⟨k, hk, rfl, rfl, bs⟩ := hrel
  have q := bs.q
  by_cases hlt : k < L
  ·have hkM : k < R.length := by rw [HL.out]; exact hlt
   obtain ⟨x, hx⟩ : ∃ x, R[k] = x := ⟨_, rfl⟩
   have hkx : R[k]? = some x := by rw [List.getElem?_eq_getElem hkM, hx]
   have hxm : x ∈ R := by rw [← hx]; exact List.getElem_mem hkM
   have hstep := topR_take (t := t) (s := 0) hkx
   obtain ⟨S, hS⟩ : ∃ S, topR t 0 (R.take k) = S := ⟨_, rfl⟩
   rw [hS] at bs hstep
   unfold topS at hstep
   obtain ⟨b, off, cp, hv, -, hc⟩ := HS.out.cells hkx
   rw [HL.out] at hv
   simp only [Value.slice.injEq, true_and] at hv
   obtain ⟨rfl, rfl⟩ := hv
   have CP := fun (W : World) (hb : Below w.heap.size w W) => jd_Parse ⟨x.j.toArray⟩ W (by rw [← size_toList]; exact HJ.out x hxm) (HM.out.ret hb)
   have CB := fun (W : World) (hb : Below w.heap.size w W) => ha_bare ⟨x.j.toArray⟩ W (by rw [← size_toList]; exact HJ.out x hxm) (HM.out.ret hb)
   simp only [prsV_adr] at CP
   obtain ⟨P, hP⟩ : ∃ P, prsP x.j = P := ⟨_, rfl⟩
   obtain ⟨bt, hbt⟩ : ∃ bt, bareP x.j = bt := ⟨_, rfl⟩
   simp only [hP] at CP
   simp only [hbt] at CB
   simp only [hP, hbt] at hstep
   obtain ⟨bb, hbb⟩ : ∃ bb, jB bt = bb := ⟨_, rfl⟩
   rw [hbb] at CB
   have hBQ : (bb.toList == tb.toList) = (bt == t) := by
    rw [← hbb, ← HTB.out, show (jB bt).toList = bt by rw [Lib.toList_data, jB_list], Lib.toList_data]
   obtain ⟨B, hB⟩ : ∃ B, (bt == t) = B := ⟨_, rfl⟩
   rw [hB] at hBQ hstep
   have CP := Lib.hid CP
   have CB := Lib.hid CB
   have HT := Lib.hid hstep
   clear hx hkx hxm hkM hP hbt hstep hB hbb hS
   have i0 : wr.cell? ⟨b, off + k * 6, none⟩ = some (.string ⟨x.j.toArray⟩) := hc wr q 0 _ rfl
   have i1 : wr.cell? ⟨b, off + k * 6 + 1, none⟩ = some (.bool x.on) := hc wr q 1 _ rfl
   have i2 : wr.cell? ⟨b, off + k * 6 + 2, none⟩ = some (.int .i64 x.pr) := hc wr q 2 _ rfl
   have i3 : wr.cell? ⟨b, off + k * 6 + 3, none⟩ = some (x.lv) := hc wr q 3 _ rfl
   have i4 : wr.cell? ⟨b, off + k * 6 + 4, none⟩ = some (.bool x.ask) := hc wr q 4 _ rfl
   have i5 : wr.cell? ⟨b, off + k * 6 + 5, none⟩ = some (x.sv) := hc wr q 5 _ rfl
   clear hc
   cases P with
   | false =>
    have d0 := (bs.lit (wr.heap.size) rfl [.string ⟨x.j.toArray⟩, .bool x.on, .int .i64 x.pr, x.lv, .bool x.ask, x.sv] 38)
    have c0_n00 := d0.at 3 0 rfl rfl
    have c0_n01 := d0.at 3 1 rfl rfl
    have c0_n02 := d0.at 3 2 rfl rfl
    have c0_n03 := d0.at 3 3 rfl rfl
    have c0_n04 := d0.at 3 4 rfl rfl
    have c0_n05 := d0.at 3 5 rfl rfl
    go_wp2_with fail
    clear d0 c0_n00 c0_n01 c0_n02 c0_n03 c0_n04 c0_n05
    clear i0 i1 i2 i3 i4 i5
    obtain ⟨w31, hw31, y31, al, bs⟩ := bs.alloc (wr.heap.size) rfl [.string ⟨x.j.toArray⟩, .bool x.on, .int .i64 x.pr, x.lv, .bool x.ask, x.sv] 38
    clear al
    replace q := bs.q
    rw [hw31]
    refine (CP.out w31 q).mono ?_
    rintro e w32 ⟨rfl, hb⟩
    replace bs := bs.ret hb
    replace q := bs.q
    clear hb
    simp only [Bool.false_eq_true, if_false]
    have c_r0 := bs.at 3 0 rfl rfl
    have c_r1 := bs.at 3 1 rfl rfl
    have c_r2 := bs.at 3 2 rfl rfl
    have c_r3 := bs.at 3 3 rfl rfl
    have c_r4 := bs.at 3 4 rfl rfl
    have c_r5 := bs.at 3 5 rfl rfl
    have d0 := (bs.lit (w32.heap.size) rfl [.string (jB (adr x.j).1), .string (jB (adr x.j).2.1), .string (jB (adr x.j).2.2)] 117)
    have c0_r0 := d0.at 3 0 rfl rfl
    have c0_r1 := d0.at 3 1 rfl rfl
    have c0_r2 := d0.at 3 2 rfl rfl
    have c0_r3 := d0.at 3 3 rfl rfl
    have c0_r4 := d0.at 3 4 rfl rfl
    have c0_r5 := d0.at 3 5 rfl rfl
    go_wp2_with fail
    clear c_r0 c_r1 c_r2 c_r3 c_r4 c_r5 d0 c0_r0 c0_r1 c0_r2 c0_r3 c0_r4 c0_r5
    obtain ⟨w33, hw33, y33, al, bs⟩ := bs.alloc (w32.heap.size) rfl [.string (jB (adr x.j).1), .string (jB (adr x.j).2.1), .string (jB (adr x.j).2.2)] 117
    clear al
    replace q := bs.q
    rw [hw33]
    go_wp2_with fail
    go_roundw
    case rel => exact ⟨k + 1, by omega, by go_num, rfl, by rw [show topR t 0 (R.take (k + 1)) = S from HT.out]; exact bs.some 3⟩
    case measure => simp [intOf]; omega
   | true =>
    have d0 := (bs.lit (wr.heap.size) rfl [.string ⟨x.j.toArray⟩, .bool x.on, .int .i64 x.pr, x.lv, .bool x.ask, x.sv] 38)
    have c0_n00 := d0.at 3 0 rfl rfl
    have c0_n01 := d0.at 3 1 rfl rfl
    have c0_n02 := d0.at 3 2 rfl rfl
    have c0_n03 := d0.at 3 3 rfl rfl
    have c0_n04 := d0.at 3 4 rfl rfl
    have c0_n05 := d0.at 3 5 rfl rfl
    go_wp2_with fail
    clear d0 c0_n00 c0_n01 c0_n02 c0_n03 c0_n04 c0_n05
    clear i0 i1 i2 i3 i4 i5
    obtain ⟨w31, hw31, y31, al, bs⟩ := bs.alloc (wr.heap.size) rfl [.string ⟨x.j.toArray⟩, .bool x.on, .int .i64 x.pr, x.lv, .bool x.ask, x.sv] 38
    clear al
    replace q := bs.q
    rw [hw31]
    refine (CP.out w31 q).mono ?_
    rintro e w32 ⟨rfl, hb⟩
    replace bs := bs.ret hb
    replace q := bs.q
    clear hb
    simp only [if_true]
    have c_r0 := bs.at 3 0 rfl rfl
    have c_r1 := bs.at 3 1 rfl rfl
    have c_r2 := bs.at 3 2 rfl rfl
    have c_r3 := bs.at 3 3 rfl rfl
    have c_r4 := bs.at 3 4 rfl rfl
    have c_r5 := bs.at 3 5 rfl rfl
    have d0 := (bs.lit (w32.heap.size) rfl [.string (jB (adr x.j).1), .string (jB (adr x.j).2.1), .string (jB (adr x.j).2.2)] 117)
    have c0_r0 := d0.at 3 0 rfl rfl
    have c0_r1 := d0.at 3 1 rfl rfl
    have c0_r2 := d0.at 3 2 rfl rfl
    have c0_r3 := d0.at 3 3 rfl rfl
    have c0_r4 := d0.at 3 4 rfl rfl
    have c0_r5 := d0.at 3 5 rfl rfl
    go_wp2_with fail
    clear c_r0 c_r1 c_r2 c_r3 c_r4 c_r5 d0 c0_r0 c0_r1 c0_r2 c0_r3 c0_r4 c0_r5
    obtain ⟨w33, hw33, y33, al, bs⟩ := bs.alloc (w32.heap.size) rfl [.string (jB (adr x.j).1), .string (jB (adr x.j).2.1), .string (jB (adr x.j).2.2)] 117
    clear al
    replace q := bs.q
    rw [hw33]
    have c_r0 := bs.at 3 0 rfl rfl
    have c_r1 := bs.at 3 1 rfl rfl
    have c_r2 := bs.at 3 2 rfl rfl
    have c_r3 := bs.at 3 3 rfl rfl
    have c_r4 := bs.at 3 4 rfl rfl
    have c_r5 := bs.at 3 5 rfl rfl
    go_wp2_with fail
    refine (CB.out w33 q).mono ?_
    rintro e w34 ⟨rfl, hb⟩
    clear c_r0 c_r1 c_r2 c_r3 c_r4 c_r5
    replace bs := bs.ret hb
    replace q := bs.q
    clear hb
    cases B with
    | false =>
     have c_r0 := bs.at 3 0 rfl rfl
     have c_r1 := bs.at 3 1 rfl rfl
     have c_r2 := bs.at 3 2 rfl rfl
     have c_r3 := bs.at 3 3 rfl rfl
     have c_r4 := bs.at 3 4 rfl rfl
     have c_r5 := bs.at 3 5 rfl rfl
     go_wp2_with fail
     go_roundw
     case rel => exact ⟨k + 1, by omega, by go_num, rfl, by rw [show topR t 0 (R.take (k + 1)) = S from HT.out]; exact bs.some 3⟩
     case measure => simp [intOf]; omega
    | true =>
     have c_r0 := bs.at 3 0 rfl rfl
     have c_r1 := bs.at 3 1 rfl rfl
     have c_r2 := bs.at 3 2 rfl rfl
     have c_r3 := bs.at 3 3 rfl rfl
     have c_r4 := bs.at 3 4 rfl rfl
     have c_r5 := bs.at 3 5 rfl rfl
     have CG1 := Lib.hid (ha_Best1 x TL0 S w _ _ 1 bs rfl)
     go_wp2_with (go_at_fn 68; refine CG1.out.mono ?_; rintro e w60 ⟨rfl, b60⟩)
     clear c_r0 c_r1 c_r2 c_r3 c_r4 c_r5
     clear bs q CG1
     have bs := b60
     have q := bs.q
     clear b60
     go_roundw
     case rel => exact ⟨k + 1, by omega, by go_num, rfl, by rw [show topR t 0 (R.take (k + 1)) = (if x.on then max S x.pr else S) from HT.out]; exact bs.some 3⟩
     case measure => simp [intOf]; omega
  ·have e : R.take k = R := List.take_of_length_le (by rw [HL.out]; omega)
   rw [e] at bs
   clear e
   have BS := Lib.hid (bs.some 2)
   clear bs
   go_wp2_with fail
   go_ret
   exact ⟨rfl, BS.out⟩
set_option maxHeartbeats 2000000 in
set_option maxRecDepth 100000 in
theorem ha_Best (c : CoI) (t : List UInt8) (w : World) (hs : IsL rsY c.rv c.R w) (hz : c.R.length ≤ 1000) (hj : ∀ r ∈ c.R, r.j.length ≤ 10000) (hm : ML w) : Calls Tryz.prog 24 #[c.v, .string ⟨t.toArray⟩] w (TxtIs w (bestF (c.R.map RsI.d) t)) := by
 have e : slF c.R t (fun r => r.on && (r.pr == topR t 0 c.R)) = bestF (c.R.map RsI.d) t := by
  have h := slF_some c.R t (fun r => r.on && decide (r.pr = topF (c.R.map RsI.d) t))
  unfold bestF
  rw [← h]
  have e2 : topF (c.R.map RsI.d) t = topR t 0 c.R := by rw [topR_F]; rfl
  rw [e2]
  rfl
 rw [← e]
 have ST := Lib.hid fun (w1 : World) (A0 TL0 : Nat) (C0 : List Value) (bs : Sx w [(A0, C0), (TL0, [.int .i64 0])] w1) => ha_someTop c t A0 TL0 C0 w w1 hs hz hj hm bs
 have SM := Lib.hid fun (W : World) (hb : Below w.heap.size w W) (TL0 : Nat) (hl : TL0 < W.heap.size) (ct : W.cell? ⟨TL0, 0, none⟩ = some (.int .i64 (topR t 0 c.R))) => ha_some c t (.func (.func 69) #[] #[.pointer (some ⟨TL0, 0, none⟩)]) (fun r => r.on && (r.pr == topR t 0 c.R)) W (hs.ret hb) hz hj (hm.ret hb) ⟨_, _, rfl, e_Best2, fun p _ V hV => ha_Best2 p _ TL0 V (Nat.lt_of_lt_of_le hl hV.size) (((bcell hV).1 _ _ hl).trans ct)⟩
 obtain ⟨A, ⟨aa, ac⟩, R, ⟨ra, rc⟩, m⟩ := c
 simp only [CoI.v] at SM ST ⊢
 obtain ⟨LA, hLA⟩ : ∃ LA, A.length = LA := ⟨_, rfl⟩
 obtain ⟨L, hL⟩ : ∃ L, R.length = L := ⟨_, rfl⟩
 rw [hLA, hL] at SM ST ⊢
 obtain ⟨X, hX⟩ : ∃ X, topR t 0 R = X := ⟨_, rfl⟩
 rw [hX] at SM ST ⊢
 clear hs hz hj hm e hLA hL hX
 obtain ⟨W0, hW, y0, bs⟩ := Sx.start2 w [.slice aa LA ac, .slice ra L rc, .int .i64 m] 25 [.int .i64 0] 3
 have HW := Lib.hid hW
 clear hW
 have q := bs.q
 go_enter Tryz.func24, Tryz.ntmps24
 go_wp2_with fail
 rw [HW.out]
 have c_c0 := bs.at 0 0 rfl rfl
 have c_c1 := bs.at 0 1 rfl rfl
 have c_c2 := bs.at 0 2 rfl rfl
 have c_t0 := bs.at 1 0 rfl rfl
 go_wp2_with fail
 refine (ST.out _ _ _ _ bs).mono ?_
 rintro e w1 ⟨rfl, b1⟩
 clear c_c0 c_c1 c_c2 c_t0
 clear bs q
 have bs := b1
 clear b1
 have q := bs.q
 have c_c0 := bs.at 0 0 rfl rfl
 have c_c1 := bs.at 0 1 rfl rfl
 have c_c2 := bs.at 0 2 rfl rfl
 have c_t0 := bs.at 1 0 rfl rfl
 go_wp2_with fail
 refine (SM.out w1 q (w.heap.size + 1) (bs.lt _ (List.mem_of_getElem? (i := 1) rfl)) (bs.at 1 0 rfl rfl)).mono ?_
 rintro e w2 ⟨v, rfl, hown, hb⟩
 have HO := Lib.hid (OwS.mono (S' := fun g => w.heap.size ≤ g) hown (fun g _ hg => Nat.le_trans q.size hg))
 clear hown
 clear c_c0 c_c1 c_c2 c_t0
 replace bs := bs.ret hb
 replace q := bs.q
 clear hb
 go_wp2_with fail
 go_ret
 exact ⟨v, rfl, HO.out, q⟩
end Go.Proofs.YtjgeiieiinmdnaaGreatDoor
