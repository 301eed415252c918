/- HaOp, HbP, HbQ, HbF: put together by mergetpl.py. -/
import Derived.Test.YtjgeiieiinmdnaaGreatDoorRoOp
import Derived.Test.YtjgeiieiinmdnaaGreatDoorLd
import Derived.Lib.TrimAscii
import Derived.Test.YtjgeiieiinmdnaaGreatDoorLj
import Derived.Test.YtjgeiieiinmdnaaGreatDoorLl
import Derived.Test.YtjgeiieiinmdnaaGreatDoorLn
import Derived.Test.YtjgeiieiinmdnaaGreatDoorLk
import Derived.Test.YtjgeiieiinmdnaaGreatDoorKn
namespace Go.Proofs.YtjgeiieiinmdnaaGreatDoor
open Go.RowKit Go.ChangeShapes Go.WideShapes Go.ChangeAt Go.Deep Go.Joins

set_option maxRecDepth 100000 in
/-- A LIST OF A KIND OF ELEMENT THAT COMES IN AS DATA. -/
theorem open_L {H : Type} {enc : TypeId × Value → H} {W : World} {α : Type} (Y : Ly α) (Q : α → Prop) {T e : TypeId} (hu : Tryz.prog.underlying T = some (.slice e)) (ce : Tryz.prog.cellsOf e = Y.n) (hn : 0 < Y.n)
  (one : ∀ (fuel : Nat) (cs : List Value) (d : DataW H × List MemPlace), cs.length = Y.n → DataW.trod enc Tryz.prog W 0 (fun _ => true) true fuel e cs = some d → ∃ x : α, cs = Y.cs x ∧ Y.sub x W ∧ Q x)
  {v : Value} {fuel : Nat} {d : DataW H × List MemPlace} (hf : DataW.trod enc Tryz.prog W 0 (fun _ => true) true fuel T [v] = some d) : ∃ (M : List α) (a : Option Addr) (c : Nat), v = .slice a M.length c ∧ IsL Y (.slice a M.length c) M W ∧ ∀ x ∈ M, Q x := by
 obtain ⟨d, ps⟩ := d
 rcases open_slice hu hf with ⟨hcs, _⟩ | ⟨x, len, cap, m, n, D, Pl, hcs, _, hl, hm, hmm, _, hx⟩
 ·obtain rfl : v = .slice none 0 0 := by simpa using hcs
  exact ⟨[], none, 0, rfl, IsL.nil Y W, fun x hx => by cases hx⟩
 ·obtain rfl : v = .slice (some x) len cap := by simpa using hcs
  rw [if_pos rfl] at hmm
  subst hmm
  rw [ce] at hx
  have each : ∀ i, i < m → ∃ p : α, (∀ c, c < Y.n → W.cell? ((x.add (i * Y.n)).add c) = (Y.cs p)[c]?) ∧ Y.sub p W ∧ Q p := by
   intro i hi
   obtain ⟨cs', h1, h2⟩ := hx i hi
   obtain ⟨_, hlen, hcell⟩ := World.cells?_some h1
   obtain ⟨p, rfl, hp⟩ := one _ _ _ hlen h2
   exact ⟨p, fun c hc => hcell c hc, hp⟩
  by_cases h0 : len = 0
  ·subst h0
   exact ⟨[], some x, m, rfl, ⟨⟨by rw [fl_len], some x, m, rfl, (fun h => by cases h), .inl rfl⟩, ⟨some x, m, rfl, Nat.zero_le _⟩, fun p hp => by cases hp⟩, fun p hp => by cases hp⟩
  obtain ⟨p0, _⟩ := each 0 (by omega)
  haveI : Inhabited α := ⟨p0⟩
  obtain ⟨q, hq⟩ := choose_lt each
  have hql : ((List.range len).map q).length = len := by simp
  refine ⟨(List.range len).map q, some x, m, by rw [hql], ⟨?_, ⟨some x, m, by rw [hql], by rw [hql]; exact hl⟩, fun p hp => ?_⟩, fun p hp => ?_⟩
  ·rw [hql]
   refine ⟨by rw [fl_len, hql], some x, m, rfl, (fun h => by cases h), ?_⟩
   ·right
    obtain ⟨b, off, spot⟩ := x
    have hspot : spot = none := by
     have := (hq 0 (by omega)).1 0 hn
     rw [List.getElem?_eq_getElem (by rw [Y.len]; exact hn)] at this
     simpa [Addr.add] using World.cell?_spot this
    subst hspot
    have hc : ∀ i, i < m → ∀ c, c < Y.n → W.cell? ⟨b, off + (i * Y.n + c), none⟩ = (Y.cs (q i))[c]? := fun i hi c hc => by
     have h1 := (hq i hi).1 c hc
     rw [Go.WideShapes.add_plain, Go.WideShapes.add_plain, Nat.add_assoc] at h1
     exact h1
    have hb : b < W.heap.size := by
     rcases Nat.lt_or_ge b W.heap.size with h | h
     ·exact h
     ·have := hc 0 (by omega) 0 hn
      rw [List.getElem?_eq_getElem (by rw [Y.len]; exact hn)] at this
      simp [World.cell?, Array.getElem?_eq_none h] at this
    refine ⟨b, off, rfl, hb, fun j hj => ?_⟩
    rw [fl_len, hql] at hj
    have hj1 : j / Y.n < ((List.range len).map q).length := by rw [hql]; exact (Nat.div_lt_iff_lt_mul hn).2 hj
    have hj2 : j % Y.n < Y.n := Nat.mod_lt _ hn
    have e1 := fl_at Y _ (j / Y.n) hj1 (j % Y.n) hj2
    rw [List.getElem_map, List.getElem_range] at e1
    have e2 := hc (j / Y.n) (by rw [hql] at hj1; omega) (j % Y.n) hj2
    have e3 : j / Y.n * Y.n + j % Y.n = j := by rw [Nat.mul_comm]; exact Nat.div_add_mod j Y.n
    rw [e3] at e1 e2
    rw [e2, ← e1]
    exact List.getElem?_eq_getElem _
  ·obtain ⟨i, hi, rfl⟩ := List.mem_map.1 hp
   have := List.mem_range.1 hi
   exact (hq i (by omega)).2.1
  ·obtain ⟨i, hi, rfl⟩ := List.mem_map.1 hp
   have := List.mem_range.1 hi
   exact (hq i (by omega)).2.2
set_option maxRecDepth 100000 in
/-- A STRUCT THAT COMES IN AS DATA. -/
theorem open_elem {H : Type} {enc : TypeId × Value → H} {W : World} {base : Nat} {α : Type} (Y : Ly α) (Q : α → Prop) {T : TypeId} {fs : Array Field} (hs : Tryz.prog.underlying T = some (.struct fs)) (hC : Tryz.prog.cellsOf T = Y.n)
  (one : ∀ (fuel : Nat) (cs : List Value) (d : DataW H × List MemPlace), cs.length = Y.n → DataW.trod enc Tryz.prog W 0 (fun _ => true) true fuel T cs = some d → ∃ x : α, cs = Y.cs x ∧ Y.sub x W ∧ Q x)
  {v : Value} {d : DataW H} {ps : List MemPlace} (hv : Value.okWide Tryz.prog W .any base T v) (h : DataW.Trod enc Tryz.prog W 0 (fun _ => true) true T v d ps) : ∃ x : α, v = .agg (Y.cs x).toArray ∧ Y.sub x W ∧ Q x := by
 obtain ⟨cs, rfl, hsz⟩ := okWide_struct hs hv
 obtain ⟨fuel, hf⟩ := h
 obtain ⟨x, hx, h1, h2⟩ := one fuel cs.toList _ (by simpa using hsz.trans hC) (by simpa [Value.cells] using hf)
 exact ⟨x, by rw [← hx], h1, h2⟩
abbrev QN (x : NdI) : Prop := x.1.2.2.2.2.2 ≤ 9223372036854775807
abbrev QT (T : TrI) : Prop := ∀ x ∈ T.1, QN x
abbrev QR (r : RsI) : Prop := ∀ t ∈ r.ld, QT t
section
variable {H : Type} {enc : TypeId × Value → H} {W : World}
set_option maxRecDepth 100000 in
theorem one_at (fuel : Nat) (cs : List Value) (d : DataW H × List MemPlace) (hl : cs.length = 3) (h : DataW.trod enc Tryz.prog W 0 (fun _ => true) true fuel 160 cs = some d) : ∃ x : At, cs = atY.cs x ∧ atY.sub x W ∧ True := by
 obtain ⟨xs, k, hk, hxy, _, hxl, hf⟩ := DataW.trod_struct Tryz.underlying160 h
 match cs, hl with
 | [v0, v1, v2], _ =>
  have i1 : Tryz.prog.cellsOf 9 = 1 := by kernel_rfl
  have i4 : Tryz.prog.cellsOf 3 = 1 := by kernel_rfl
  have g0 := hf 0 _ rfl
  have g1 := hf 1 _ rfl
  have g2 := hf 2 _ rfl
  simp [i1] at g0 g1 g2
  match xs, hxl, g0, g1, g2 with
  | [y0, y1, y2], _, g0, g1, g2 =>
   obtain ⟨s0, e0, _, z0⟩ := DataW.trod_string Tryz.underlying9 g0
   obtain rfl : v0 = .string s0 := by simpa using e0
   obtain ⟨s1, e1, _, z1⟩ := DataW.trod_string Tryz.underlying9 g1
   obtain rfl : v1 = .string s1 := by simpa using e1
   obtain ⟨s2, e2, _, z2⟩ := DataW.trod_string Tryz.underlying9 g2
   obtain rfl : v2 = .string s2 := by simpa using e2
   exact ⟨(s0.data.toList, s1.data.toList, s2.data.toList), by simp [atY], trivial, trivial⟩
set_option maxRecDepth 100000 in
theorem open_attrs {v : Value} {fuel : Nat} {d : DataW H × List MemPlace} (hf : DataW.trod enc Tryz.prog W 0 (fun _ => true) true fuel 112 [v] = some d) : ∃ (M : List At) (a : Option Addr) (c : Nat), v = .slice a M.length c ∧ IsL atY (.slice a M.length c) M W ∧ ∀ x ∈ M, True :=
 open_L atY (fun _ => True) Tryz.underlying112 (by kernel_rfl) (by decide) one_at hf
set_option maxRecDepth 100000 in
theorem one_nd (fuel : Nat) (cs : List Value) (d : DataW H × List MemPlace) (hl : cs.length = 6) (h : DataW.trod enc Tryz.prog W 0 (fun _ => true) true fuel 114 cs = some d) : ∃ x : NdI, cs = ndY.cs x ∧ ndY.sub x W ∧ QN x := by
 obtain ⟨xs, k, hk, hxy, _, hxl, hf⟩ := DataW.trod_struct Tryz.underlying114 h
 match cs, hl with
 | [v0, v1, v2, v3, v4, v5], _ =>
  have i1 : Tryz.prog.cellsOf 9 = 1 := by kernel_rfl
  have i4 : Tryz.prog.cellsOf 3 = 1 := by kernel_rfl
  have i2 : Tryz.prog.cellsOf 5 = 1 := by kernel_rfl
  have i3 : Tryz.prog.cellsOf 112 = 1 := by kernel_rfl
  have g0 := hf 0 _ rfl
  have g1 := hf 1 _ rfl
  have g2 := hf 2 _ rfl
  have g3 := hf 3 _ rfl
  have g4 := hf 4 _ rfl
  have g5 := hf 5 _ rfl
  simp [i1, i2, i3, i4] at g0 g1 g2 g3 g4 g5
  match xs, hxl, g0, g1, g2, g3, g4, g5 with
  | [y0, y1, y2, y3, y4, y5], _, g0, g1, g2, g3, g4, g5 =>
   obtain ⟨n0, e0, _, z0⟩ := DataW.trod_int Tryz.underlying5 g0
   obtain rfl : v0 = .int .u8 n0 := by simpa using e0
   obtain ⟨s1, e1, _, z1⟩ := DataW.trod_string Tryz.underlying9 g1
   obtain rfl : v1 = .string s1 := by simpa using e1
   obtain ⟨s2, e2, _, z2⟩ := DataW.trod_string Tryz.underlying9 g2
   obtain rfl : v2 = .string s2 := by simpa using e2
   obtain ⟨M, a, c, rfl, hM, _⟩ := open_attrs g3
   obtain ⟨s4, e4, _, z4⟩ := DataW.trod_string Tryz.underlying9 g4
   obtain rfl : v4 = .string s4 := by simpa using e4
   obtain ⟨n5, e5, _, z5⟩ := DataW.trod_int Tryz.underlying3 g5
   obtain rfl : v5 = .int .i64 n5 := by simpa using e5
   have w5 : n5 ≤ 9223372036854775807 := by
    simp only [Lit.wf, Bool.and_eq_true, decide_eq_true_eq] at z5
    exact z5.2
   exact ⟨((n0, s1.data.toList, s2.data.toList, M, s4.data.toList, n5), (a, c)), by simp [ndY], hM, w5⟩
set_option maxRecDepth 100000 in
theorem open_tree {v : Value} {fuel : Nat} {d : DataW H × List MemPlace} (hf : DataW.trod enc Tryz.prog W 0 (fun _ => true) true fuel 108 [v] = some d) : ∃ (M : List NdI) (a : Option Addr) (c : Nat), v = .slice a M.length c ∧ IsL ndY (.slice a M.length c) M W ∧ ∀ x ∈ M, QN x :=
 open_L ndY QN Tryz.underlying108 (by kernel_rfl) (by decide) one_nd hf
set_option maxRecDepth 100000 in
theorem one_tr (fuel : Nat) (cs : List Value) (d : DataW H × List MemPlace) (hl : cs.length = 1) (h : DataW.trod enc Tryz.prog W 0 (fun _ => true) true fuel 108 cs = some d) : ∃ x : TrI, cs = trY.cs x ∧ trY.sub x W ∧ QT x := by
 match cs, hl with
 | [v], _ =>
  obtain ⟨M, a, c, rfl, hM, hq⟩ := open_tree h
  exact ⟨(M, (a, c)), rfl, hM, hq⟩
set_option maxRecDepth 100000 in
theorem open_load {v : Value} {fuel : Nat} {d : DataW H × List MemPlace} (hf : DataW.trod enc Tryz.prog W 0 (fun _ => true) true fuel 36 [v] = some d) : ∃ (M : List TrI) (a : Option Addr) (c : Nat), v = .slice a M.length c ∧ IsL trY (.slice a M.length c) M W ∧ ∀ x ∈ M, QT x :=
 open_L trY QT Tryz.underlying36 (by kernel_rfl) (by decide) one_tr hf
set_option maxRecDepth 100000 in
theorem one_rs (fuel : Nat) (cs : List Value) (d : DataW H × List MemPlace) (hl : cs.length = 6) (h : DataW.trod enc Tryz.prog W 0 (fun _ => true) true fuel 38 cs = some d) : ∃ x : RsI, cs = rsY.cs x ∧ rsY.sub x W ∧ QR x := by
 obtain ⟨xs, k, hk, hxy, _, hxl, hf⟩ := DataW.trod_struct Tryz.underlying38 h
 match cs, hl with
 | [v0, v1, v2, v3, v4, v5], _ =>
  have i1 : Tryz.prog.cellsOf 9 = 1 := by kernel_rfl
  have i4 : Tryz.prog.cellsOf 3 = 1 := by kernel_rfl
  have i2 : Tryz.prog.cellsOf 4 = 1 := by kernel_rfl
  have i3 : Tryz.prog.cellsOf 36 = 1 := by kernel_rfl
  have i5 : Tryz.prog.cellsOf 26 = 1 := by kernel_rfl
  have g0 := hf 0 _ rfl
  have g1 := hf 1 _ rfl
  have g2 := hf 2 _ rfl
  have g3 := hf 3 _ rfl
  have g4 := hf 4 _ rfl
  have g5 := hf 5 _ rfl
  simp [i1, i2, i3, i4, i5] at g0 g1 g2 g3 g4 g5
  match xs, hxl, g0, g1, g2, g3, g4, g5 with
  | [y0, y1, y2, y3, y4, y5], _, g0, g1, g2, g3, g4, g5 =>
   obtain ⟨s0, e0, _, z0⟩ := DataW.trod_string Tryz.underlying9 g0
   obtain rfl : v0 = .string s0 := by simpa using e0
   obtain ⟨b1, e1, _⟩ := DataW.trod_bool Tryz.underlying4 g1
   obtain rfl : v1 = .bool b1 := by simpa using e1
   obtain ⟨n2, e2, _, z2⟩ := DataW.trod_int Tryz.underlying3 g2
   obtain rfl : v2 = .int .i64 n2 := by simpa using e2
   obtain ⟨M, a, c, rfl, hM, hq⟩ := open_load g3
   obtain ⟨b4, e4, _⟩ := DataW.trod_bool Tryz.underlying4 g4
   obtain rfl : v4 = .bool b4 := by simpa using e4
   obtain ⟨g, ga, gc, rfl, hg, _⟩ := open_grp g5
   exact ⟨⟨s0.data.toList, b1, n2, M, (a, c), b4, g, (ga, gc)⟩, by simp [rsY], ⟨hM, hg⟩, hq⟩
set_option maxRecDepth 100000 in
theorem one_ac (fuel : Nat) (cs : List Value) (d : DataW H × List MemPlace) (hl : cs.length = 3) (h : DataW.trod enc Tryz.prog W 0 (fun _ => true) true fuel 33 cs = some d) : ∃ x : AcI, cs = acY.cs x ∧ acY.sub x W ∧ True := by
 obtain ⟨xs, k, hk, hxy, _, hxl, hf⟩ := DataW.trod_struct Tryz.underlying33 h
 match cs, hl with
 | [v0, v1, v2], _ =>
  have i1 : Tryz.prog.cellsOf 9 = 1 := by kernel_rfl
  have i4 : Tryz.prog.cellsOf 3 = 1 := by kernel_rfl
  have i2 : Tryz.prog.cellsOf 31 = 2 := by kernel_rfl
  have i3 : Tryz.prog.cellsOf 29 = 1 := by kernel_rfl
  have g0 := hf 0 _ rfl
  have g1 := hf 1 _ rfl
  simp [i1, i2] at g0 g1
  match xs, hxl, g0, g1 with
  | [y0, y1], _, g0, g1 =>
   obtain ⟨s0, e0, _, z0⟩ := DataW.trod_string Tryz.underlying9 g0
   obtain rfl : v0 = .string s0 := by simpa using e0
   obtain ⟨ys, k', hk', hxy', _, hyl, hf'⟩ := DataW.trod_struct Tryz.underlying31 g1
   have k0 := hf' 0 _ rfl
   have k1 := hf' 1 _ rfl
   simp [i3, i4] at k0 k1
   match ys, hyl, k0, k1 with
   | [u0, u1], _, k0, k1 =>
    obtain ⟨M, hM⟩ := open_items k0
    obtain ⟨a, c, rfl, _⟩ := hM.form
    obtain ⟨n2, e2, _, z2⟩ := DataW.trod_int Tryz.underlying3 k1
    obtain rfl : v2 = .int .i64 n2 := by simpa using e2
    exact ⟨⟨s0.data.toList, M, (a, c), n2⟩, by simp [acY], hM, trivial⟩
set_option maxRecDepth 100000 in
/-- A CORE THAT COMES IN AS DATA. -/
theorem open_core {base : Nat} {v : Value} {d : DataW H} {ps : List MemPlace} (hv : Value.okWide Tryz.prog W .any base 25 v) (h : DataW.Trod enc Tryz.prog W 0 (fun _ => true) true 25 v d ps) :
  ∃ c : CoI, v = c.v ∧ c.sub W ∧ ∀ r ∈ c.R, QR r := by
 obtain ⟨v0, v1, v2, y0, y1, y2, n, rfl, rfl, rfl, h0, h1, h2⟩ := open_agg3 Tryz.underlying25 (by kernel_rfl) (by kernel_rfl : Tryz.prog.cellsOf 25 = 3) hv h
 obtain ⟨A, aa, ac, rfl, hA, _⟩ := open_L acY (fun _ => True) Tryz.underlying22 (by kernel_rfl) (by decide) one_ac h0
 obtain ⟨R, ra, rc, rfl, hR, hq⟩ := open_L rsY QR Tryz.underlying23 (by kernel_rfl) (by decide) one_rs h1
 obtain ⟨m, e2, _, z2⟩ := DataW.trod_int Tryz.underlying3 h2
 obtain rfl : v2 = .int .i64 m := by simpa using e2
 exact ⟨⟨A, (aa, ac), R, (ra, rc), m⟩, rfl, ⟨hA, hR⟩, hq⟩
set_option maxRecDepth 100000 in
/-- A RESOURCE, AN ACCOUNT THAT COMES IN AS DATA. -/
theorem open_res {base : Nat} {v : Value} {d : DataW H} {ps : List MemPlace} (hv : Value.okWide Tryz.prog W .any base 38 v) (h : DataW.Trod enc Tryz.prog W 0 (fun _ => true) true 38 v d ps) : ∃ r : RsI, v = r.v ∧ rsY.sub r W ∧ QR r :=
 open_elem rsY QR Tryz.underlying38 (by kernel_rfl) one_rs hv h
set_option maxRecDepth 100000 in
theorem open_acc {base : Nat} {v : Value} {d : DataW H} {ps : List MemPlace} (hv : Value.okWide Tryz.prog W .any base 33 v) (h : DataW.Trod enc Tryz.prog W 0 (fun _ => true) true 33 v d ps) : ∃ a : AcI, v = a.v ∧ IsItems a.iv a.it W := by
 obtain ⟨a, h1, h2, _⟩ := open_elem acY (fun _ => True) Tryz.underlying33 (by kernel_rfl) one_ac hv h
 exact ⟨a, h1, h2⟩
end
end Go.Proofs.YtjgeiieiinmdnaaGreatDoor
namespace Go.Proofs.YtjgeiieiinmdnaaGreatDoor
open Go.RowKit Go.Lib

theorem core_adr {p : List Nd → Bool} {c : Co} (h : coreD p c = true) : (∀ a ∈ c.1, mineF (acN a) = true) ∧ (∀ r ∈ c.2.1, adrF (reN r) = true) := by
 obtain ⟨_, _, _, _, h1, _, h2, _⟩ := co_facts h
 refine ⟨fun a ha => ?_, fun r hr => ?_⟩
 ·have := List.all_eq_true.1 h1 a ha
  unfold accF at this
  rw [Bool.and_eq_true] at this
  exact this.1
 ·have := List.all_eq_true.1 h2 r hr
  rw [Bool.and_eq_true] at this
  have := this.1
  unfold resF fullF at this
  simp only [Bool.and_eq_true] at this
  exact this.1.1
theorem mine_txt {o : List UInt8} (h : mineF o = true) : prsP o = true ∧ txtP (jLoc o) (jDom o) [] = o ∧ jLoc o ≠ [] ∧ chkP (jLoc o) (jDom o) [] = true := by
 unfold mineF adrF at h
 simp only [Bool.and_eq_true, decide_eq_true_eq] at h
 obtain ⟨⟨h1, h2⟩, h3, h4⟩ := h
 have hr : jRes o = [] := by simpa using h4
 have hl : jLoc o ≠ [] := by simpa using h3
 have hc := prs_chk h1
 rw [hr] at h2 hc
 exact ⟨h1, h2, hl, hc⟩
theorem res_ne {s : List UInt8} (hs : resP s = true) : s ≠ [] := by
 rintro rfl
 exact absurd hs (by decide)
/-- the text of an account's resource. -/
theorem full_of {o s : List UInt8} (ho : mineF o = true) (hs : resP s = true) : fullF (o ++ 47 :: s) = true ∧ bareP (o ++ 47 :: s) = o := by
 obtain ⟨h1, h2, h3, h4⟩ := mine_txt ho
 have hsn := res_ne hs
 have hc : chkP (jLoc o) (jDom o) s = true := by
  unfold chkP at h4 ⊢
  simp only [Bool.and_eq_true] at h4
  rw [h4.1.1, hs, h4.2, Bool.or_true]
  rfl
 have e : txtP (jLoc o) (jDom o) s = txtP (jLoc o) (jDom o) [] ++ 47 :: s := by unfold txtP; simp [hsn]
 rw [h2] at e
 obtain ⟨q1, q2, q3, q4⟩ := prs_txt hc
 rw [e] at q1 q2 q3 q4
 constructor
 ·unfold fullF adrF
  rw [q1, q2, q3, q4, e]
  simp [h3, hsn]
 ·unfold bareP
  rw [if_pos q1, q2, q3, h2]
theorem txP_ascii : ∀ (k : Nat) (l : List UInt8), l.length ≤ k → (∀ c ∈ l, 32 ≤ c.toNat ∧ c.toNat < 127) → txP l = true
 | _, [], _, _ => txP_nil
 | 0, c :: l, hk, _ => by simp at hk
 | k + 1, c :: l, hk, h => by
  obtain ⟨h1, h2⟩ := h c (List.mem_cons_self ..)
  rw [txP_step _ (by simp), Lib.decodeL_ascii c l (by omega), if_neg]
  ·exact txP_ascii k l (by simpa using hk) fun x hx => h x (List.mem_cons_of_mem _ hx)
  ·rintro (⟨h3, _⟩ | h3)
   ·simp only at h3
    omega
   ·have : mayP c.toNat = true := by
     unfold mayP
     rw [if_neg (by omega), decide_eq_true (by omega : c.toNat ≤ 1114111), decide_eq_true (by omega : c.toNat < 55296)]
     have e1 : (c.toNat == 65534) = false := beq_eq_false_iff_ne.2 (by omega)
     have e2 : (c.toNat == 65535) = false := beq_eq_false_iff_ne.2 (by omega)
     rw [e1, e2]
     rfl
    rw [this] at h3
    cases h3
theorem isDig_range {c : UInt8} (h : isDig c = true) : 48 ≤ c.toNat ∧ c.toNat ≤ 57 := by
 unfold isDig at h
 simpa using h
/-- a made name is a resource's. -/
theorem res_made {n : Nat} (h : n ≤ 9007199254740991) : resP (114 :: decDigits n) = true := by
 have hd := all_dec n
 have hl := len_dec h
 have ha : ∀ c ∈ (114 : UInt8) :: decDigits n, 32 ≤ c.toNat ∧ c.toNat < 127 := by
  intro c hc
  rcases List.mem_cons.1 hc with rfl | hc
  ·decide
  ·have := isDig_range (List.all_eq_true.1 hd c hc)
   omega
 unfold resP
 rw [txP_ascii _ _ (Nat.le_refl _) ha, decide_eq_true (by simp only [List.length_cons]; omega), List.all_eq_true.2 (fun c hc => decide_eq_true (ha c hc).1)]
 rfl
theorem madeN_run (R : List Re) (t : List UInt8) : ∀ (f n : Nat), fiG reN R (nmR t (madeN R t f n)) = none ∨ ∀ i < f, (fiG reN R (nmR t (n + i))).isSome = true
 | 0, n => .inr fun i hi => absurd hi (Nat.not_lt_zero i)
 | f + 1, n => by
  unfold madeN
  cases h : (fiG reN R (nmR t n)).isSome with
  | false =>
   left
   simp only [Bool.false_eq_true, if_false]
   simpa using h
  | true =>
   simp only [if_true]
   rcases madeN_run R t f (n + 1) with h1 | h1
   ·exact .inl h1
   ·refine .inr fun i hi => ?_
    cases i with
    | zero => exact h
    | succ i =>
     have := h1 i (by omega)
     rwa [show n + 1 + i = n + (i + 1) by omega] at this
theorem madeN_free (R : List Re) (t : List UInt8) (n : Nat) : fiG reN R (nmR t (madeN R t (R.length + 1) n)) = none := by
 rcases madeN_run R t (R.length + 1) n with h | h
 ·exact h
 ·have := made_most h
  omega
/-- what comes of a binding that is right: its name, and the numbers. -/
structure BindOk (c : Co) (o r : List UInt8) (s : List UInt8) (x : Co) : Prop where
 e : x = (c.1, puO reN c.2.1 (newR (o ++ 47 :: s)), x.2.2)
 free : fiG reN c.2.1 (o ++ 47 :: s) = none
 res : resP s = true
 len : c.2.1.length ≤ 15
 m1 : c.2.2 ≤ x.2.2
 m2 : x.2.2 < mostV
 nm : r = [] ∨ (s = r ∧ x.2.2 = c.2.2)
theorem bind_ok {p : List Nd → Bool} {c : Co} {o r : List UInt8} (h : (bindF p c o r).2.2 = 0) : coreD p c = true ∧ (∃ a ∈ c.1, acN a = o) ∧ ∃ s, (bindF p c o r).2.1 = o ++ 47 :: s ∧ BindOk c o r s (bindF p c o r).1 := by
 unfold bindF at h ⊢
 cases hc : coreD p c with
 | false => rw [hc] at h; exact absurd h (by simp)
 | true =>
  rw [hc] at h
  simp only [if_true] at h ⊢
  obtain ⟨_, _, hm0, hm1, _⟩ := co_facts hc
  cases ha : (fiG acN c.1 o).isSome with
  | false => rw [ha] at h; exact absurd h (by simp)
  | true =>
   rw [ha] at h
   simp only [if_true] at h ⊢
   obtain ⟨a, ha⟩ := Option.isSome_iff_exists.1 ha
   refine ⟨trivial, ⟨a, find_someG ha⟩, ?_⟩
   cases hr : (r.isEmpty || chkP [] [97] r) with
   | false => rw [hr] at h; exact absurd h (by simp)
   | true =>
    rw [hr] at h
    simp only [if_true] at h ⊢
    cases hf : (fiG reN c.2.1 (o ++ 47 :: r)).isSome with
    | true => rw [hf] at h; exact absurd h (by simp)
    | false =>
     rw [hf] at h
     simp only [Bool.false_eq_true, if_false] at h ⊢
     by_cases hl : c.2.1.length ≤ 15
     ·rw [if_pos hl] at h ⊢
      cases he : r.isEmpty with
      | false =>
       simp only [Bool.false_eq_true, if_false] at h ⊢
       rw [he, Bool.false_or] at hr
       unfold chkP at hr
       simp only [Bool.and_eq_true, he, Bool.false_or] at hr
       exact ⟨r, rfl, ⟨rfl, by simpa using hf, hr.1.2, hl, Int.le_refl _, hm1, .inr ⟨rfl, rfl⟩⟩⟩
      | true =>
       rw [he] at h
       simp only [if_true] at h ⊢
       obtain ⟨N, hN⟩ : ∃ N, madeN c.2.1 o (c.2.1.length + 1) (c.2.2.toNat + 1) = N := ⟨_, rfl⟩
       have hle := (madeN_le c.2.1 o (c.2.1.length + 1) (c.2.2.toNat + 1)).1
       have hfr := madeN_free c.2.1 o (c.2.2.toNat + 1)
       rw [hN] at h hle hfr ⊢
       by_cases hm : (N : Int) < mostV
       ·rw [if_pos hm] at h ⊢
        have hr0 : r = [] := by simpa using he
        have hN2 : N ≤ 9007199254740991 := by unfold mostV at hm; omega
        exact ⟨114 :: decDigits N, rfl, ⟨rfl, hfr, res_made hN2, hl, by show c.2.2 ≤ (N : Int); omega, hm, .inl hr0⟩⟩
       ·rw [if_neg hm] at h
        exact absurd h (by simp)
     ·rw [if_neg hl] at h
      exact absurd h (by simp)
theorem bind_not {p : List Nd → Bool} {c : Co} {o r : List UInt8} (h : (bindF p c o r).2.2 ≠ 0) : (bindF p c o r).1 = co0 ∧ (bindF p c o r).2.1 = [] := by
 unfold bindF at h ⊢
 split
 ·rename_i h1
  rw [if_pos h1] at h
  split
  ·rename_i h2
   rw [if_pos h2] at h
   split
   ·rename_i h3
    rw [if_pos h3] at h
    split
    ·exact ⟨rfl, rfl⟩
    ·rename_i h4
     rw [if_neg h4] at h
     split
     ·rename_i h5
      rw [if_pos h5] at h
      split
      ·rename_i h6
       rw [if_pos h6] at h
       split
       ·rename_i h7
        rw [if_pos h7] at h
        exact absurd rfl h
       ·exact ⟨rfl, rfl⟩
      ·rename_i h6
       rw [if_neg h6] at h
       exact absurd rfl h
     ·exact ⟨rfl, rfl⟩
   ·exact ⟨rfl, rfl⟩
  ·exact ⟨rfl, rfl⟩
 ·exact ⟨rfl, rfl⟩
/-- a thing put among others, of no name among them. -/
theorem put_new {α : Type} [Inhabited α] {nm : α → List UInt8} {L : List α} {x : α} (hc : chG nm L = true) (hL : ∀ y ∈ L, adrF (nm y) = true) (hx : adrF (nm x) = true) (hf : fiG nm L (nm x) = none) :
  puO nm L x = L.take (poG nm L (nm x)) ++ x :: L.drop (poG nm L (nm x)) ∧ chG nm (puO nm L x) = true ∧ (puO nm L x).length = L.length + 1 ∧ fiG nm (puO nm L x) (nm x) = some x ∧ (puO nm L x).eraseP (fun y => nm y == nm x) = L := by
 have hno : ∀ y ∈ L, ¬ (nm y == nm x) = true := by
  unfold fiG at hf
  exact List.find?_eq_none.1 hf
 have ht : thG nm L (nm x) = false := by
  cases h : thG nm L (nm x) with
  | false => rfl
  | true =>
   have := (there_findG hc).1 h
   rw [hf] at this
   cases this
 have e : puO nm L x = L.take (poG nm L (nm x)) ++ x :: L.drop (poG nm L (nm x)) := by
  rw [puO_G hL hx]
  unfold puG
  rw [ht]
  rfl
 have hch : chG nm (puO nm L x) = true := by
  rw [puO_G hL hx]
  exact put_chainG hc hL hx
 refine ⟨e, hch, ?_, ?_, ?_⟩
 ·rw [e, List.length_append, List.length_cons, List.length_take, List.length_drop]
  have := posL_leG (nm := nm) L (nm x)
  omega
 ·rw [e]
  unfold fiG
  rw [List.find?_append, List.find?_eq_none.2 (fun y hy => hno y (List.mem_of_mem_take hy))]
  simp
 ·rw [e, List.eraseP_append_right _ (fun y hy => by simpa using hno y (List.mem_of_mem_take hy)), List.eraseP_cons_of_pos (by simp), List.take_append_drop]
/-- THE PLAIN LAW OF BINDING. -/
theorem bind_law {p : List Nd → Bool} {c : Co} {o r : List UInt8} (h : (bindF p c o r).2.2 = 0) : ∃ s, (bindF p c o r).2.1 = o ++ 47 :: s ∧ fiG reN (bindF p c o r).1.2.1 (o ++ 47 :: s) = some (newR (o ++ 47 :: s)) ∧ fiG reN c.2.1 (o ++ 47 :: s) = none ∧
  coreD p (bindF p c o r).1 = true ∧ (bindF p c o r).1.2.1.length = c.2.1.length + 1 ∧ s ≠ [] ∧ freeF p (bindF p c o r).1 (o ++ 47 :: s) = ((c.1, c.2.1, (bindF p c o r).1.2.2), 0) ∧ c.2.2 ≤ (bindF p c o r).1.2.2 ∧ (r = [] ∨ (s = r ∧ (bindF p c o r).1.2.2 = c.2.2)) := by
 obtain ⟨hc, ⟨a, ham, hao⟩, s, hs, hb⟩ := bind_ok h
 obtain ⟨x, hx⟩ : ∃ x, (bindF p c o r).1 = x := ⟨_, rfl⟩
 rw [hx] at hb ⊢
 obtain ⟨he, hfree, hres, hlen, m1, m2, hnm⟩ := hb
 obtain ⟨hA, hR⟩ := core_adr hc
 obtain ⟨f1, f2, f3, f4, f5, f6, f7, f8⟩ := co_facts hc
 have hmo : mineF o = true := by rw [← hao]; exact hA a ham
 obtain ⟨g1, g2⟩ := full_of hmo hres
 have hadr : adrF (reN (newR (o ++ 47 :: s))) = true := by
  show adrF (o ++ 47 :: s) = true
  unfold fullF at g1
  rw [Bool.and_eq_true] at g1
  exact g1.1
 obtain ⟨e1, e2, e3, e4, e5⟩ := put_new (nm := reN) (x := newR (o ++ 47 :: s)) f8 hR hadr hfree
 have hown : ownerF c.1 (newR (o ++ 47 :: s)) = true := by
  unfold ownerF
  refine List.any_eq_true.2 ⟨a, ham, ?_⟩
  show (a.1 == bareP (o ++ 47 :: s)) = true
  rw [g2]
  simpa using hao
 have hrs : resF p (newR (o ++ 47 :: s)) = true := by
  unfold resF
  show (fullF (o ++ 47 :: s) && _) = true
  rw [g1]
  rfl
 have hcx : coreD p x = true := by
  rw [he]
  unfold coreD coreF
  simp only [Bool.and_eq_true, decide_eq_true_eq]
  refine ⟨f1, by rw [e3]; omega, by omega, m2, f5, f6, ?_, e2⟩
  refine List.all_eq_true.2 fun y hy => ?_
  rcases puO_mem hy with hy | rfl
  ·exact List.all_eq_true.1 f7 y hy
  ·rw [hrs, hown]
   rfl
 have hx2 : x.2.1 = puO reN c.2.1 (newR (o ++ 47 :: s)) := by rw [he]
 have hx1 : x.1 = c.1 := by rw [he]
 refine ⟨s, hs, by rw [hx2]; exact e4, hfree, hcx, by rw [hx2]; exact e3, res_ne hres, ?_, m1, hnm⟩
 unfold freeF
 rw [hcx, hx2, hx1]
 have e4' : fiG reN (puO reN c.2.1 (newR (o ++ 47 :: s))) (o ++ 47 :: s) = some (newR (o ++ 47 :: s)) := e4
 have e5' : (puO reN c.2.1 (newR (o ++ 47 :: s))).eraseP (fun y => reN y == o ++ 47 :: s) = c.2.1 := e5
 rw [e4', e5']
 rfl
end Go.Proofs.YtjgeiieiinmdnaaGreatDoor
namespace Go.Proofs.YtjgeiieiinmdnaaGreatDoor
open Go.RowKit Go.Lib

section
variable {α : Type} {nm : α → List UInt8}
theorem poG_names {L K : List α} (h : L.map nm = K.map nm) (t : List UInt8) : poG nm L t = poG nm K t := by
 have e1 := poG_map (f := nm) (nm := id) L t
 have e2 := poG_map (f := nm) (nm := id) K t
 rw [h] at e1
 exact e1.symm.trans e2
theorem chG_names {L K : List α} (h : L.map nm = K.map nm) : chG nm L = chG nm K := by
 have e1 := chG_map nm id L
 have e2 := chG_map nm id K
 rw [h] at e1
 exact e1.symm.trans e2
end
section
variable {α : Type} [Inhabited α] {nm : α → List UInt8}
/-- a thing of a name that is there. -/
theorem put_old {L : List α} {x was : α} (hc : chG nm L = true) (hL : ∀ y ∈ L, adrF (nm y) = true) (hf : fiG nm L (nm x) = some was) :
  was ∈ L ∧ nm was = nm x ∧ (puO nm L x).map nm = L.map nm ∧ chG nm (puO nm L x) = true ∧ fiG nm (puO nm L x) (nm x) = some x ∧ puO nm (puO nm L x) was = L := by
 obtain ⟨hw, hn⟩ := find_someG hf
 have hx : adrF (nm x) = true := by rw [← hn]; exact hL was hw
 have ht := there_iffG hc ⟨was, hw, hn⟩
 obtain ⟨hp, hj, _⟩ := there_dropG ht
 have hg := (there_findG hc).1 ht
 rw [hf] at hg
 have hg2 : L[poG nm L (nm x)] = was := by
  have := Option.some.inj hg
  rw [this]
  simp [List.getD, hp]
 obtain ⟨k, hk⟩ : ∃ k, poG nm L (nm x) = k := ⟨_, rfl⟩
 have e : puO nm L x = L.set k x := by
  rw [puO_G hL hx]
  unfold puG
  rw [ht, hk]
  rfl
 have hkl : k < L.length := by rw [← hk]; exact hp
 have hgk : L[k] = was := by subst hk; exact hg2
 have hm : (L.set k x).map nm = L.map nm := by
  rw [List.map_set]
  have : nm x = (L.map nm)[k]'(by simpa using hkl) := by rw [List.getElem_map, hgk, hn]
  rw [this, List.set_getElem_self]
 have hc2 : chG nm (L.set k x) = true := by rw [chG_names hm]; exact hc
 have hxm : x ∈ L.set k x := List.mem_set hkl x
 have hL2 : ∀ y ∈ L.set k x, adrF (nm y) = true := fun y hy => by
  rcases List.mem_or_eq_of_mem_set hy with h1 | rfl
  ·exact hL y h1
  ·exact hx
 have hpo : poG nm (L.set k x) (nm x) = k := by rw [poG_names hm, hk]
 have ht2 := there_iffG hc2 ⟨x, hxm, rfl⟩
 refine ⟨hw, hn, by rw [e, hm], by rw [e]; exact hc2, ?_, ?_⟩
 ·rw [e, (there_findG hc2).1 ht2, hpo]
  simp [List.getD, hkl]
 ·rw [e, puO_G hL2 (by rw [hn]; exact hx)]
  unfold puG
  rw [hn, ht2, hpo]
  simp only [if_true, List.set_set]
  rw [← hgk, List.set_getElem_self]
end
/-- THE PLAIN LAW OF TURNING A RESOURCE. -/
theorem with_law {p : List Nd → Bool} {c : Co} {r : Re} (h : (withF p c r).2 = 0) : ∃ was, fiG reN c.2.1 r.j = some was ∧ fiG reN (withF p c r).1.2.1 r.j = some r ∧ withF p (withF p c r).1 was = (c, 0) ∧ coreD p (withF p c r).1 = true ∧ coreD p c = true ∧ (withF p c r).1 = (c.1, puO reN c.2.1 r, c.2.2) := by
 unfold withF at h
 cases hc : coreD p c with
 | false => rw [hc] at h; exact absurd h (by simp)
 | true =>
  rw [hc] at h
  simp only [if_true] at h
  cases hf : fiG reN c.2.1 r.j with
  | none => rw [hf] at h; exact absurd h (by simp)
  | some was =>
   rw [hf] at h
   simp only [Option.isSome_some, if_true] at h
   cases hr : resF p r with
   | false => rw [hr] at h; exact absurd h (by simp)
   | true =>
    have hx : withF p c r = ((c.1, puO reN c.2.1 r, c.2.2), 0) := by
     unfold withF
     rw [hc, hf, hr]
     rfl
    rw [hx]
    obtain ⟨_, hR⟩ := core_adr hc
    obtain ⟨f1, f2, f3, f4, f5, f6, f7, f8⟩ := co_facts hc
    obtain ⟨hw, hn, hm, hch, hfi, hback⟩ := put_old (nm := reN) (x := r) f8 hR hf
    have hlen : (puO reN c.2.1 r).length = c.2.1.length := by have := congrArg List.length hm; simpa using this
    have hown : ownerF c.1 r = true := by
     have := List.all_eq_true.1 f7 was hw
     rw [Bool.and_eq_true] at this
     have := this.2
     unfold ownerF at this ⊢
     have e : was.j = r.j := hn
     rw [e] at this
     exact this
    have hcx : coreD p (c.1, puO reN c.2.1 r, c.2.2) = true := by
     unfold coreD coreF
     simp only [Bool.and_eq_true, decide_eq_true_eq]
     refine ⟨f1, by rw [hlen]; exact f2, f3, f4, f5, f6, ?_, hch⟩
     refine List.all_eq_true.2 fun y hy => ?_
     rcases puO_mem hy with hy | rfl
     ·exact List.all_eq_true.1 f7 y hy
     ·rw [hr, hown]
      rfl
    refine ⟨was, rfl, hfi, ?_, hcx, rfl, rfl⟩
    have hrw : resF p was = true := by
     have := List.all_eq_true.1 f7 was hw
     rw [Bool.and_eq_true] at this
     exact this.1
    have hfi2 : fiG reN (puO reN c.2.1 r) was.j = some r := by
     have e : was.j = r.j := hn
     rw [e]
     exact hfi
    unfold withF
    simp only
    rw [hcx, hfi2, hrw, hback]
    rfl
theorem with_not {p : List Nd → Bool} {c : Co} {r : Re} (h : (withF p c r).2 ≠ 0) : (withF p c r).1 = co0 := by
 unfold withF at h ⊢
 split
 ·rename_i h1
  rw [if_pos h1] at h
  split
  ·rename_i h2
   rw [if_pos h2] at h
   split
   ·rename_i h3
    rw [if_pos h3] at h
    exact absurd rfl h
   ·rfl
  ·rfl
 ·rfl
/-- THE PLAIN LAW OF TURNING AN ACCOUNT. -/
theorem keep_law {p : List Nd → Bool} {c : Co} {a : Ac} (h : (keepF p c a).2 = 0) : ∃ was, fiG acN c.1 a.1 = some was ∧ keepF p (keepF p c a).1 was = (c, 0) ∧ coreD p (keepF p c a).1 = true ∧ coreD p c = true ∧ (keepF p c a).1 = (puO acN c.1 a, c.2.1, c.2.2) := by
 unfold keepF at h
 cases hc : coreD p c with
 | false => rw [hc] at h; exact absurd h (by simp)
 | true =>
  rw [hc] at h
  simp only [if_true] at h
  cases hf : fiG acN c.1 a.1 with
  | none => rw [hf] at h; exact absurd h (by simp)
  | some was =>
   rw [hf] at h
   simp only [Option.isSome_some, if_true] at h
   cases hr : accF a with
   | false => rw [hr] at h; exact absurd h (by simp)
   | true =>
    have hx : keepF p c a = ((puO acN c.1 a, c.2.1, c.2.2), 0) := by
     unfold keepF
     rw [hc, hf, hr]
     rfl
    rw [hx]
    obtain ⟨hA, _⟩ := core_adr hc
    obtain ⟨f1, f2, f3, f4, f5, f6, f7, f8⟩ := co_facts hc
    obtain ⟨hw, hn, hm, hch, hfi, hback⟩ := put_old (nm := acN) (x := a) f6 (fun y hy => mineF_adr (hA y hy)) hf
    have hlen : (puO acN c.1 a).length = c.1.length := by have := congrArg List.length hm; simpa using this
    have hown : ∀ r : Re, ownerF (puO acN c.1 a) r = ownerF c.1 r := fun r => by
     have e : ∀ A : List Ac, ownerF A r = (A.map acN).any fun n => n == bareP r.j := fun A => by
      unfold ownerF
      rw [List.any_map]
      rfl
     rw [e, e, hm]
    have hcx : coreD p (puO acN c.1 a, c.2.1, c.2.2) = true := by
     unfold coreD coreF
     simp only [Bool.and_eq_true, decide_eq_true_eq, hown]
     refine ⟨by rw [hlen]; exact f1, f2, f3, f4, ?_, hch, f7, f8⟩
     refine List.all_eq_true.2 fun y hy => ?_
     rcases puO_mem hy with hy | rfl
     ·exact List.all_eq_true.1 f5 y hy
     ·exact hr
    refine ⟨was, rfl, ?_, hcx, rfl, rfl⟩
    have hrw : accF was = true := List.all_eq_true.1 f5 was hw
    have hfi2 : fiG acN (puO acN c.1 a) was.1 = some a := by
     have e : was.1 = a.1 := hn
     rw [e]
     exact hfi
    unfold keepF
    simp only
    rw [hcx, hfi2, hrw, hback]
    rfl
theorem keep_not {p : List Nd → Bool} {c : Co} {a : Ac} (h : (keepF p c a).2 ≠ 0) : (keepF p c a).1 = co0 := by
 unfold keepF at h ⊢
 split
 ·rename_i h1
  rw [if_pos h1] at h
  split
  ·rename_i h2
   rw [if_pos h2] at h
   split
   ·rename_i h3
    rw [if_pos h3] at h
    exact absurd rfl h
   ·rfl
  ·rfl
 ·rfl
/-! ### who gets an account's messages -/
end Go.Proofs.YtjgeiieiinmdnaaGreatDoor
namespace Go.Proofs.YtjgeiieiinmdnaaGreatDoor
open Go.RowKit Go.Lib

theorem tree_ok {T : TrI} {w : World} (hs : trY.sub T w) (hf : TrFit (trD T)) : TreeOk spaceF T w := fun W hb => sp_Check T W (trY.subRet _ _ _ hs hb) hf
structure ReFit (r : Re) : Prop where
 j : r.j.length ≤ 10000
 st : r.st.length ≤ 1000
 sx : ∀ s ∈ r.st, s.length ≤ 10000
 ld : r.ld.length ≤ 1000
 tr : ∀ t ∈ r.ld, TrFit t
theorem TrFit.sub {x : RsI} (h : ReFit x.d) : ∀ t ∈ x.ld, TrFit (trD t) := fun t ht => h.tr (trD t) (List.mem_map_of_mem ht)
theorem ReFit.ldl {x : RsI} (h : ReFit x.d) : x.ld.length ≤ 1000 := by
 have : (x.ld.map trD).length ≤ 1000 := h.ld
 rwa [List.length_map] at this
theorem TrFit.twin {t : TrI} (h : TrFit (trD t)) : t.1.length ≤ 100000 ∧ ∀ x ∈ t.1, (ndA x).length ≤ 100000 := by
 have h1 := h.1
 rw [List.length_map] at h1
 refine ⟨by omega, fun x hx => ?_⟩
 have : x.1.2.2.2.1.length ≤ 1000 := (h.2 x.1 (List.mem_map_of_mem hx)).at'.1
 show x.1.2.2.2.1.length ≤ _
 omega
theorem ReFit.rs {x : RsI} {w : World} (hs : rsY.sub x w) (h : ReFit x.d) : RsFit spaceF x w :=
 ⟨hs, h.j, h.st, h.sx, h.ldl, fun t ht => tree_ok (hs.1.2.2 t ht) (TrFit.sub h t ht)⟩
theorem ReFit.tw {x : RsI} (h : ReFit x.d) : TwFit x := ⟨by have := h.ldl; omega, by have : x.st.length ≤ 1000 := h.st; omega, fun t ht => (TrFit.sub h t ht).twin⟩
theorem ReFit.eq {x : RsI} (h : ReFit x.d) : EqR x := h.tw
structure ItFit (x : It) : Prop where
 j : x.j.length ≤ 10000
 n : x.n.length ≤ 10000
 g : x.g.length ≤ 1000
 gx : ∀ s ∈ x.g, s.length ≤ 10000
structure AcFit (a : Ac) : Prop where
 j : a.1.length ≤ 10000
 l : a.2.1.length ≤ 1000
 it : ∀ p ∈ a.2.1, ItFit p
theorem AcFit.small {x : AcI} (h : AcFit x.d) : SmallI x.it := by
 have h1 : (x.it.map Prod.fst).length ≤ 1000 := h.l
 rw [List.length_map] at h1
 refine ⟨h1, fun p hp => ?_⟩
 have h2 := h.it p.1 (List.mem_map_of_mem hp)
 exact ⟨h2.j, h2.n, h2.g, h2.gx⟩
theorem AcFit.eq {x : AcI} (h : AcFit x.d) : EqA x := by
 have h1 := h.small
 exact ⟨by have := h1.1; omega, fun p hp => by have := (h1.2 p hp).2.2.1; omega⟩
structure CoFitD (c : Co) : Prop where
 zA : c.1.length ≤ 1000
 zR : c.2.1.length ≤ 1000
 ac : ∀ a ∈ c.1, AcFit a
 rs : ∀ r ∈ c.2.1, ReFit r
theorem CoFitD.zA' {c : CoI} (h : CoFitD c.d) : c.A.length ≤ 1000 := by
 have : (c.A.map AcI.d).length ≤ 1000 := h.zA
 rwa [List.length_map] at this
theorem CoFitD.zR' {c : CoI} (h : CoFitD c.d) : c.R.length ≤ 1000 := by
 have : (c.R.map RsI.d).length ≤ 1000 := h.zR
 rwa [List.length_map] at this
theorem CoFitD.ac' {c : CoI} (h : CoFitD c.d) : ∀ a ∈ c.A, AcFit a.d := fun _ ha => h.ac _ (List.mem_map_of_mem ha)
theorem CoFitD.rs' {c : CoI} (h : CoFitD c.d) : ∀ r ∈ c.R, ReFit r.d := fun _ hr => h.rs _ (List.mem_map_of_mem hr)
theorem CoFitD.fit {c : CoI} {w : World} (h : CoFitD c.d) (hs : c.sub w) : CoFit spaceF c w :=
 ⟨hs, h.zA', h.zR', fun a ha => ⟨(h.ac' a ha).j, (h.ac' a ha).small⟩, fun r hr => ⟨(h.rs' r hr).rs (hs.2.2.2 r hr), (h.rs' r hr).tw⟩⟩
theorem CoFitD.eq {c : CoI} (h : CoFitD c.d) : EqC c :=
 ⟨by have := h.zA'; omega, by have := h.zR'; omega, fun a ha => (h.ac' a ha).eq, fun r hr => (h.rs' r hr).eq⟩
theorem fit_co0 : CoFitD co0 := ⟨Nat.zero_le _, Nat.zero_le _, (fun a ha => by cases ha), (fun r hr => by cases hr)⟩
theorem newR_fit {t : List UInt8} (h : t.length ≤ 10000) : ReFit (newR t) := ⟨h, Nat.zero_le _, (fun s hs => by cases hs), Nat.zero_le _, (fun s hs => by cases hs)⟩
theorem res_len {s : List UInt8} (h : resP s = true) : s.length ≤ 64 := by
 unfold resP at h
 simp only [Bool.and_eq_true, decide_eq_true_eq] at h
 exact h.1.2
theorem CoFitD.put {c : Co} {r : Re} {m : Int} (h : CoFitD c) (hr : ReFit r) (hz : c.2.1.length ≤ 900) : CoFitD (c.1, puO reN c.2.1 r, m) :=
 ⟨h.zA, by have := puO_len (nm := reN) (L := c.2.1) (x := r); show (puO reN c.2.1 r).length ≤ 1000; omega, h.ac, fun y hy => by rcases puO_mem hy with hy | rfl; exact h.rs y hy; exact hr⟩
theorem CoFitD.putA {c : Co} {a : Ac} (h : CoFitD c) (ha : AcFit a) (hz : c.1.length ≤ 900) : CoFitD (puO acN c.1 a, c.2.1, c.2.2) :=
 ⟨by have := puO_len (nm := acN) (L := c.1) (x := a); show (puO acN c.1 a).length ≤ 1000; omega, h.zR, (fun y hy => by rcases puO_mem hy with hy | rfl; exact h.ac y hy; exact ha), h.rs⟩
theorem CoFitD.bind {p : List Nd → Bool} {c : Co} {o r : List UInt8} (h : CoFitD c) (ho : o.length ≤ 4000) : CoFitD (bindF p c o r).1 := by
 by_cases he : (bindF p c o r).2.2 = 0
 ·obtain ⟨hc, -, s, hs, hb⟩ := bind_ok he
  rw [hb.e]
  have h16 := (co_facts hc).2.1
  exact h.put (newR_fit (by have := res_len hb.res; rw [List.length_append, List.length_cons]; omega)) (by omega)
 ·rw [(bind_not he).1]
  exact fit_co0
theorem CoFitD.with' {p : List Nd → Bool} {c : Co} {r : Re} (h : CoFitD c) (hr : ReFit r) : CoFitD (withF p c r).1 := by
 by_cases he : (withF p c r).2 = 0
 ·obtain ⟨-, -, -, -, -, hc, e⟩ := with_law he
  rw [e]
  have h16 := (co_facts hc).2.1
  exact h.put hr (by omega)
 ·rw [with_not he]
  exact fit_co0
theorem CoFitD.keep {p : List Nd → Bool} {c : Co} {a : Ac} (h : CoFitD c) (ha : AcFit a) : CoFitD (keepF p c a).1 := by
 by_cases he : (keepF p c a).2 = 0
 ·obtain ⟨-, -, -, -, hc, e⟩ := keep_law he
  rw [e]
  have h8 := (co_facts hc).1
  exact h.putA ha (by omega)
 ·rw [keep_not he]
  exact fit_co0
/-! ### what the statements go through -/
structure NdSm (n : Nd) : Prop where
 sp : n.2.1.length ≤ 300
 nm : n.2.2.1.length ≤ 300
 tx : n.2.2.2.2.1.length ≤ 300
 al : n.2.2.2.1.length ≤ 30
 at' : ∀ a ∈ n.2.2.2.1, a.1.length ≤ 300 ∧ a.2.1.length ≤ 300 ∧ a.2.2.length ≤ 300
def TrSm (t : List Nd) : Prop := t.length ≤ 20 ∧ ∀ n ∈ t, NdSm n
structure ReSm (r : Re) : Prop where
 j : r.j.length ≤ 300
 ld : r.ld.length ≤ 18
 st : r.st.length ≤ 12
 tr : ∀ t ∈ r.ld, TrSm t
 sx : ∀ s ∈ r.st, s.length ≤ 300
structure AcSm (a : Ac) : Prop where
 j : a.1.length ≤ 300
 g : greatP a.2.1 = false
structure CoSm (c : Co) : Prop where
 zA : c.1.length ≤ 10
 zR : c.2.1.length ≤ 18
 ac : ∀ a ∈ c.1, AcSm a
 rs : ∀ r ∈ c.2.1, ReSm r
theorem NdSm.fit {n : Nd} (h : NdSm n) (hm : n.2.2.2.2.2 ≤ 9223372036854775807) : NdFit n :=
 ⟨by have := h.sp; omega, by have := h.nm; omega, by have := h.tx; omega, ⟨by have := h.al; omega, fun a ha => by have := h.at' a ha; omega⟩, hm⟩
theorem ReSm.fit {x : RsI} (h : ReSm x.d) (hq : QR x) : ReFit x.d := by
 refine ⟨by have := h.j; omega, by have := h.st; omega, fun s hs => by have := h.sx s hs; omega, by have := h.ld; omega, fun t ht => ?_⟩
 obtain ⟨T, hT, rfl⟩ := List.mem_map.1 ht
 have h1 := h.tr (trD T) (List.mem_map_of_mem hT)
 refine ⟨by have := h1.1; omega, fun n hn => ?_⟩
 obtain ⟨N, hN, rfl⟩ := List.mem_map.1 hn
 exact (h1.2 N.1 (List.mem_map_of_mem hN)).fit (hq T hT N hN)
theorem AcSm.fit {a : Ac} (h : AcSm a) : AcFit a := by
 obtain ⟨h1, h2⟩ := great_not h.g
 refine ⟨by have := h.j; omega, by omega, fun p hp => ?_⟩
 obtain ⟨k1, k2, k3, k4⟩ := h2 p hp
 exact ⟨by omega, by omega, by omega, fun s hs => by have := k4 s hs; omega⟩
theorem CoSm.fit {c : CoI} (h : CoSm c.d) (hq : ∀ r ∈ c.R, QR r) : CoFitD c.d := by
 refine ⟨by have := h.zA; omega, by have := h.zR; omega, fun a ha => (h.ac a ha).fit, fun r hr => ?_⟩
 obtain ⟨x, hx, rfl⟩ := List.mem_map.1 hr
 exact (h.rs x.d (List.mem_map_of_mem hx)).fit (hq x hx)
end Go.Proofs.YtjgeiieiinmdnaaGreatDoor
