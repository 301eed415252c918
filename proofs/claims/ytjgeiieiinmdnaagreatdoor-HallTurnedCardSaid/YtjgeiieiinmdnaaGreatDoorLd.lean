/- HtA, HaE, HaO: put together by mergetpl.py. -/
import Derived.Test.YtjgeiieiinmdnaaGreatDoorLa
import Derived.Test.YtjgeiieiinmdnaaGreatDoorLb
import Derived.Test.YtjgeiieiinmdnaaGreatDoorRoIn
import Derived.Laws.MakeOwn
import Derived.Test.YtjgeiieiinmdnaaGreatDoorKk
namespace Go.Proofs.YtjgeiieiinmdnaaGreatDoor
open Go.RowKit Go.Lib

theorem TL.of_new {α : Type} {Y : Ly α} {w0 w w' : World} {bs : Bs} {v : Value} {M : List α} (h : Sx w0 bs w) (ho : w'.ownsRow w.heap.size Y.e Y.n v M.length (Y.fl M)) : TL Y w0 (bs.map Prod.fst) v M [] 0 w' :=
 TL.start ⟨ho.mono (Nat.zero_le _), fun g hg => ⟨Nat.le_trans h.q.size (ho.lt g hg).1, fun hm => by
  obtain ⟨b, hb, e⟩ := List.mem_map.1 hm
  have := h.lt b hb
  have := (ho.lt g hg).1
  omega⟩⟩
theorem Sx.some {w0 w : World} {bs : Bs} (h : Sx w0 bs w) (k : Nat) : Sx w0 (bs.take k) w := ⟨fun b hb => h.bx b (List.mem_of_mem_take hb), h.pw.sublist (List.take_sublist _ _), h.q⟩
theorem Sx.ads {w0 w : World} {bs : Bs} (h : Sx w0 bs w) : ∀ a ∈ bs.map Prod.fst, a < w.heap.size := fun a ha => by
 obtain ⟨b, hb, e⟩ := List.mem_map.1 ha
 have := h.lt b hb
 omega
/-- a tree's like, in new memory. -/
def TwT (w : World) (t : List Nd) (e : Ending) (w' : World) : Prop := ∃ T' : TrI, e = .returned (trV T') ∧ trD T' = t ∧ OwL ndY (fun g => w.heap.size ≤ g) (trV T') T'.1 w' ∧ Below w.heap.size w w'
theorem OwL.seen {α : Type} {Y : Ly α} {w0 w : World} {v : Value} {M : List α} (h : OwL Y (Xd w0 []) v M w) : OwL Y (fun g => w0.heap.size ≤ g) v M w := OwL.mono h fun _ _ hg => hg.1
theorem map_snoc {α β : Type} {f : α → β} {M N : List α} {k : Nat} {p p' : α} (hN : N.map f = (M.map f).take k) (hk : M[k]? = some p) (hp : f p' = f p) : (N ++ [p']).map f = (M.map f).take (k + 1) := by
 have hkl : k < M.length := by
  rcases Nat.lt_or_ge k M.length with h1 | h1
  ·exact h1
  ·rw [List.getElem?_eq_none h1] at hk; cases hk
 have hM : M[k] = p := by rw [List.getElem?_eq_getElem hkl] at hk; exact Option.some.inj hk
 rw [List.map_append, hN, List.take_succ_eq_append_getElem (by simpa using hkl), List.getElem_map, hM]
 simp [hp]
set_option maxHeartbeats 2000000 in
set_option maxRecDepth 100000 in
theorem tr_Twin (T : TrI) (w : World) (h : IsL ndY (trV T) T.1 w) (hz : T.1.length ≤ 100000) (ha : ∀ x ∈ T.1, (ndA x).length ≤ 100000) : Calls Tryz.prog 112 #[trV T] w (TwT w (trD T)) := by
 obtain ⟨M, a, cap⟩ := T
 simp only at h hz ha
 obtain ⟨L, hL⟩ : ∃ L, M.length = L := ⟨_, rfl⟩
 have CL := sl_Clone_nd (.slice a M.length cap) M w h hz
 have HS := Lib.hid fun x hx => h.2.2 x hx
 rw [hL] at CL hz
 have CL := Lib.hid CL
 have HL := Lib.hid hL
 have HA := Lib.hid ha
 show Calls Tryz.prog 112 #[.slice a M.length cap] w _
 rw [hL]
 clear h hL ha
 go_enter Tryz.func112, Tryz.ntmps112
 go_wp2_with fail
 refine CL.out.mono ?_
 rintro e w1 ⟨a1, c1, rfl, hown, hb⟩
 have tl := TL.of_new (Y := ndY) (M := M) (Sx.start w) hown
 rw [HL.out] at tl ⊢
 clear hown CL
 go_wp2_with fail
 go_loopw [10] (fun i wx => ∃ (k : Nat) (Nn : List NdI), i = .int .i64 k ∧ k ≤ L ∧ TL ndY w [] (.slice a1 L c1) M Nn k wx ∧ Nn.map Prod.fst = (M.map Prod.fst).take k ∧ Below w.heap.size w wx) (fun i _ => L - (intOf i).toNat)
 case atStart => exact ⟨0, [], rfl, Nat.zero_le _, tl, rfl, hb⟩
 case round =>
  clear tl hb
  obtain ⟨k, Nn, rfl, hk, tl, hNn, q0⟩ := hrel
  by_cases hlt : k < L
  ·have hkM : k < M.length := by rw [HL.out]; exact hlt
   obtain ⟨p, hp⟩ : ∃ p, M[k] = p := ⟨_, rfl⟩
   have hkp : M[k]? = some p := by rw [List.getElem?_eq_getElem hkM, hp]
   have hpm : p ∈ M := by rw [← hp]; exact List.getElem_mem hkM
   obtain ⟨g, c, hv, hg0, -, hgl, -⟩ := tl.form hkM
   rw [HL.out] at hv
   simp only [Value.slice.injEq, true_and] at hv
   obtain ⟨rfl, rfl⟩ := hv
   have hV : Value.slice (some ⟨g, 0, none⟩) L c1 = .slice (some ⟨g, 0, none⟩) M.length c1 := by rw [HL.out]
   have bs : Sx w [] wr := ⟨fun b hb => by (cases hb), List.Pairwise.nil, q0⟩
   have q := bs.q
   have CA := Lib.hid fun (W : World) (hb : Below w.heap.size w W) => sl_Clone_at (ndV p) (ndA p) W (IsL.ret (HS.out p hpm) hb) (HA.out p hpm)
   have wk : (k : Int) < (L : Int) := by omega
   have HV := Lib.hid hV
   have HK := Lib.hid hkp
   have HN := Lib.hid hNn
   clear hp hpm hkp hkM hV hNn q0
   have i0 : wr.cell? ⟨g, k * 6, none⟩ = some (.int .u8 p.1.1) := (tl.cell HV.out HK.out 0 rfl).1
   have i1 : wr.cell? ⟨g, k * 6 + 1, none⟩ = some (.string ⟨p.1.2.1.toArray⟩) := (tl.cell HV.out HK.out 1 rfl).1
   have i2 : wr.cell? ⟨g, k * 6 + 2, none⟩ = some (.string ⟨p.1.2.2.1.toArray⟩) := (tl.cell HV.out HK.out 2 rfl).1
   have i3 : wr.cell? ⟨g, k * 6 + 3, none⟩ = some (ndV p) := (tl.cell HV.out HK.out 3 rfl).1
   have i4 : wr.cell? ⟨g, k * 6 + 4, none⟩ = some (.string ⟨p.1.2.2.2.2.1.toArray⟩) := (tl.cell HV.out HK.out 4 rfl).1
   have i5 : wr.cell? ⟨g, k * 6 + 5, none⟩ = some (.int .i64 p.1.2.2.2.2.2) := (tl.cell HV.out HK.out 5 rfl).1
   have o_t := tl
   clear tl
   have d0 := (bs.lit (wr.heap.size) rfl [.int .u8 p.1.1, .string ⟨p.1.2.1.toArray⟩, .string ⟨p.1.2.2.1.toArray⟩, ndV p, .string ⟨p.1.2.2.2.2.1.toArray⟩, .int .i64 p.1.2.2.2.2.2] 114)
   have c0_n00 := d0.at 0 0 rfl rfl
   have c0_n01 := d0.at 0 1 rfl rfl
   have c0_n02 := d0.at 0 2 rfl rfl
   have c0_n03 := d0.at 0 3 rfl rfl
   have c0_n04 := d0.at 0 4 rfl rfl
   have c0_n05 := d0.at 0 5 rfl rfl
   go_wp2_with fail
   clear d0 c0_n00 c0_n01 c0_n02 c0_n03 c0_n04 c0_n05
   clear i0 i1 i2 i3 i4 i5
   obtain ⟨w3, hw3, y3, al, bs⟩ := bs.alloc (wr.heap.size) rfl [.int .u8 p.1.1, .string ⟨p.1.2.1.toArray⟩, .string ⟨p.1.2.2.1.toArray⟩, ndV p, .string ⟨p.1.2.2.2.2.1.toArray⟩, .int .i64 p.1.2.2.2.2.2] 114
   replace o_t := o_t.alloc (wr.heap.size) rfl al
   clear al
   replace q := bs.q
   rw [hw3]
   have far := o_t.far q (bs.ads)
   refine (CA.out w3 q).mono ?_
   rintro e w4 ⟨a2, c2, rfl, hown2, hb⟩
   replace o_t := o_t.ret hb
   replace bs := bs.ret hb
   replace q := bs.q
   clear hb
   have ho2 : ndY.own (Xo w [wr.heap.size] (.slice (some ⟨g, 0, none⟩) L c1)) (p.1, (a2, c2)) w4 := ⟨⟨hown2.mono (Nat.zero_le _), fun j hj => far j (hown2.lt j hj).1⟩, fun _ _ => trivial⟩
   have c3 : w4.cell? ⟨g, k * 6 + 3, none⟩ = some (ndV p) := (o_t.cell HV.out HK.out 3 rfl).1
   have f3 : w4.frozen? ⟨g, k * 6 + 3, none⟩ = false := (o_t.cell HV.out HK.out 3 rfl).2
   have CC := Lib.hid o_t
   have OO := Lib.hid ho2
   have QQ := Lib.hid q
   clear o_t ho2 hown2 far q
   go_wp2_with fail
   go_roundw
   case rel => exact ⟨k + 1, Nn ++ [(p.1, (a2, c2))], by go_num, by omega, (TL.step (j := 3) (vs := [.slice a2 (ndA p).length c2]) CC.out HV.out HK.out (Nat.le_of_ble_eq_true rfl) rfl OO.out rfl rfl).sub (fun _ h => by cases h), map_snoc HN.out HK.out rfl, QQ.out.setCell (p := ⟨g, k * 6 + 3, none⟩) hg0 _⟩
   case measure => simp [intOf]; omega
  ·obtain rfl : k = L := by omega
   have tl2 : TL ndY w [] (.slice a1 k c1) M Nn M.length wr := by rw [HL.out]; exact tl
   have hd := tl2.done
   have hl : Nn.length = k := tl.len
   have hN2 : Nn.map Prod.fst = M.map Prod.fst := by rw [hNn, List.take_of_length_le (by rw [List.length_map, HL.out]; exact Nat.le_refl _)]
   have HD := Lib.hid hd
   have HN := Lib.hid hN2
   have HB := Lib.hid q0
   clear hd hN2 tl2 tl hNn q0
   go_wp2_with fail
   go_ret
   exact ⟨(Nn, (a1, c1)), by rw [← hl]; rfl, HN.out, by have := HD.out.seen; rw [← hl] at this; exact this, HB.out⟩
end Go.Proofs.YtjgeiieiinmdnaaGreatDoor
namespace Go.Proofs.YtjgeiieiinmdnaaGreatDoor
open Go.RowKit Go.Lib

theorem vinfo_tr : (Tryz.prog.info? 108).map (fun i => (i.zero, i.size, i.bytes)) = some (some (.slice none 0 0), 1, 24) := by kernel_rfl
def trow (n : Nat) : Array Value := madeCells #[.slice none 0 0] n
theorem trow_size (n : Nat) : (trow n).size = n := by
 unfold trow madeCells
 simp
theorem mk_tr (n : Nat) (hn : n ≤ 100000) (w : World) : (Instr.makeSlice 36 (.int .i64 n) (.int .i64 n)).run Tryz.prog w = .ok (.slice (some ⟨w.heap.size, 0, none⟩) n n) (w.alloc (.cells (trow n) 108)) := by
 obtain ⟨i0, hi, hz0, hz1, hz2⟩ := info_parts vinfo_tr
 have h := run_makeSlice (P := Tryz.prog) w 36 108 i0 (.slice none 0 0) Tryz.underlying36 hi hz0 .i64 .i64 n n (by omega) (Int.le_refl _) (by rw [hz1]; simp; omega) (by rw [hz2]; omega) (by omega)
 rw [hz1] at h
 simp only [Int.toNat_natCast, Nat.mul_one] at h
 exact h
theorem trow_own (n : Nat) (hn : n ≤ 100000) (w : World) : (w.alloc (.cells (trow n) 108)).ownsRow w.heap.size 108 1 (.slice (some ⟨w.heap.size, 0, none⟩) n n) n (trow n).toList := by
 refine ⟨by rw [Array.length_toList, trow_size, Nat.mul_one], .inr ⟨w.heap.size, n, _, rfl, Nat.le_refl _, World.alloc_heap_new _ _, Nat.le_refl _, by unfold maxLen; omega, by rw [trow_size, Nat.mul_one], ?_⟩⟩
 rw [List.take_of_length_le (by rw [Array.length_toList, trow_size]; omega)]
theorem cp_tr (w : World) (B g n cap : Nat) (a : Option Addr) (M : List TrI) (xs : List Value) (hown : w.ownsRow B 108 1 (.slice (some ⟨g, 0, none⟩) n n) n xs) (hs : IsL trY (.slice a n cap) M w) (hn : M.length = n) :
  ∃ w', (∀ ty, (Builtin.copy_ #[36, 36] ty #[.slice (some ⟨g, 0, none⟩) n n, .slice a n cap]).run Tryz.prog w = .ok (goInt n) w') ∧ w'.ownsRow B 108 1 (.slice (some ⟨g, 0, none⟩) n n) n (trY.fl M) ∧ w.grownBy w' (some g) := by
 obtain ⟨i0, hi, hz0, hz1, hz2⟩ := info_parts vinfo_tr
 have hfl : (trY.fl M).length = n := by
  rw [fl_len, hn]
  exact Nat.mul_one n
 cases a with
 | none =>
  obtain ⟨h1, h2⟩ := IsL.none hs
  subst h1
  subst h2
  have h0 : n = 0 := by rw [← hn]; rfl
  subst h0
  refine ⟨w, fun ty => ?_, ?_, ⟨rfl, rfl, rfl, Nat.le_refl _, fun _ _ _ => rfl⟩⟩
  ·simp [Builtin.copy_, run_underlying Tryz.underlying36, Builtin.lenOf, Builtin.firstCells, sizeOf, typeInfo, hi, storeCells, Result.andThen]
  ·have : xs = [] := List.eq_nil_of_length_eq_zero (by rw [hown.1])
   subst this
   exact hown
 | some ad =>
  have hc := hs.1
  obtain ⟨hl, a', cap', he, -, h3⟩ := hc
  simp only [Value.slice.injEq] at he
  obtain ⟨rfl, _, rfl⟩ := he
  have hsrc : ∀ j v, (trY.fl M)[j]? = some v → w.cell? (ad.add j) = some v := fun j v hj => by
   have hj2 : j < (trY.fl M).length := by
    rcases Nat.lt_or_ge j (trY.fl M).length with h | h
    ·exact h
    ·rw [List.getElem?_eq_none h] at hj; cases hj
   rcases h3 with h3 | ⟨b, off, h4, _, h5⟩
   ·rw [fl_len, h3] at hj2
    simp at hj2
   ·cases h4
    rw [Addr.add_lit, h5 j hj2, ← List.getElem?_eq_getElem hj2]
    exact hj
  obtain ⟨w', h1, h2, h3⟩ := run_copy_own (P := Tryz.prog) w B g n n 1 0 n n 36 36 108 ad n cap xs (trY.fl M) Tryz.underlying36 (by rw [hi]; simp [hz1]) hown (by rw [hfl]; simp) hsrc (by rw [hfl]; omega) (fl_oneC trY M)
  refine ⟨w', fun ty => ?_, ?_, h3⟩
  ·have := h1 ty
   simpa using this
  ·have e : xs.take (0 * 1) ++ trY.fl M ++ xs.drop (0 * 1 + (trY.fl M).length) = trY.fl M := by
    rw [List.drop_eq_nil_of_le (by rw [hown.1, hfl]; omega)]
    simp
   rw [e] at h2
   exact h2
theorem ret_res1 {fn : Func} {tmps : Array Value} {W : World} {R p : Nat} {v0 v1 v2 v3 v4 v5 : Value} (h : fn.results = #[.cell p 38]) (h2 : tmps.getD p undef = .pointer (some ⟨R, 0, none⟩)) (k : Bx R [v0, v1, v2, v3, v4, v5] W) :
  (results fn tmps).run Tryz.prog W = .ok (.agg #[v0, v1, v2, v3, v4, v5]) W := by
 have c0 := k.at 0 rfl
 have c1 := k.at 1 rfl
 have c2 := k.at 2 rfl
 have c3 := k.at 3 rfl
 have c4 := k.at 4 rfl
 have c5 := k.at 5 rfl
 rw [results_cell1 h, h2]
 simp [go_sem, Result.andThen, c0, c1, c2, c3, c4, c5]
/-- a resource's like, in new memory. -/
def TwR (w : World) (r : Re) (e : Ending) (w' : World) : Prop := ∃ r' : RsI, e = .returned r'.v ∧ r'.d = r ∧ rsY.own (fun g => w.heap.size ≤ g) r' w' ∧ Below w.heap.size w w'
/-- trees that may be copied. -/
def TwFit (r : RsI) : Prop := r.ld.length ≤ 100000 ∧ r.st.length ≤ 100000 ∧ ∀ t ∈ r.ld, t.1.length ≤ 100000 ∧ ∀ x ∈ t.1, (ndA x).length ≤ 100000
set_option maxHeartbeats 4000000 in
set_option maxRecDepth 100000 in
theorem ha_twin (r : RsI) (w : World) (h : rsY.sub r w) (hf : TwFit r) : Calls Tryz.prog 55 #[r.v] w (TwR w r.d) := by
 obtain ⟨j, on, pr, M, ⟨la, lc⟩, ask, st, ⟨sa, sc⟩⟩ := r
 obtain ⟨hz, hs, ht⟩ := hf
 obtain ⟨hld, hst⟩ := h
 simp only at hz hs ht hld hst
 obtain ⟨L, hL⟩ : ∃ L, M.length = L := ⟨_, rfl⟩
 obtain ⟨n, hn⟩ : ∃ n, st.length = n := ⟨_, rfl⟩
 have HS := Lib.hid fun t ht => hld.2.2 t ht
 have HT := Lib.hid ht
 show Calls Tryz.prog 55 #[.agg #[.string ⟨j.toArray⟩, .bool on, .int .i64 pr, .slice la M.length lc, .bool ask, .slice sa st.length sc]] w _
 have hld' : IsL trY (.slice la M.length lc) M w := hld
 have CS := Lib.hid fun (W : World) (hb : Below w.heap.size w W) => sl_CloneS (.slice sa st.length sc) st W (IsGrp.ret hst hb) (by omega)
 rw [hL] at hld' hz
 rw [hn] at CS hs
 rw [hL, hn]
 have HLD := Lib.hid hld'
 have HL := Lib.hid hL
 have HN := Lib.hid hn
 have mk := mk_tr L (by omega)
 clear hL hn ht hld hst hld'
 obtain ⟨W0, hW, y0, bs⟩ := Sx.start2 w [.string ⟨j.toArray⟩, .bool on, .int .i64 pr, .slice la L lc, .bool ask, .slice sa n sc] 38 [.string ⟨#[]⟩, .bool false, .int .i64 0, .slice none 0 0, .bool false, .slice none 0 0] 38
 have HW := Lib.hid hW
 clear hW
 have q := bs.q
 go_enter Tryz.func55, Tryz.ntmps55
 have al := (Below.refl W0.heap.size W0).alloc (Nat.le_refl _) (.cells (trow L) 108)
 have b1 := bs.ret al
 obtain ⟨w2, cp, own2, gr2⟩ := cp_tr _ _ _ L lc la M _ (trow_own L (by omega) W0) (HLD.out.ret b1.q) HL.out
 have hg2 := al.grown gr2 (by simp) (fun k hk => by cases hk; exact Nat.le_refl _)
 have tl := TL.of_new (Y := trY) (M := M) bs (by rw [HL.out]; exact own2)
 rw [y0] at cp tl
 have x_r3 := b1.at 0 3 rfl rfl
 go_wp2_with fail
 rw [HW.out]
 simp only [Nat.add_assoc, Nat.reduceAdd]
 rw [cp]
 go_simp
 have c_r0 := bs.at 0 0 rfl rfl
 have c_r1 := bs.at 0 1 rfl rfl
 have c_r2 := bs.at 0 2 rfl rfl
 have c_r3 := bs.at 0 3 rfl rfl
 have c_r4 := bs.at 0 4 rfl rfl
 have c_r5 := bs.at 0 5 rfl rfl
 go_wp2_with fail
 clear c_r0 c_r1 c_r2 c_r3 c_r4 c_r5
 clear x_r3 b1 al own2 gr2 mk cp
 replace bs := bs.ret hg2
 replace q := bs.q
 clear hg2
 go_loopw [16] (fun i wx => ∃ (k : Nat) (Nn : List TrI), i = .int .i64 k ∧ k ≤ L ∧ TL trY w [w.heap.size, w.heap.size + 1] (.slice (some ⟨w.heap.size + 2, 0, none⟩) L L) M Nn k wx ∧ Nn.map trD = (M.map trD).take k ∧ Sx w [(w.heap.size, [.string ⟨j.toArray⟩, .bool on, .int .i64 pr, .slice la L lc, .bool ask, .slice sa n sc]), (w.heap.size + 1, [.string ⟨#[]⟩, .bool false, .int .i64 0, .slice none 0 0, .bool false, .slice none 0 0])] wx) (fun i _ => L - (intOf i).toNat)
 case atStart => exact ⟨0, [], rfl, Nat.zero_le _, tl, rfl, bs⟩
 case round =>
  clear tl bs q
  obtain ⟨k, Nn, rfl, hk, tl, hNn, bs⟩ := hrel
  have q := bs.q
  by_cases hlt : k < L
  ·have hkM : k < M.length := by rw [HL.out]; exact hlt
   obtain ⟨p, hp⟩ : ∃ p, M[k] = p := ⟨_, rfl⟩
   have hkp : M[k]? = some p := by rw [List.getElem?_eq_getElem hkM, hp]
   have hpm : p ∈ M := by rw [← hp]; exact List.getElem_mem hkM
   have hV : Value.slice (some ⟨w.heap.size + 2, 0, none⟩) L L = .slice (some ⟨w.heap.size + 2, 0, none⟩) M.length L := by rw [HL.out]
   have CA := Lib.hid fun (W : World) (hb : Below w.heap.size w W) => tr_Twin p W (IsL.ret (HS.out p hpm) hb) (HT.out p hpm).1 (HT.out p hpm).2
   have HV := Lib.hid hV
   have HK := Lib.hid hkp
   have HNn := Lib.hid hNn
   clear hp hpm hkp hkM hV hNn
   have i0 : wr.cell? ⟨w.heap.size + 2, k, none⟩ = some (trV p) := by
    have h := (tl.cell HV.out HK.out 0 rfl).1
    rwa [show k * trY.n + 0 = k from (by show k * 1 + 0 = k; omega)] at h
   have far := tl.far q (bs.ads)
   have o_t := tl
   clear tl
   go_wp2_with fail
   clear i0
   refine (CA.out wr q).mono ?_
   rintro e w31 ⟨T2, rfl, hTd, hT2, hb⟩
   replace o_t := o_t.ret hb
   replace bs := bs.ret hb
   replace q := bs.q
   clear hb
   have ho2 := OwL.mono hT2 (fun g _ hg => far g hg)
   have i0 := (o_t.cell HV.out HK.out 0 rfl).1
   have f0 := (o_t.cell HV.out HK.out 0 rfl).2
   rw [show k * trY.n + 0 = k from (by show k * 1 + 0 = k; omega)] at i0 f0
   have CC := Lib.hid o_t
   have OO := Lib.hid ho2
   have BB := Lib.hid bs
   have HD := Lib.hid hTd
   clear o_t ho2 hT2 far q bs hTd
   go_wp2_with fail
   go_roundw
   case rel => exact ⟨k + 1, Nn ++ [T2], by go_num, by omega, TL.step (j := 0) (o := k) (vs := [trV T2]) CC.out HV.out HK.out (Nat.le_of_ble_eq_true rfl) rfl OO.out (by show k = k * 1 + 0; omega) rfl, map_snoc HNn.out HK.out HD.out, BB.out.far (o := k) (vs := [trV T2]) (by omega) (by simp) rfl⟩
   case measure => simp [intOf]; omega
  ·obtain rfl : k = L := by omega
   have tl2 : TL trY w [w.heap.size, w.heap.size + 1] (.slice (some ⟨w.heap.size + 2, 0, none⟩) k k) M Nn M.length wr := by rw [HL.out]; exact tl
   have hl : Nn.length = k := tl.len
   have hN2 : Nn.map trD = M.map trD := by rw [hNn, List.take_of_length_le (by rw [List.length_map, HL.out]; exact Nat.le_refl _)]
   have o_l : OwZ trY w [w.heap.size, w.heap.size + 1] (.slice (some ⟨w.heap.size + 2, 0, none⟩) k k) Nn wr := tl2.done
   have HN2 := Lib.hid hN2
   have HD := Lib.hid hl
   clear hN2 tl2 tl hNn hl
   have c_r0 := bs.at 0 0 rfl rfl
   have c_r1 := bs.at 0 1 rfl rfl
   have c_r2 := bs.at 0 2 rfl rfl
   have c_r3 := bs.at 0 3 rfl rfl
   have c_r4 := bs.at 0 4 rfl rfl
   have c_r5 := bs.at 0 5 rfl rfl
   go_wp2_with fail
   refine (CS.out wr q).mono ?_
   rintro e w61 ⟨a2, c2, rfl, hown2, hb⟩
   clear c_r0 c_r1 c_r2 c_r3 c_r4 c_r5
   have o_s := OwX.mk' bs hown2
   replace o_l := o_l.ret hb
   replace bs := bs.ret hb
   replace q := bs.q
   clear hb
   have c_r0 := bs.at 0 0 rfl rfl
   have f_r0 := bs.fz 0 0 rfl rfl
   have c_r1 := bs.at 0 1 rfl rfl
   have f_r1 := bs.fz 0 1 rfl rfl
   have c_r2 := bs.at 0 2 rfl rfl
   have f_r2 := bs.fz 0 2 rfl rfl
   have c_r3 := bs.at 0 3 rfl rfl
   have f_r3 := bs.fz 0 3 rfl rfl
   have c_r4 := bs.at 0 4 rfl rfl
   have f_r4 := bs.fz 0 4 rfl rfl
   have c_r5 := bs.at 0 5 rfl rfl
   have f_r5 := bs.fz 0 5 rfl rfl
   have c_z0 := bs.at 1 0 rfl rfl
   have f_z0 := bs.fz 1 0 rfl rfl
   have c_z1 := bs.at 1 1 rfl rfl
   have f_z1 := bs.fz 1 1 rfl rfl
   have c_z2 := bs.at 1 2 rfl rfl
   have f_z2 := bs.fz 1 2 rfl rfl
   have c_z3 := bs.at 1 3 rfl rfl
   have f_z3 := bs.fz 1 3 rfl rfl
   have c_z4 := bs.at 1 4 rfl rfl
   have f_z4 := bs.fz 1 4 rfl rfl
   have c_z5 := bs.at 1 5 rfl rfl
   have f_z5 := bs.fz 1 5 rfl rfl
   go_wp2_with fail
   clear c_r0 f_r0 c_r1 f_r1 c_r2 f_r2 c_r3 f_r3 c_r4 f_r4 c_r5 f_r5 c_z0 f_z0 c_z1 f_z1 c_z2 f_z2 c_z3 f_z3 c_z4 f_z4 c_z5 f_z5
   obtain ⟨w62, hw62, y62, bs⟩ := bs.sets 0 3 [.slice (some ⟨w.heap.size + 2, 0, none⟩) k k] rfl (Nat.le_of_ble_eq_true rfl)
   replace o_l := o_l.sets 0 rfl hw62
   replace o_s := o_s.sets 0 rfl hw62
   obtain ⟨w63, hw63, y63, bs⟩ := bs.sets 0 5 [.slice a2 st.length c2] rfl (Nat.le_of_ble_eq_true rfl)
   replace o_l := o_l.sets 0 rfl hw63
   replace o_s := o_s.sets 0 rfl hw63
   obtain ⟨w64, hw64, y64, bs⟩ := bs.sets 1 0 [.string ⟨j.toArray⟩, .bool on, .int .i64 pr, .slice (some ⟨w.heap.size + 2, 0, none⟩) k k, .bool ask, .slice a2 st.length c2] rfl (Nat.le_of_ble_eq_true rfl)
   replace o_l := o_l.sets 1 rfl hw64
   replace o_s := o_s.sets 1 rfl hw64
   replace q := bs.q
   simp only [World.setCells] at hw62
   rw [hw62]
   simp only [World.setCells] at hw63
   rw [hw63]
   simp only [World.setCells, Nat.reduceAdd] at hw64
   rw [hw64]
   refine bodyPost_ret (ret_res1 rfl rfl (bs.box 1 rfl)) rfl ⟨⟨j, on, pr, Nn, (some ⟨w.heap.size + 2, 0, none⟩, k), ask, st, (a2, c2)⟩, ?_, ?_, ⟨?_, ?_⟩, q⟩
   ·show _ = Ending.returned (.agg #[.string ⟨j.toArray⟩, .bool on, .int .i64 pr, .slice _ Nn.length k, .bool ask, .slice a2 st.length c2])
    rw [HD.out]
   ·show (j, on, pr, Nn.map trD, ask, st) = (j, on, pr, M.map trD, ask, st)
    rw [HN2.out]
   ·show OwL trY _ (.slice _ Nn.length k) Nn _
    rw [HD.out]
    exact o_l.own
   ·exact ⟨o_s.1.mono (Nat.zero_le _), fun g hg => (o_s.1.lt g hg).1⟩
end Go.Proofs.YtjgeiieiinmdnaaGreatDoor
namespace Go.Proofs.YtjgeiieiinmdnaaGreatDoor
open Go.RowKit Go.Lib

/-- space.Check answers by p of a tree, from now on. -/
def TreeOk (p : List Nd → Bool) (T : TrI) (w : World) : Prop := ∀ W, Below w.heap.size w W → Calls Tryz.prog 134 #[trV T] W (Ret W (.int .i64 (if p (trD T) then 0 else 8)))
theorem TreeOk.ret {p : List Nd → Bool} {T : TrI} {w w' : World} (h : TreeOk p T w) (hb : Below w.heap.size w w') : TreeOk p T w' := fun W hW => h W (hb.trans (hW.mono hb.size))
/-- a resource that fits. -/
structure RsFit (p : List Nd → Bool) (x : RsI) (w : World) : Prop where
 sub : rsY.sub x w
 j : x.j.length ≤ 10000
 st : x.st.length ≤ 1000
 sx : ∀ s ∈ x.st, s.length ≤ 10000
 ld : x.ld.length ≤ 1000
 tr : ∀ t ∈ x.ld, TreeOk p t w
theorem RsFit.ret {p : List Nd → Bool} {x : RsI} {w w' : World} (h : RsFit p x w) (hb : Below w.heap.size w w') : RsFit p x w' := ⟨rsY.subRet _ _ _ h.sub hb, h.j, h.st, h.sx, h.ld, fun t ht => (h.tr t ht).ret hb⟩
/-- a core, and where its lists lie. -/
structure CoI where
 A : List AcI
 aa : Option Addr × Nat
 R : List RsI
 ra : Option Addr × Nat
 m : Int
abbrev CoI.v (c : CoI) : Value := .agg #[.slice c.aa.1 c.A.length c.aa.2, .slice c.ra.1 c.R.length c.ra.2, .int .i64 c.m]
abbrev CoI.av (c : CoI) : Value := .slice c.aa.1 c.A.length c.aa.2
abbrev CoI.rv (c : CoI) : Value := .slice c.ra.1 c.R.length c.ra.2
abbrev Co := List Ac × List Re × Int
abbrev CoI.d (c : CoI) : Co := (c.A.map AcI.d, c.R.map RsI.d, c.m)
def CoI.sub (c : CoI) (w : World) : Prop := IsL acY c.av c.A w ∧ IsL rsY c.rv c.R w
def CoI.own (S : Nat → Prop) (c : CoI) (w : World) : Prop := OwL acY S c.av c.A w ∧ OwL rsY S c.rv c.R w
theorem CoI.sub.ret {c : CoI} {w w' : World} (h : c.sub w) (hb : Below w.heap.size w w') : c.sub w' := ⟨h.1.ret hb, h.2.ret hb⟩
theorem CoI.own.sub {S : Nat → Prop} {c : CoI} {w : World} (h : c.own S w) : c.sub w := ⟨h.1.isL, h.2.isL⟩
/-- a core whose sizes fit. -/
structure CoFit (p : List Nd → Bool) (c : CoI) (w : World) : Prop where
 sub : c.sub w
 zA : c.A.length ≤ 1000
 zR : c.R.length ≤ 1000
 ac : ∀ a ∈ c.A, a.j.length ≤ 10000 ∧ SmallI a.it
 rs : ∀ r ∈ c.R, RsFit p r w ∧ TwFit r
theorem CoFit.ret {p : List Nd → Bool} {c : CoI} {w w' : World} (h : CoFit p c w) (hb : Below w.heap.size w w') : CoFit p c w' := ⟨h.sub.ret hb, h.zA, h.zR, h.ac, fun r hr => ⟨(h.rs r hr).1.ret hb, (h.rs r hr).2⟩⟩
def coreD (p : List Nd → Bool) (c : Co) : Bool := coreF p c.1 c.2.1 c.2.2
end Go.Proofs.YtjgeiieiinmdnaaGreatDoor
