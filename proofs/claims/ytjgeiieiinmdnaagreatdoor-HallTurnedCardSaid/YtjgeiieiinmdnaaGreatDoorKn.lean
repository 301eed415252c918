/- RoK, RoL, RoS, RoT, RoU: put together by mergetpl.py. -/
import Derived.Test.YtjgeiieiinmdnaaGreatDoorKm
namespace Go.Proofs.YtjgeiieiinmdnaaGreatDoor
open Go.RowKit Go.Lib

/-- 'clear(s[i:])' of a row of the call's own. -/
theorem run_clear_own {P : Program} (w : World) (B g n cap size i : Nat) (t e : TypeId) (z : Value) (xs : List Value) (ht : P.underlying t = some (.slice e)) (hv : ∀ w, (zeroValue e).run P w = .ok z w) (hz : z.cells.size = size)
  (h1 : ∀ u ∈ z.cells.toList, u.oneCell' = true) (hown : w.ownsRow B e size (.slice (some ⟨g, 0, none⟩) n cap) n xs) (hi : i < n) :
  ∃ w', (∀ ty, (Builtin.clear_ #[t] ty #[.slice (some ⟨g, i * size, none⟩) (n - i) (cap - i)]).run P w = .ok (.tuple #[]) w') ∧ w'.ownsRow B e size (.slice (some ⟨g, 0, none⟩) i cap) i (xs.take (i * size)) ∧ w.grownBy w' (some g) := by
 rcases hown.2 with ⟨h, _⟩ | ⟨g', cap', cur, h, hbg, hg, hnc, hcm, hcs, htake⟩
 ·simp at h
 ·simp only [Value.slice.injEq, Option.some.injEq, Addr.mk.injEq, and_true, true_and] at h
  obtain ⟨rfl, rfl⟩ := h
  have hl : (Builtin.zeroCells z.cells (n - i)).toList.length = (n - i) * size := by rw [Array.length_toList, size_zeroCells, hz]
  have hone : ∀ v ∈ (Builtin.zeroCells z.cells (n - i)).toList, v.oneCell' = true := by
   intro v hv'
   simp only [Builtin.zeroCells, Array.toList_map, List.mem_map, Array.toList_range] at hv'
   obtain ⟨j, hj, rfl⟩ := hv'
   have hj2 := List.mem_range.1 hj
   have hs0 : 0 < z.cells.size := by
    rcases Nat.eq_zero_or_pos z.cells.size with h | h
    ·rw [h, Nat.mul_zero] at hj2; omega
    ·exact h
   have hm : j % z.cells.size < z.cells.size := Nat.mod_lt _ hs0
   rw [getElem!_pos z.cells (j % z.cells.size) hm]
   exact h1 _ (by simp)
  have hsum : i * size + (n - i) * size = n * size := by rw [← Nat.add_mul]; congr 1; omega
  have hle : n * size ≤ cap * size := Nat.mul_le_mul_right _ hnc
  have hst := run_storeCells_at P g (i * size) e (Builtin.zeroCells z.cells (n - i)).toList 0 cur w hg (by rw [hl, hcs]; omega) hone
  simp only [Nat.add_zero] at hst
  obtain ⟨m, hm⟩ : ∃ m, n - i = m + 1 := ⟨n - i - 1, by omega⟩
  refine ⟨w.setRow g (cur.toList.take (i * size) ++ (Builtin.zeroCells z.cells (n - i)).toList ++ cur.toList.drop (i * size + (Builtin.zeroCells z.cells (n - i)).toList.length)).toArray, ?_, ⟨?_, .inr ⟨g, cap, _, rfl, hbg, setRow_heap w g cur _ e _ hg, by omega, hcm, ?_, ?_⟩⟩, ⟨rfl, rfl, rfl, by simp [World.setRow], fun k _ hk => setRow_other w g k _ (fun e => hk (by simp [e]))⟩⟩
  ·intro ty
   rw [hm] at hst ⊢
   simp [Builtin.clear_, run_underlying ht, hv, hst]
  ·rw [List.length_take, hown.1]
   exact Nat.min_eq_left (by omega)
  ·simp only [List.size_toArray, List.length_append, List.length_take, List.length_drop, Array.length_toList, hcs, size_zeroCells, hz]
   omega
  ·rw [List.append_assoc, List.take_append_of_le_length (by rw [List.length_take, Array.length_toList, hcs]; omega), List.take_take, Nat.min_self, ← htake, List.take_take, Nat.min_eq_left (by omega)]
end Go.Proofs.YtjgeiieiinmdnaaGreatDoor
namespace Go.Proofs.YtjgeiieiinmdnaaGreatDoor
open Go.RowKit Go.Lib

end Go.Proofs.YtjgeiieiinmdnaaGreatDoor
namespace Go.Proofs.YtjgeiieiinmdnaaGreatDoor
open Go.RowKit Go.Lib

end Go.Proofs.YtjgeiieiinmdnaaGreatDoor
namespace Go.Proofs.YtjgeiieiinmdnaaGreatDoor
open Go.RowKit Go.Lib

end Go.Proofs.YtjgeiieiinmdnaaGreatDoor
namespace Go.Proofs.YtjgeiieiinmdnaaGreatDoor
open Go.RowKit Go.Lib

def bigI (x : It) : Bool := decide (500 < x.j.length) || (decide (500 < x.n.length) || (decide (10 < x.g.length) || x.g.any fun y => decide (500 < y.length)))
def greatP (L : List It) : Bool := (L.take 20).any bigI || decide (18 < L.length)
theorem great_hit {L : List It} {k : Nat} (h20 : k < 20) (hk : k < L.length) (h : bigI L[k] = true) : greatP L = true := by
 unfold greatP
 have : (L.take 20).any bigI = true := List.any_eq_true.2 ⟨L[k], by rw [List.mem_iff_getElem]; exact ⟨k, by rw [List.length_take]; omega, by rw [List.getElem_take]⟩, h⟩
 rw [this]; rfl
theorem great_end {L : List It} {k : Nat} (h : (L.take k).any bigI = false) (hk : k = 20 ∨ L.length ≤ k ∧ k ≤ 20) : greatP L = decide (18 < L.length) := by
 unfold greatP
 have e : L.take 20 = L.take k := by
  rcases hk with rfl | ⟨h1, h2⟩
  ·rfl
  ·rw [List.take_of_length_le (by omega), List.take_of_length_le (by omega)]
 rw [e, h, Bool.false_or]
theorem great_not {L : List It} (h : greatP L = false) : L.length ≤ 18 ∧ ∀ x ∈ L, x.j.length ≤ 500 ∧ x.n.length ≤ 500 ∧ x.g.length ≤ 10 ∧ ∀ y ∈ x.g, y.length ≤ 500 := by
 unfold greatP at h
 rw [Bool.or_eq_false_iff, decide_eq_false_iff_not] at h
 obtain ⟨h1, h2⟩ := h
 rw [List.take_of_length_le (by omega)] at h1
 refine ⟨by omega, fun x hx => ?_⟩
 have := List.any_eq_false.1 h1 x hx
 unfold bigI at this
 simp only [Bool.or_eq_true, decide_eq_true_eq, List.any_eq_true, not_or, not_exists, not_and, Nat.not_lt] at this
 exact ⟨this.1, this.2.1, this.2.2.1, fun y hy => this.2.2.2 y hy⟩
theorem sz_mk (l : List UInt8) : (⟨l.toArray⟩ : ByteArray).size = l.length := by rw [← size_toList]
set_option maxHeartbeats 4000000 in
set_option maxRecDepth 100000 in
theorem r21_Great (v : Value) (ver : Int) (M : List Im) (w : World) (hv : IsItems v M w) :
  Calls Tryz.prog 36 #[.agg #[v, .int .i64 ver]] w (Ret w (.bool (greatP (M.map Prod.fst)))) := by
 obtain ⟨a0, cap0, hf, -⟩ := hv.form
 obtain ⟨L, hL⟩ : ∃ L, M.length = L := ⟨_, rfl⟩
 rw [hL] at hf
 subst hf
 obtain ⟨O, hO⟩ : ∃ O, greatP (M.map Prod.fst) = O := ⟨_, rfl⟩
 rw [hO]
 have r0 := Two.new w (.slice a0 L cap0) (.int .i64 ver) 31
 have q0 := (Below.refl w.heap.size w).alloc (Nat.le_refl _) (.cells #[.slice a0 L cap0, .int .i64 ver] 31)
 obtain ⟨W0, hW0⟩ : ∃ W, w.alloc (.cells #[.slice a0 L cap0, .int .i64 ver] 31) = W := ⟨_, rfl⟩
 rw [hW0] at r0 q0
 have HW := Lib.hid hW0
 have HV := Lib.hid hv
 have HL := Lib.hid hL
 have hl2 : (M.map Prod.fst).length = L := by rw [List.length_map, hL]
 have HL2 := Lib.hid hl2
 have HO := Lib.hid hO
 clear hW0 hv hL hl2 hO
 go_enter Tryz.func36, Tryz.ntmps36
 go_wp2_with fail
 rw [HW.out]
 go_loopw [3] (fun i wx => ∃ k : Nat, k ≤ L ∧ k ≤ 20 ∧ i = .int .i64 k ∧ ((M.map Prod.fst).take k).any bigI = false ∧ Two w.heap.size (.slice a0 L cap0) (.int .i64 ver) wx ∧ Below w.heap.size w wx) (fun i _ => 20 - (intOf i).toNat)
 case atStart => exact ⟨0, Nat.zero_le _, by omega, rfl, rfl, r0, q0⟩
 case round =>
  obtain ⟨k, hk, hk20, rfl, hany, rr, hbw⟩ := hrel
  obtain ⟨l, c0, c1, f0, f1⟩ := id rr
  have hws := hbw.size
  by_cases hlt : k < L
  ·by_cases h20 : k < 20
   ·have hkM : k < M.length := by rw [HL.out]; exact hlt
    obtain ⟨b, off, cp, hf, hb0, hc⟩ := (HV.out.ret hbw).cell hkM
    rw [HL.out] at hf
    simp only [Value.slice.injEq, true_and] at hf
    obtain ⟨rfl, rfl⟩ := hf
    have hkm : k < (M.map Prod.fst).length := by rw [HL2.out]; exact hlt
    have hsn : bigI M[k].1 = false → ((M.map Prod.fst).take (k + 1)).any bigI = false := fun h => by
     rw [List.take_succ_eq_append_getElem hkm, List.any_append, hany, List.getElem_map]
     simp [h]
    have hat : bigI M[k].1 = true → O = true := fun h => by
     rw [← HO.out]
     exact great_hit h20 hkm (by rw [List.getElem_map]; exact h)
    have hgr := (HV.out.ret hbw).2 _ (List.getElem_mem hkM)
    obtain ⟨p, hp⟩ : ∃ p, M[k] = p := ⟨_, rfl⟩
    rw [hp] at hc hsn hat hgr
    obtain ⟨i0, i1, i2, i3, i4, i5, i6, i7⟩ := hc
    have al := (Below.refl wr.heap.size wr).alloc (Nat.le_refl _) (.cells (itC p).toArray 99)
    have x1 := It8.new wr (.string ⟨p.1.j.toArray⟩) (.string ⟨p.1.n.toArray⟩) (gvI p) (.bool p.1.s.1) (.bool p.1.s.2.1) (.bool p.1.s.2.2.1) (.bool p.1.s.2.2.2) (.bool p.1.k) 99
    have rr2 := rr.ret al
    have q2 := hbw.trans (al.mono hws)
    have hgr2 := hgr.ret al
    obtain ⟨V, hV⟩ : ∃ V, wr.alloc (.cells (itC p).toArray 99) = V := ⟨_, rfl⟩
    rw [hV] at x1 rr2 q2 hgr2
    have HVV := Lib.hid hV
    have zj := sz_mk p.1.j
    have zn := sz_mk p.1.n
    obtain ⟨B, hB⟩ : ∃ B, bigI p.1 = B := ⟨_, rfl⟩
    rw [hB] at hsn hat
    have HS := Lib.hid hsn
    have HA := Lib.hid hat
    have HB := Lib.hid hB
    have HG := Lib.hid hgr2
    have RR := Lib.hid rr2
    have QQ := Lib.hid q2
    obtain ⟨m, d0, d1, d2, d3, d4, d5, d6, d7, g0, g1, g2, g3, g4, g5, g6, g7⟩ := id x1
    clear hp hsn hat hB hgr hgr2 hkm hany rr rr2 q2 hbw hV al
    by_cases h1 : 500 < p.1.j.length ∨ 500 < p.1.n.length ∨ 10 < p.1.g.length
    ·have hbt : B = true := by
      rw [← HB.out]
      unfold bigI
      rcases h1 with h | h | h <;> simp [h]
     subst hbt
     have := HA.out (by first | exact rfl | trivial)
     subst this
     have hjN : ((500 : Int) < (p.1.j.length : Int)) ∨ ¬((500 : Int) < (p.1.j.length : Int)) := Decidable.em _
     have hnN : ((500 : Int) < (p.1.n.length : Int)) ∨ ¬((500 : Int) < (p.1.n.length : Int)) := Decidable.em _
     rcases hjN with hj | hj
     ·clear hnN h1
      go_wp2_with fail
      rw [HVV.out]
      go_wp2_with fail
      go_ret
      exact ⟨rfl, QQ.out⟩
     ·rcases hnN with hn | hn
      ·clear h1
       go_wp2_with fail
       rw [HVV.out]
       go_wp2_with fail
       go_ret
       exact ⟨rfl, QQ.out⟩
      ·have hg : (10 : Int) < (p.1.g.length : Int) := by omega
       clear h1
       go_wp2_with fail
       rw [HVV.out]
       go_wp2_with fail
       go_ret
       exact ⟨rfl, QQ.out⟩
    ·have hj : ¬((500 : Int) < (p.1.j.length : Int)) := by omega
     have hn : ¬((500 : Int) < (p.1.n.length : Int)) := by omega
     have hg : ¬((10 : Int) < (p.1.g.length : Int)) := by omega
     have hbB : B = p.1.g.any fun y => decide (500 < y.length) := by
      rw [← HB.out]
      unfold bigI
      have e1 : decide (500 < p.1.j.length) = false := decide_eq_false (by omega)
      have e2 : decide (500 < p.1.n.length) = false := decide_eq_false (by omega)
      have e3 : decide (10 < p.1.g.length) = false := decide_eq_false (by omega)
      rw [e1, e2, e3]; rfl
     have HBB := Lib.hid hbB
     clear h1 hbB
     go_wp2_with fail
     rw [HVV.out]
     go_wp2_with fail
     go_loopw [5] (fun i wx => ∃ e : Nat, e ≤ p.1.g.length ∧ i = .int .i64 e ∧ (p.1.g.take e).any (fun y => decide (500 < y.length)) = false ∧ wx = V) (fun i _ => p.1.g.length - (intOf i).toNat)
     case atStart => exact ⟨0, Nat.zero_le _, rfl, rfl, rfl⟩
     case round =>
      obtain ⟨e, he, rfl, hany2, rfl⟩ := hrel
      by_cases hle : e < p.1.g.length
      ·obtain ⟨b2, off2, cp2, hf2, hb2, hc2⟩ := vals_cell' HG.out.1 (k := e) (by rw [strV_len]; exact hle)
       rw [strV_len] at hf2
       have hck := hc2 e (by rw [strV_len]; exact hle)
       have e1 : (strV p.1.g)[e]'(by rw [strV_len]; exact hle) = .string ⟨(p.1.g[e]).toArray⟩ := by simp [strV]
       rw [e1] at hck
       simp only [Value.slice.injEq, true_and] at hf2
       obtain ⟨hf2a, hf2b⟩ := hf2
       have zy := sz_mk p.1.g[e]
       have hs2 : (p.1.g.take (e + 1)).any (fun y => decide (500 < y.length)) = decide (500 < (p.1.g[e]).length) := by
        rw [List.take_succ_eq_append_getElem hle, List.any_append, hany2]
        simp
       have hh : 500 < (p.1.g[e]).length → B = true := fun h => by
        rw [HBB.out, List.any_eq_true]
        exact ⟨_, List.getElem_mem hle, decide_eq_true h⟩
       obtain ⟨y, hy⟩ : ∃ y, p.1.g[e] = y := ⟨_, rfl⟩
       rw [hy] at hck zy hs2 hh
       have HS2 := Lib.hid hs2
       have e2 : gvI p = .slice (some ⟨b2, off2, none⟩) p.1.g.length p.2.2 := by show Value.slice p.2.1 _ _ = _; rw [hf2a]
       rw [e2] at d2
       clear e2
       clear hs2 hy e1 hc2 hany2
       by_cases h5 : 500 < y.length
       ·have hbt := hh h5
        subst hbt
        have := HA.out (by first | exact rfl | trivial)
        subst this
        have h5i : (500 : Int) < (y.length : Int) := by omega
        clear hh
        go_wp2_with fail
        go_ret
        exact ⟨rfl, QQ.out⟩
       ·have h5i : ¬((500 : Int) < (y.length : Int)) := by omega
        clear hh
        go_wp2_with fail
        go_roundw
        case rel => exact ⟨e + 1, by omega, by go_num, by rw [HS2.out]; exact decide_eq_false h5, by first | rfl | trivial⟩
        case measure => simp [intOf]; omega
      ·have hfull : p.1.g.take e = p.1.g := List.take_of_length_le (by omega)
       rw [hfull] at hany2
       have hbf : B = false := by rw [HBB.out]; exact hany2
       subst hbf
       clear hfull hany2
       go_wp2_with fail
       go_roundw
       case rel => exact ⟨k + 1, by omega, by omega, by go_num, HS.out (by first | exact rfl | trivial), RR.out, QQ.out⟩
       case measure => simp [intOf]; omega
   ·have hE := great_end hany (.inl (by omega))
    rw [HO.out, HL2.out] at hE
    have h18 : 18 < L := by omega
    rw [decide_eq_true h18] at hE
    subst hE
    clear hany
    go_wp2_with fail
    go_ret
    exact ⟨by simp; omega, hbw⟩
  ·have hE := great_end hany (.inr ⟨by rw [HL2.out]; omega, hk20⟩)
   rw [HO.out, HL2.out] at hE
   clear hany
   by_cases h18 : 18 < L
   ·rw [decide_eq_true h18] at hE
    subst hE
    go_wp2_with fail
    go_ret
    exact ⟨by simp; omega, hbw⟩
   ·rw [decide_eq_false h18] at hE
    subst hE
    go_wp2_with fail
    go_ret
    exact ⟨by simp; omega, hbw⟩
end Go.Proofs.YtjgeiieiinmdnaaGreatDoor
