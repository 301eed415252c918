/- the document's without, next. -/
import Derived.Test.YtfonkblbgadhmaaGreatDoorKp
import Derived.Test.YtfonkblbgadhmaaGreatDoorRoR
namespace Go.Proofs.YtfonkblbgadhmaaGreatDoor
open Go.RowKit Go.Lib

/-- a roster whose row is new; the groups stay where they lie. -/
def RowR (w : World) (F : List Im) (ver : Int) (e : Ending) (w' : World) : Prop :=
 ∃ a c, e = .returned (.agg #[.slice a F.length c, .int .i64 ver]) ∧ w'.ownsRow w.heap.size 31 8 (.slice a F.length c) F.length (itV F) ∧ Below w.heap.size w w'
theorem RowR.items {w w' : World} {F : List Im} {a : Option Addr} {c : Nat} (h : w'.ownsRow w.heap.size 31 8 (.slice a F.length c) F.length (itV F)) (hb : Below w.heap.size w w') (hg : ∀ p ∈ F, IsGrp (gvI p) p.1.g w) : IsItems (.slice a F.length c) F w' :=
 ⟨own_row h, fun p hp => (hg p hp).ret hb⟩
def woI (M : List Im) (t : List UInt8) : List Im := M.filter fun p => !(p.1.j == t)
theorem map_woI (M : List Im) (t : List UInt8) : (woI M t).map Prod.fst = withoutL (M.map Prod.fst) t := by
 unfold woI withoutL
 rw [List.filter_map]
 rfl
theorem woI_snoc (M : List Im) (t : List UInt8) (k : Nat) (hk : k < M.length) : woI (M.take (k + 1)) t = woI (M.take k) t ++ (if M[k].1.j == t then [] else [M[k]]) := by
 unfold woI
 rw [List.take_succ_eq_append_getElem hk, List.filter_append]
 cases h : M[k].1.j == t <;> simp [h]
set_option maxHeartbeats 2000000 in
set_option maxRecDepth 100000 in
theorem r21_without (v : Value) (ver : Int) (M : List Im) (t : ByteArray) (w : World) (hv : IsItems v M w) (hM : M.length ≤ 1000) :
  Calls Tryz.prog 87 #[.agg #[v, .int .i64 ver], .string t] w (RowR w (woI M t.data.toList) ver) := by
 obtain ⟨a0, cap0, hf, -⟩ := hv.form
 obtain ⟨L, hL⟩ : ∃ L, M.length = L := ⟨_, rfl⟩
 rw [hL] at hf hM
 subst hf
 obtain ⟨N, hN⟩ : ∃ N, woI M t.data.toList = N := ⟨_, rfl⟩
 rw [hN]
 obtain ⟨i0, hi, hz0, hz1, hz2⟩ := info_parts vinfo_item
 have r0 := Two.new w (.slice a0 L cap0) (.int .i64 ver) 24
 have q0 := (Below.refl w.heap.size w).alloc (Nat.le_refl _) (.cells #[.slice a0 L cap0, .int .i64 ver] 24)
 obtain ⟨W0, hW0⟩ : ∃ W, w.alloc (.cells #[.slice a0 L cap0, .int .i64 ver] 24) = W := ⟨_, rfl⟩
 have s0 : W0.heap.size = w.heap.size + 1 := by rw [← hW0]; simp
 rw [hW0] at r0 q0
 have al := (Below.refl W0.heap.size W0).alloc (Nat.le_refl _) (.cells #[.slice none 0 0, .int .i64 0] 24)
 have z1 := Two.new W0 (.slice none 0 0) (.int .i64 0) 24
 have r1 := r0.ret al
 have q1 := q0.trans (al.mono q0.size)
 obtain ⟨W, hW1⟩ : ∃ W, W0.alloc (.cells #[.slice none 0 0, .int .i64 0] 24) = W := ⟨_, rfl⟩
 have s1 : W.heap.size = w.heap.size + 2 := by rw [← hW1]; simp; omega
 rw [hW1, s0] at z1
 rw [hW1] at r1 q1
 have HW : Hid ((w.alloc (.cells #[.slice a0 L cap0, .int .i64 ver] 24)).alloc (.cells #[.slice none 0 0, .int .i64 0] 24) = W) := Lib.hid (by rw [hW0, hW1])
 have HV := Lib.hid (hv.ret q1)
 have HL := Lib.hid hL
 have HN := Lib.hid hN
 have R0 := Lib.hid r1
 have Z0 := Lib.hid z1
 have Q1 := Lib.hid q1
 have S1 := Lib.hid s1
 clear hW0 hW1 s0 al r0 q0 hv hL hN r1 z1 q1
 go_enter Tryz.func87, Tryz.ntmps87
 go_wp2_with fail
 rw [HW.out]
 go_loopw [5, 6] (fun v i wx => ∃ k : Nat, k ≤ L ∧ i = .int .i64 k ∧ wx.ownsRow W.heap.size 31 8 v (woI (M.take k) t.data.toList).length (itV (woI (M.take k) t.data.toList)) ∧ Below W.heap.size W wx) (fun _ i _ => L - (intOf i).toNat)
 case atStart => exact ⟨0, Nat.zero_le _, rfl, World.ownsRow_nil _ _ _ _, Below.refl _ _⟩
 case round =>
  obtain ⟨k, hk, rfl, hown, hbw⟩ := hrel
  have hsz := hbw.size
  obtain ⟨rl, rc0, rc1, -, -⟩ := R0.out.ret hbw
  by_cases hlt : k < L
  ·have hkM : k < M.length := by rw [HL.out]; exact hlt
   obtain ⟨b, off, cp, hf, hb0, hc⟩ := (HV.out.ret hbw).cell hkM
   rw [HL.out] at hf
   simp only [Value.slice.injEq, true_and] at hf
   obtain ⟨rfl, rfl⟩ := hf
   have hsn := woI_snoc M t.data.toList k hkM
   have hlen : (woI (M.take k) t.data.toList).length ≤ k := Nat.le_trans (List.length_filter_le _ _) (by rw [List.length_take]; omega)
   obtain ⟨p, hp⟩ : ∃ p, M[k] = p := ⟨_, rfl⟩
   rw [hp] at hc hsn
   obtain ⟨F, hF⟩ : ∃ F, woI (M.take k) t.data.toList = F := ⟨_, rfl⟩
   rw [hF] at hsn hown hlen
   obtain ⟨x, hx⟩ : ∃ x, (p.1.j == t.data.toList) = x := ⟨_, rfl⟩
   have h2 : (p.1.j == t.toList) = x := by rw [Lib.toList_data]; exact hx
   obtain ⟨c0, c1, c2, c3, c4, c5, c6, c7⟩ := hc
   rw [hx] at hsn
   have HS := Lib.hid hsn
   have HO := Lib.hid hown
   have q2 := hbw
   clear hp hF hx hsn hown
   cases x with
   | true =>
    have hS := HS.out
    simp only [if_true, List.append_nil] at hS
    have HS := Lib.hid hS
    clear hS
    go_wp2_with fail
    go_roundw
    case rel => exact ⟨k + 1, by omega, by go_num, by rw [HS.out]; exact HO.out, q2⟩
    case measure => simp [intOf]; omega
   | false =>
    go_wp2_with (at_builtin; refine Hid.out ?_)
    refine Lib.hid ?_
    refine wpList_app_row rfl _ _ _ rfl W.heap.size 31 i0 _ 8 64 Tryz.underlying22 hi hz0 hz1 hz2 rfl (by omega) _ F.length (itV F) rfl (HO.out.alloc _) (.slice (some ⟨wr.heap.size, 0, none⟩) 1 1) (by rfl) 1 (itC p) (new_row8 wr p) (itC_one p) (by omega) (by omega) (by simp; omega) ?_
    intro v' w' hown' hgrow
    have q3 := (q2.alloc q2.size (.cells (itC p).toArray 31)).grown (w' := w') hgrow (by simp; omega) (fun k hk => (HO.out.lt k hk).1)
    have HO3 := Lib.hid hown'
    clear hown' hgrow
    go_wp2_with fail
    go_roundw
    case rel => exact ⟨k + 1, by omega, by go_num, by rw [HS.out]; simp only [Bool.false_eq_true, if_false]; rw [List.length_append, itV_app]; simpa [itV] using HO3.out, q3⟩
    case measure => simp [intOf]; omega
  ·have hfull : M.take k = M := List.take_of_length_le (by rw [HL.out]; omega)
   rw [hfull, HN.out] at hown
   obtain ⟨a, c, rfl, -⟩ := row_form hown
   have hl1 : w.heap.size < W.heap.size := by have := S1.out; omega
   have hl2 : w.heap.size + 1 < W.heap.size := by have := S1.out; omega
   have hq := Q1.out.trans (hbw.mono (by omega : w.heap.size ≤ W.heap.size))
   have ho3 := ownsRow_setCell_below hown (a := ⟨w.heap.size, 0, none⟩) hl1 (.slice a N.length c)
   have ho4 := ownsRow_setCell_below ho3 (a := ⟨w.heap.size + 1, 0, none⟩) hl2 (.slice a N.length c)
   have ho5 := ownsRow_setCell_below ho4 (a := ⟨w.heap.size + 1, 1, none⟩) hl2 (.int .i64 ver)
   have r0 := R0.out.ret hbw
   have z0 := Z0.out.ret hbw
   have HO := Lib.hid ho5
   have HQ := Lib.hid (((hq.setCell (p := ⟨w.heap.size, 0, none⟩) (Nat.le_refl _) (.slice a N.length c)).setCell (p := ⟨w.heap.size + 1, 0, none⟩) (Nat.le_succ _) (.slice a N.length c)).setCell (p := ⟨w.heap.size + 1, 1, none⟩) (Nat.le_succ _) (.int .i64 ver))
   have z3 := z0.other (g := w.heap.size) (o := 0) (by omega) (.slice a N.length c)
   have HZ := Lib.hid ((z3.set0 (.slice a N.length c)).set1 (.int .i64 ver))
   clear hfull hown ho3 ho4 ho5 hq z3
   obtain ⟨l, c0, c1, f0, f1⟩ := r0
   obtain ⟨m, d0, d1, e0, e1⟩ := z0
   go_wp2_with fail
   refine bodyPost_ret (ret_two1 rfl rfl HZ.out) rfl ⟨a, c, rfl, HO.out.mono (by have := S1.out; omega), HQ.out⟩
end Go.Proofs.YtfonkblbgadhmaaGreatDoor
