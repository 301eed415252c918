/- (*under).gone, (*under).put. PRINTED BY PROGRAM (gen_romw.py). -/
import Derived.Test.YtfonkblbgadhmaaGreatDoorRoMv
namespace Go.Proofs.YtfonkblbgadhmaaGreatDoor
open Go.RowKit Go.Lib

def goneI (M : List Im) (n : Nat) (th : Bool) : List Im := if th then M.eraseIdx n else M
def putI (M : List Im) (n : Nat) (th : Bool) (x : Im) : List Im := if th then M.set n x else M.take n ++ x :: M.drop n
theorem map_goneI (M : List Im) (t : List UInt8) : (goneI M (posL (M.map Prod.fst) t) (thereL (M.map Prod.fst) t)).map Prod.fst = goneL (M.map Prod.fst) t := by
 unfold goneI goneL
 cases thereL (M.map Prod.fst) t
 ·rfl
 ·simp only [if_true]
  rw [List.eraseIdx_eq_take_drop_succ, List.eraseIdx_eq_take_drop_succ, List.map_append, List.map_take, List.map_drop]
theorem map_putI (M : List Im) (x : Im) (t : List UInt8) (h : x.1.j = t) : (putI M (posL (M.map Prod.fst) t) (thereL (M.map Prod.fst) t) x).map Prod.fst = putL (M.map Prod.fst) x.1 := by
 unfold putI putL
 rw [h]
 cases thereL (M.map Prod.fst) t
 ·simp
 ·simp [List.map_set]
/-- a row that is another kind's, or none of these blocks, stays. -/
theorem own_kept {w w' : World} {B n size : Nat} {e : TypeId} {v u : Value} {U : Nat} {xs : List Value} (h : w.ownsRow B e size u n xs) (hk : Kpt U v.ownBlock w w') (h1 : u.ownBlock ≠ some U) (h2 : u.ownBlock = none ∨ u.ownBlock ≠ v.ownBlock) : w'.ownsRow B e size u n xs := by
 refine ⟨h.1, ?_⟩
 rcases h.2 with h0 | ⟨g, cap, cur, e1, hb, hg, r⟩
 ·exact .inl h0
 ·have hob : u.ownBlock = some g := by rw [e1]; rfl
  refine .inr ⟨g, cap, cur, e1, hb, ?_, r⟩
  rw [hk.2 g (h.lt g hob).2 (fun e => h1 (by rw [hob, e])) (fun e => ?_)]
  ·exact hg
  ·rcases h2 with h2 | h2
   ·rw [hob] at h2; cases h2
   ·exact h2 (by rw [hob, e])
theorem v_eq {w : World} {B n c size : Nat} {e : TypeId} {v : Value} {a : Option Addr} {xs : List Value} (hv : v = .slice a n c) (h : w.ownsRow B e size v n xs) : w.ownsRow B e size (.slice a n c) n xs := by rw [← hv]; exact h
/-- a step of a method: the row turned, U's first cell stored anew. -/
theorem mv_step {w0 w w2 : World} {U : Nat} {v v' : Value} {M M' : List Im} (hM : OwnX w0 [U] v M w) (hUb : U < w.heap.size) (hle : w0.heap.size ≤ U) (hg : w.grownBy w2 v.ownBlock) (hv' : w2.ownsRow w0.heap.size 31 8 v' M'.length (itV M')) (hvb : ∀ g, v'.ownBlock = some g → v.ownBlock = some g ∨ w.heap.size ≤ g)
  (hnU : v'.ownBlock ≠ some U) : ∀ W, w2.setCell ⟨U, 0, none⟩ v' = W → Mv w0 U v M v' M' w W ∧
  (∀ ad, U ∈ ad → OwnX w0 ad v M w → (∀ q ∈ M', q ∈ M ∨ OwX w0 ad 9 1 (gvI q) q.1.g.length (strV q.1.g) w) → (∀ a ∈ ad, a < w.heap.size) → OwnX w0 ad v' M' W) := by
 intro W hW
 have hsz : W.heap.size = w2.heap.size := by rw [← hW]; simp
 have hkp : Kpt U v.ownBlock w W := by
  refine ⟨by rw [hsz]; exact hg.size, fun k hk h1 h2 => ?_⟩
  rw [← hW, heap_setCell_other w2 ⟨U, 0, none⟩ k v' h1]
  exact hg.block k hk h2
 have hstr : ∀ ad u n xs, U ∈ ad → OwX w0 ad 9 1 u n xs w → OwX w0 ad 9 1 u n xs W := fun ad u n xs hm h =>
  ⟨own_kept h.1 hkp (fun e => h.2 U e hm) (own_apart2 hM.1.1 h.1), h.2⟩
 have hq : Below w0.heap.size w w2 := (Below.refl w0.heap.size w).grown hg (by have := hUb; omega) (fun k hk => (hM.1.1.lt k hk).1)
 refine ⟨⟨?_, hkp, hvb, hstr⟩, fun ad hm ho hx ha => ⟨⟨?_, fun g hgb hmem => ?_⟩, fun q hq' => ?_⟩⟩
 ·rw [← hW]; exact hq.setCell (p := ⟨U, 0, none⟩) hle _
 ·rw [← hW]; exact own_set hv' hnU _
 ·rcases hvb g hgb with h | h
  ·exact ho.1.2 g h hmem
  ·have := ha g hmem; omega
 ·rcases hx q hq' with h | h
  ·exact hstr ad _ _ _ hm (ho.2 q h)
  ·exact hstr ad _ _ _ hm h
set_option maxHeartbeats 2000000 in
set_option maxRecDepth 100000 in
theorem ro_gone (w0 : World) (U : Nat) (v : Value) (M : List Im) (ver : Int) (p : Im) (n : Nat) (th : Bool) (w : World) (hu : Ur w0 U v M ver p n th w) (hn : th = true → n < M.length) (hM : M.length ≤ 1000) :
  Calls Tryz.prog 57 #[.pointer (some ⟨U, 0, none⟩)] w (fun e w' => e = .returned (.tuple #[]) ∧ ∃ v', Mv w0 U v M v' (goneI M n th) w w' ∧ Ur w0 U v' (goneI M n th) ver p n th w' ∧ ∀ ad, U ∈ ad → (∀ a ∈ ad, a < w.heap.size) → OwnX w0 ad v M w → OwnX w0 ad v' (goneI M n th) w') := by
 have c11 := hu.bx.at 11 rfl
 unfold goneI
 cases th with
 | false =>
  simp only [Bool.false_eq_true, if_false]
  have HU := Lib.hid hu
  clear hu hn
  go_enter Tryz.func57, Tryz.ntmps57
  go_wp2_with fail
  exact bodyPost_end (results_none rfl _ _ _) rfl ⟨rfl, v, ⟨Below.refl _ _, ⟨Nat.le_refl _, fun _ _ _ _ => rfl⟩, fun g hg => .inl hg, fun _ _ _ _ _ h => h⟩, HU.out, fun _ _ _ h => h⟩
 | true =>
  simp only [if_true]
  have hnM := hn rfl
  have c0 := hu.bx.at 0 rfl
  have c10 := hu.bx.at 10 rfl
  have hlt := hu.bx.lt
  have hown := hu.ow.1.1
  have DEL := Lib.hid (fun (W : World) (hW : Below w.heap.size w W) => sl_Delete w0.heap.size v M n W (own_below hown hW) hnM (by omega))
  have HU := Lib.hid hu
  have hwn : IntKind.i64.wrap ((n : Int) + 1) = (n : Int) + 1 := IntWalk.i64_in _ (by omega)
  clear hu hn hown
  go_enter Tryz.func57, Tryz.ntmps57
  go_wp2_with fail
  have bV := Below.drew (Below.refl w.heap.size w)
  refine wp_region_held_drew (S := fun w' => w'.cell? ⟨U, 10, none⟩ = some (.int .i64 n)) (by kernel_rfl) c10 (fun hHeld => ?_)
  have sV : w.drew.heap.size = w.heap.size := rfl
  have gV : w.grownBy w.drew v.ownBlock := ⟨rfl, rfl, rfl, Nat.le_refl _, fun _ _ _ => rfl⟩
  generalize w.drew = V at bV sV gV hHeld ⊢
  refine tk_start [(0, some 6), (1, some 7), (2, some 8), (3, some 9), (4, some 10), (6, some 12), (7, some 13), (8, some 14), (9, some 15), (10, some 16), (11, some 17), (12, some 18), (13, some 19), (14, some 20)] ?_
  iterate 14
   refine tk_step (v := ?_) (by kernel_rfl) (by kernel_rfl) (fun _ _ _ h => h) (by assumption) (fun o ho w' hSw => ?_) ?_
   rotate_left
   ·simp only [List.getElem?_toArray, List.getElem?_cons_succ, List.getElem?_cons_zero, Option.some.injEq] at ho; subst ho; (try dsimp only at hSw); go_simp; try with_reducible rfl
   simp only [Act.put, List.setIfInBounds_toArray, List.set_cons_zero, List.set_cons_succ]
  refine tk_end ?_
  refine tk_call (i := 5) (by kernel_rfl) (by kernel_rfl) (fun o ho K hK => ?_)
  simp only [List.getElem?_toArray, List.getElem?_cons_succ, List.getElem?_cons_zero, Option.some.injEq] at ho
  subst ho
  have d0 := ((bcell bV).1 _ _ hlt).trans c0
  go_simp
  clear d0 hHeld
  refine hK.out _ _ (((bcell bV).1 _ _ hlt).trans c10) (fun hHeld => ?_)
  clear hK K
  refine tk_call (i := 15) (by kernel_rfl) (by kernel_rfl) (fun o ho K hK => ?_)
  simp only [List.getElem?_toArray, List.getElem?_cons_succ, List.getElem?_cons_zero, Option.some.injEq] at ho
  subst ho
  go_simp
  refine (DEL.out V bV).mono ?_
  rintro e w2 ⟨v', rfl, hrow, hgr, hvb0⟩
  obtain ⟨a', c', hv', -⟩ := row_form hrow
  have hgr2 := grown_trans2 gV hgr
  have hb2 := (Below.refl w0.heap.size w).grown hgr2 (by have := HU.out.le; omega) (fun k hk => (HU.out.ow.1.1.lt k hk).1)
  have hUne : v.ownBlock ≠ some U := fun e => HU.out.ow.1.2 U e (by simp)
  have hUh : w2.heap[U]? = w.heap[U]? := hgr2.block U hlt (fun e => hUne e.symm)
  have BU := Lib.hid (HU.out.bx.same hUh)
  have HVB := Lib.hid hvb0
  have HROW := Lib.hid hrow
  have HGR := Lib.hid hgr2
  clear hrow hgr hgr2 hvb0 gV bV hb2 hUne hUh
  go_simp
  clear hHeld
  refine hK.out _ _ (BU.out.at 10 rfl) (fun hHeld => ?_)
  clear hK K
  refine tk_start [(16, some 22), (17, some 23), (18, some 24)] ?_
  iterate 3
   refine tk_step (v := ?_) (by kernel_rfl) (by kernel_rfl) (fun _ _ _ h => h) (by assumption) (fun o ho w' hSw => ?_) ?_
   rotate_left
   ·simp only [List.getElem?_toArray, List.getElem?_cons_succ, List.getElem?_cons_zero, Option.some.injEq] at ho; subst ho; (try dsimp only at hSw); go_simp; try with_reducible rfl
   simp only [Act.put, List.setIfInBounds_toArray, List.set_cons_zero, List.set_cons_succ]
  refine tk_end ?_
  refine tk_call (i := 19) (by kernel_rfl) (by kernel_rfl) (fun o ho K hK => ?_)
  simp only [List.getElem?_toArray, List.getElem?_cons_succ, List.getElem?_cons_zero, Option.some.injEq] at ho
  subst ho
  have BU0 := Lib.hid BU.out
  subst hv'
  have d0 := BU.out.at 0 rfl
  have f0 := BU.out.fz 0 (by simp)
  go_simp
  clear d0 f0
  have hvb : ∀ g, (Value.slice a' (M.eraseIdx n).length c').ownBlock = some g → v.ownBlock = some g ∨ w.heap.size ≤ g := fun g hg => by rw [← sV]; exact HVB.out g hg
  have hnU : (Value.slice a' (M.eraseIdx n).length c').ownBlock ≠ some U := fun e => by
   rcases hvb U e with h | h
   ·exact HU.out.ow.1.2 U h (by simp)
   ·omega
  have BU2 := Lib.hid (BU.out.set 0 (by simp) (.slice a' (M.eraseIdx n).length c'))
  have MV := Lib.hid (mv_step HU.out.ow hlt HU.out.le HGR.out HROW.out hvb hnU _ rfl)
  clear hHeld
  refine hK.out _ _ (BU2.out.at 10 rfl) (fun hHeld => ?_)
  clear hK K
  refine wpAnyH_done (by kernel_rfl) ?_ _
  clear hHeld
  go_wp2_with fail
  have hmem : ∀ ad, ∀ q ∈ M.eraseIdx n, q ∈ M ∨ OwX w0 ad 9 1 (gvI q) q.1.g.length (strV q.1.g) w := fun ad q hq => .inl (List.mem_of_mem_eraseIdx hq)
  have hfin : ∀ ad, U ∈ ad → (∀ a ∈ ad, a < w.heap.size) → OwnX w0 ad v M w → OwnX w0 ad (.slice a' (M.eraseIdx n).length c') (M.eraseIdx n) _ := fun ad hm ha ho => MV.out.2 ad hm ho (hmem ad) ha
  exact bodyPost_end (results_none rfl _ _ _) rfl ⟨rfl, _, MV.out.1, ⟨BU2.out, hfin [U] (by simp) (fun a ha => by rw [List.mem_singleton.1 ha]; exact hlt) HU.out.ow, HU.out.le⟩, hfin⟩
theorem gset {a w : World} {g : Nat} (h : a.grownBy w (some g)) (i : Nat) (v : Value) : a.grownBy (w.setCell ⟨g, i, none⟩ v) (some g) :=
 ⟨h.os, h.tape, h.output, by rw [World.size_setCell]; exact h.size, fun k hk hne => (heap_setCell_other w ⟨g, i, none⟩ k v (fun e => hne (by rw [e]))).trans (h.block k hk hne)⟩
/-- .. a step that turns the row in place. -/
theorem mv_row {w0 w W : World} {U : Nat} {v : Value} {M M' : List Im} (hM : OwnX w0 [U] v M w) (hUb : U < w.heap.size) (hle : w0.heap.size ≤ U) (hg : w.grownBy W v.ownBlock) (hv' : W.ownsRow w0.heap.size 31 8 v M'.length (itV M')) : Mv w0 U v M v M' w W ∧
  (∀ ad, U ∈ ad → OwnX w0 ad v M w → (∀ q ∈ M', q ∈ M ∨ OwX w0 ad 9 1 (gvI q) q.1.g.length (strV q.1.g) w) → OwnX w0 ad v M' W) := by
 have hkp : Kpt U v.ownBlock w W := ⟨hg.size, fun k hk _ h2 => hg.block k hk h2⟩
 have hstr : ∀ ad u n xs, U ∈ ad → OwX w0 ad 9 1 u n xs w → OwX w0 ad 9 1 u n xs W := fun ad u n xs hm h =>
  ⟨own_kept h.1 hkp (fun e => h.2 U e hm) (own_apart2 hM.1.1 h.1), h.2⟩
 refine ⟨⟨(Below.refl w0.heap.size w).grown hg (by have := hUb; omega) (fun k hk => (hM.1.1.lt k hk).1), hkp, fun g h => .inl h, hstr⟩, fun ad hm ho hx => ⟨⟨hv', fun g hgb hmem => ho.1.2 g hgb hmem⟩, fun q hq' => ?_⟩⟩
 rcases hx q hq' with h | h
 ·exact hstr ad _ _ _ hm (ho.2 q h)
 ·exact hstr ad _ _ _ hm h
/-- what put answers. -/
def PutIs (w0 : World) (U : Nat) (v : Value) (M : List Im) (ver : Int) (p : Im) (n : Nat) (th : Bool) (x : Im) (w : World) (e : Ending) (w' : World) : Prop :=
 ((th || decide (M.length < 16)) = false ∧ e = .returned (.int .i64 9) ∧ Below w.heap.size w w') ∨
 ((th || decide (M.length < 16)) = true ∧ e = .returned (.int .i64 0) ∧ ∃ v', Mv w0 U v M v' (putI M n th x) w w' ∧ Ur w0 U v' (putI M n th x) ver p n th w' ∧ ∀ ad, U ∈ ad → (∀ a ∈ ad, a < w.heap.size) → OwnX w0 ad v M w → OwX w0 ad 9 1 (gvI x) x.1.g.length (strV x.1.g) w → OwnX w0 ad v' (putI M n th x) w')
set_option maxHeartbeats 4000000 in
set_option maxRecDepth 100000 in
theorem ro_put (w0 : World) (U : Nat) (v : Value) (M : List Im) (ver : Int) (p : Im) (n : Nat) (th : Bool) (x : Im) (w : World) (hu : Ur w0 U v M ver p n th w) (hx : OwX w0 [U] 9 1 (gvI x) x.1.g.length (strV x.1.g) w) (hn : n ≤ M.length) (hn2 : th = true → n < M.length) (hM : M.length ≤ 1000) :
  Calls Tryz.prog 52 #[.pointer (some ⟨U, 0, none⟩), itA x] w (PutIs w0 U v M ver p n th x w) := by
 have hlt := hu.bx.lt
 have x1 := Bx.new w [.string ⟨x.1.j.toArray⟩, .string ⟨x.1.n.toArray⟩, gvI x, .bool x.1.s.1, .bool x.1.s.2.1, .bool x.1.s.2.2.1, .bool x.1.s.2.2.2, .bool x.1.k] 31
 have al := (Below.refl w.heap.size w).alloc (Nat.le_refl _) (.cells #[.string ⟨x.1.j.toArray⟩, .string ⟨x.1.n.toArray⟩, gvI x, .bool x.1.s.1, .bool x.1.s.2.1, .bool x.1.s.2.2.1, .bool x.1.s.2.2.2, .bool x.1.k] 31)
 have gal : w.grownBy (w.alloc (.cells #[.string ⟨x.1.j.toArray⟩, .string ⟨x.1.n.toArray⟩, gvI x, .bool x.1.s.1, .bool x.1.s.2.1, .bool x.1.s.2.2.1, .bool x.1.s.2.2.2, .bool x.1.k] 31)) v.ownBlock := World.grownBy_alloc w _ _
 obtain ⟨W, hW⟩ : ∃ W, w.alloc (.cells #[.string ⟨x.1.j.toArray⟩, .string ⟨x.1.n.toArray⟩, gvI x, .bool x.1.s.1, .bool x.1.s.2.1, .bool x.1.s.2.2.1, .bool x.1.s.2.2.2, .bool x.1.k] 31) = W := ⟨_, rfl⟩
 have b1 := hu.bx.ret al
 have e11 := b1.at 11 rfl
 have e0 := b1.at 0 rfl
 have sW : W.heap.size = w.heap.size + 1 := by rw [← hW]; simp
 have hx1 : Bx w.heap.size [.string ⟨x.1.j.toArray⟩, .string ⟨x.1.n.toArray⟩, gvI x, .bool x.1.s.1, .bool x.1.s.2.1, .bool x.1.s.2.2.1, .bool x.1.s.2.2.2, .bool x.1.k] W := by rw [← hW]; exact x1
 have hb1 : Bx U (uC v ver p n th) W := by rw [← hW]; exact b1
 have al1 : Below w.heap.size w W := by rw [← hW]; exact al
 have gal1 : w.grownBy W v.ownBlock := by rw [← hW]; exact gal
 obtain ⟨av, cv, hvf, -⟩ := row_form hu.ow.1.1
 unfold PutIs putI
 have HU := Lib.hid hu
 have HX := Lib.hid hx
 have HW := Lib.hid hW
 have X1 := Lib.hid hx1
 have B1 := Lib.hid hb1
 have AL := Lib.hid al1
 have GAL := Lib.hid gal1
 clear hW x1 al gal b1 hu hx hx1 hb1 al1 gal1
 cases th with
 | true =>
  have hnM := hn2 rfl
  simp only [Bool.true_or, if_true]
  obtain ⟨g, rfl, hL, hgB, hgl⟩ := own_some (v_eq hvf HU.out.ow.1.1) (by omega)
  have hvL : v = .slice (some ⟨g, 0, none⟩) M.length cv := by rw [hvf]
  subst hvL
  obtain ⟨y, hy⟩ : ∃ y, M[n]? = some y := ⟨_, List.getElem?_eq_getElem hnM⟩
  have HY := Lib.hid hy
  have hne1 : U ≠ g := fun e => HU.out.ow.1.2 g rfl (by simp [e])
  have wn : (n : Int) < (M.length : Int) := by omega
  clear hy hvf
  go_enter Tryz.func52, Tryz.ntmps52
  go_wp2_with fail
  rw [HW.out]
  clear e11 e0
  have bV := Below.drew (Below.refl W.heap.size W)
  have gV : w.grownBy W.drew (some g) := ⟨GAL.out.os, GAL.out.tape, GAL.out.output, GAL.out.size, GAL.out.block⟩
  have B2 := Lib.hid (B1.out.ret bV)
  have X2 := Lib.hid (X1.out.ret bV)
  have AL2 := Lib.hid (AL.out.trans (bV.mono AL.out.size))
  refine wp_region_held_drew (S := fun w' => w'.cell? ⟨U, 0, none⟩ = some (.slice (some ⟨g, 0, none⟩) M.length cv) ∧ w'.cell? ⟨U, 10, none⟩ = some (.int .i64 n) ∧ w'.cell? ⟨w.heap.size, 0, none⟩ = some (.string ⟨x.1.j.toArray⟩) ∧ w'.cell? ⟨w.heap.size, 1, none⟩ = some (.string ⟨x.1.n.toArray⟩) ∧ w'.cell? ⟨w.heap.size, 2, none⟩ = some (gvI x) ∧ w'.cell? ⟨w.heap.size, 3, none⟩ = some (.bool x.1.s.1) ∧ w'.cell? ⟨w.heap.size, 4, none⟩ = some (.bool x.1.s.2.1) ∧ w'.cell? ⟨w.heap.size, 5, none⟩ = some (.bool x.1.s.2.2.1) ∧ w'.cell? ⟨w.heap.size, 6, none⟩ = some (.bool x.1.s.2.2.2) ∧ w'.cell? ⟨w.heap.size, 7, none⟩ = some (.bool x.1.k)) (by kernel_rfl) ⟨B2.out.at 0 rfl, B2.out.at 10 rfl, X2.out.at 0 rfl, X2.out.at 1 rfl, X2.out.at 2 rfl, X2.out.at 3 rfl, X2.out.at 4 rfl, X2.out.at 5 rfl, X2.out.at 6 rfl, X2.out.at 7 rfl⟩ (fun hHeld => ?_)
  have sV : W.drew.heap.size = w.heap.size + 1 := sW
  generalize W.drew = V at bV gV B2 X2 AL2 sV hHeld ⊢
  refine tk_start [(0, some 26), (1, some 27), (2, some 28), (3, some 29), (4, some 30), (5, some 31), (6, some 32), (7, some 33), (8, some 34), (9, some 35), (10, some 36)] ?_
  iterate 11
   refine tk_step (v := ?_) (by kernel_rfl) (by kernel_rfl) (fun _ _ _ h => h) (by assumption) (fun o ho w' hSw => ?_) ?_
   rotate_left
   ·simp only [List.getElem?_toArray, List.getElem?_cons_succ, List.getElem?_cons_zero, Option.some.injEq] at ho; subst ho; (try dsimp only at hSw); go_simp; try with_reducible rfl
   simp only [Act.put, List.setIfInBounds_toArray, List.set_cons_zero, List.set_cons_succ]
  refine tk_end ?_
  refine tk_call (i := 11) (by kernel_rfl) (by kernel_rfl) (fun o ho K hK => ?_)
  simp only [List.getElem?_toArray, List.getElem?_cons_succ, List.getElem?_cons_zero, Option.some.injEq] at ho
  subst ho
  have o2 : V.ownsRow w0.heap.size 31 8 (.slice (some ⟨g, 0, none⟩) M.length cv) M.length (itV M) := own_below HU.out.ow.1.1 AL2.out
  obtain ⟨i0, i1, i2, i3, i4, i5, i6, i7⟩ := own_cells o2 n hnM rfl y HY.out
  have j0 := o2.frozenAt (n * 8)
  have j1 := o2.frozenAt (n * 8 + 1)
  have j2 := o2.frozenAt (n * 8 + 2)
  have j3 := o2.frozenAt (n * 8 + 3)
  have j4 := o2.frozenAt (n * 8 + 4)
  have j5 := o2.frozenAt (n * 8 + 5)
  have j6 := o2.frozenAt (n * 8 + 6)
  have j7 := o2.frozenAt (n * 8 + 7)
  go_simp
  clear i0 i1 i2 i3 i4 i5 i6 i7 j0 j1 j2 j3 j4 j5 j6 j7
  have o3 := row_store8 o2 rfl n hnM x
  have gst : V.grownBy (st8 V g (n * 8) (.string ⟨x.1.j.toArray⟩) (.string ⟨x.1.n.toArray⟩) (gvI x) (.bool x.1.s.1) (.bool x.1.s.2.1) (.bool x.1.s.2.2.1) (.bool x.1.s.2.2.2) (.bool x.1.k)) (some g) := by unfold st8; exact gset (gset (gset (gset (gset (gset (gset (gset (World.grownBy.refl _ _) _ _) _ _) _ _) _ _) _ _) _ _) _ _) _ _
  have gf := grown_trans2 gV gst
  have hUh := gf.block U hlt (fun e => hne1 (by cases e; rfl))
  have B3 := Lib.hid (HU.out.bx.same hUh)
  have hXh : Bx w.heap.size [.string ⟨x.1.j.toArray⟩, .string ⟨x.1.n.toArray⟩, gvI x, .bool x.1.s.1, .bool x.1.s.2.1, .bool x.1.s.2.2.1, .bool x.1.s.2.2.2, .bool x.1.k] (st8 V g (n * 8) (.string ⟨x.1.j.toArray⟩) (.string ⟨x.1.n.toArray⟩) (gvI x) (.bool x.1.s.1) (.bool x.1.s.2.1) (.bool x.1.s.2.2.1) (.bool x.1.s.2.2.2) (.bool x.1.k)) := X2.out.same (gst.block w.heap.size (by omega) (fun e => by cases e; omega))
  have X3 := Lib.hid hXh
  have MV := Lib.hid (mv_row HU.out.ow hlt HU.out.le gf (by rw [List.length_set]; exact o3 : (st8 V g (n * 8) (.string ⟨x.1.j.toArray⟩) (.string ⟨x.1.n.toArray⟩) (gvI x) (.bool x.1.s.1) (.bool x.1.s.2.1) (.bool x.1.s.2.2.1) (.bool x.1.s.2.2.2) (.bool x.1.k)).ownsRow w0.heap.size 31 8 (.slice (some ⟨g, 0, none⟩) M.length cv) (M.set n x).length (itV (M.set n x))))
  clear hHeld o2 o3 gst gf hUh hXh
  refine hK.out _ _ ⟨B3.out.at 0 rfl, B3.out.at 10 rfl, X3.out.at 0 rfl, X3.out.at 1 rfl, X3.out.at 2 rfl, X3.out.at 3 rfl, X3.out.at 4 rfl, X3.out.at 5 rfl, X3.out.at 6 rfl, X3.out.at 7 rfl⟩ (fun hHeld => ?_)
  clear hK K
  refine wpAnyH_done (by kernel_rfl) ?_ _
  clear hHeld
  go_wp2_with fail
  go_ret
  have hmem : ∀ ad, OwX w0 ad 9 1 (gvI x) x.1.g.length (strV x.1.g) w → ∀ q ∈ M.set n x, q ∈ M ∨ OwX w0 ad 9 1 (gvI q) q.1.g.length (strV q.1.g) w := fun ad h q hq => by
   rcases List.mem_or_eq_of_mem_set hq with h1 | h1
   ·exact .inl h1
   ·rw [h1]; exact .inr h
  refine .inr ⟨by first | rfl | trivial, rfl, _, MV.out.1, ⟨B3.out, MV.out.2 [U] (by simp) HU.out.ow (hmem [U] HX.out), HU.out.le⟩, fun ad hm _ ho hxx => MV.out.2 ad hm ho (hmem ad hxx)⟩
 | false =>
  simp only [Bool.false_or, Bool.false_eq_true, if_false]
  subst hvf
  obtain ⟨NL, hNL⟩ : ∃ NL, M.take n ++ x :: M.drop n = NL := ⟨_, rfl⟩
  rw [hNL]
  have HNL := Lib.hid hNL
  clear hNL
  by_cases h16 : M.length < 16
  ·rw [decide_eq_true h16]
   have wl : ¬ ((16 : Int) ≤ (M.length : Int)) := by omega
   go_enter Tryz.func52, Tryz.ntmps52
   go_wp2_with fail
   rw [HW.out]
   clear e11 e0
   have bV := Below.drew (Below.refl W.heap.size W)
   have gV : w.grownBy W.drew (Value.slice av M.length cv).ownBlock := ⟨GAL.out.os, GAL.out.tape, GAL.out.output, GAL.out.size, GAL.out.block⟩
   have B2 := Lib.hid (B1.out.ret bV)
   have X2 := Lib.hid (X1.out.ret bV)
   have AL2 := Lib.hid (AL.out.trans (bV.mono AL.out.size))
   refine wp_region_held_drew (S := fun w' => w'.cell? ⟨U, 10, none⟩ = some (.int .i64 n) ∧ w'.cell? ⟨w.heap.size, 0, none⟩ = some (.string ⟨x.1.j.toArray⟩) ∧ w'.cell? ⟨w.heap.size, 1, none⟩ = some (.string ⟨x.1.n.toArray⟩) ∧ w'.cell? ⟨w.heap.size, 2, none⟩ = some (gvI x) ∧ w'.cell? ⟨w.heap.size, 3, none⟩ = some (.bool x.1.s.1) ∧ w'.cell? ⟨w.heap.size, 4, none⟩ = some (.bool x.1.s.2.1) ∧ w'.cell? ⟨w.heap.size, 5, none⟩ = some (.bool x.1.s.2.2.1) ∧ w'.cell? ⟨w.heap.size, 6, none⟩ = some (.bool x.1.s.2.2.2) ∧ w'.cell? ⟨w.heap.size, 7, none⟩ = some (.bool x.1.k)) (by kernel_rfl) ⟨B2.out.at 10 rfl, X2.out.at 0 rfl, X2.out.at 1 rfl, X2.out.at 2 rfl, X2.out.at 3 rfl, X2.out.at 4 rfl, X2.out.at 5 rfl, X2.out.at 6 rfl, X2.out.at 7 rfl⟩ (fun hHeld => ?_)
   have sV : W.drew.heap.size = w.heap.size + 1 := sW
   generalize W.drew = V at bV gV B2 X2 AL2 sV hHeld ⊢
   have SV := Lib.hid sV
   clear sV
   refine tk_start [(0, some 5), (1, some 6), (2, some 7), (3, some 8), (4, some 9), (6, some 11), (7, some 12), (8, some 13), (9, some 14), (10, some 15)] ?_
   iterate 10
    refine tk_step (v := ?_) (by kernel_rfl) (by kernel_rfl) (fun _ _ _ h => h) (by assumption) (fun o ho w' hSw => ?_) ?_
    rotate_left
    ·simp only [List.getElem?_toArray, List.getElem?_cons_succ, List.getElem?_cons_zero, Option.some.injEq] at ho; subst ho; (try dsimp only at hSw); go_simp; try with_reducible rfl
    simp only [Act.put, List.setIfInBounds_toArray, List.set_cons_zero, List.set_cons_succ]
   refine tk_end ?_
   refine wpAnyH_ready (rs := [5, 11]) (by kernel_rfl) (by simp) ?_
   refine tk_cons (by kernel_rfl) (fun o ho K hK => ?_) ?_
   ·simp only [List.getElem?_toArray, List.getElem?_cons_succ, List.getElem?_cons_zero, Option.some.injEq] at ho
    subst ho
    have d0 := B2.out.at 0 rfl
    go_simp
    clear d0 hHeld
    refine hK.out _ _ ⟨B2.out.at 10 rfl, X2.out.at 0 rfl, X2.out.at 1 rfl, X2.out.at 2 rfl, X2.out.at 3 rfl, X2.out.at 4 rfl, X2.out.at 5 rfl, X2.out.at 6 rfl, X2.out.at 7 rfl⟩ (fun hHeld => ?_)
    clear hK K
    refine tk_call (i := 11) (by kernel_rfl) (by kernel_rfl) (fun o ho K hK => ?_)
    simp only [List.getElem?_toArray, List.getElem?_cons_succ, List.getElem?_cons_zero, Option.some.injEq] at ho
    subst ho
    go_simp
    have al3 := (Below.refl V.heap.size V).alloc (Nat.le_refl _) (.cells (itC x).toArray 31)
    have gal3 := World.grownBy_alloc V (.cells (itC x).toArray 31) (Value.slice av M.length cv).ownBlock
    have hnew := heap_alloc_new V (.cells (itC x).toArray 31)
    have hown3 := own_below (own_below HU.out.ow.1.1 AL2.out) al3
    have B3 := Lib.hid (B2.out.ret al3)
    have X3 := Lib.hid (X2.out.ret al3)
    obtain ⟨V3, hV3⟩ : ∃ V3, V.alloc (.cells #[.string ⟨x.1.j.toArray⟩, .string ⟨x.1.n.toArray⟩, gvI x, .bool x.1.s.1, .bool x.1.s.2.1, .bool x.1.s.2.2.1, .bool x.1.s.2.2.2, .bool x.1.k] 31) = V3 := ⟨_, rfl⟩
    have S3 : Hid (V3.heap.size = w.heap.size + 2) := Lib.hid (by have := SV.out; rw [← hV3]; simp; omega)
    rw [show V.alloc (.cells (itC x).toArray 31) = V3 from hV3] at al3 gal3 hnew hown3 B3 X3
    rw [hV3]
    have hnb : (Value.slice av M.length cv).ownBlock ≠ some V.heap.size := fun e => by have := (HU.out.ow.1.1.lt _ e).2; have := SV.out; omega
    have ins := (sl_Insert w0.heap.size (.slice av M.length cv) M n V.heap.size x V3 hown3 (by have := HU.out.le; have := S3.out; omega) hn (by omega) hnew hnb)
    rw [HNL.out] at ins
    have INS := Lib.hid ins
    have G3 := Lib.hid (grown_trans2 gV gal3)
    clear hnew hown3 al3 gal3 gV hV3 hnb hHeld ins
    refine hK.out _ _ ⟨B3.out.at 10 rfl, X3.out.at 0 rfl, X3.out.at 1 rfl, X3.out.at 2 rfl, X3.out.at 3 rfl, X3.out.at 4 rfl, X3.out.at 5 rfl, X3.out.at 6 rfl, X3.out.at 7 rfl⟩ (fun hHeld => ?_)
    clear hK K
    refine tk_call (i := 12) (by kernel_rfl) (by kernel_rfl) (fun o ho K hK => ?_)
    simp only [List.getElem?_toArray, List.getElem?_cons_succ, List.getElem?_cons_zero, Option.some.injEq] at ho
    subst ho
    go_simp
    refine INS.out.mono ?_
    rintro e w4 ⟨v', rfl, hrow, hgr, hvb0⟩
    obtain ⟨a', c', hv', -⟩ := row_form hrow
    have G4 := Lib.hid (grown_trans2 G3.out hgr)
    have hUne : (Value.slice av M.length cv).ownBlock ≠ some U := fun e => HU.out.ow.1.2 U e (by simp)
    have B4 := Lib.hid (HU.out.bx.same (G4.out.block U hlt (fun e => hUne e.symm)))
    have X4 := Lib.hid (X3.out.same (hgr.block w.heap.size (by have := S3.out; omega) (fun e => by have := (HU.out.ow.1.1.lt _ e.symm).2; omega)))
    have HROW := Lib.hid hrow
    have HVB := Lib.hid hvb0
    clear hrow hgr hvb0 hUne
    go_simp
    clear hHeld
    refine hK.out _ _ ⟨B4.out.at 10 rfl, X4.out.at 0 rfl, X4.out.at 1 rfl, X4.out.at 2 rfl, X4.out.at 3 rfl, X4.out.at 4 rfl, X4.out.at 5 rfl, X4.out.at 6 rfl, X4.out.at 7 rfl⟩ (fun hHeld => ?_)
    clear hK K
    refine tk_start [(13, some 18), (14, some 19), (15, some 20)] ?_
    iterate 3
     refine tk_step (v := ?_) (by kernel_rfl) (by kernel_rfl) (fun _ _ _ h => h) (by assumption) (fun o ho w' hSw => ?_) ?_
     rotate_left
     ·simp only [List.getElem?_toArray, List.getElem?_cons_succ, List.getElem?_cons_zero, Option.some.injEq] at ho; subst ho; (try dsimp only at hSw); go_simp; try with_reducible rfl
     simp only [Act.put, List.setIfInBounds_toArray, List.set_cons_zero, List.set_cons_succ]
    refine tk_end ?_
    refine tk_call (i := 16) (by kernel_rfl) (by kernel_rfl) (fun o ho K hK => ?_)
    simp only [List.getElem?_toArray, List.getElem?_cons_succ, List.getElem?_cons_zero, Option.some.injEq] at ho
    subst ho
    subst hv'
    have d0 := B4.out.at 0 rfl
    have f0 := B4.out.fz 0 (by simp)
    go_simp
    clear d0 f0
    have hvb : ∀ g, (Value.slice a' NL.length c').ownBlock = some g → (Value.slice av M.length cv).ownBlock = some g ∨ w.heap.size ≤ g := fun g hg => by
     rcases HVB.out g hg with h | h
     ·exact .inl h
     ·right; have := S3.out; omega
    have hnU : (Value.slice a' NL.length c').ownBlock ≠ some U := fun e => by
     rcases hvb U e with h | h
     ·exact HU.out.ow.1.2 U h (by simp)
     ·omega
    have B5 := Lib.hid (B4.out.set 0 (by simp) (.slice a' NL.length c'))
    have MV := Lib.hid (mv_step HU.out.ow hlt HU.out.le G4.out HROW.out hvb hnU _ rfl)
    have X5 := Lib.hid (X4.out.other (g := U) (o := 0) (by omega) (.slice a' NL.length c'))
    clear hHeld
    refine hK.out _ _ ⟨B5.out.at 10 rfl, X5.out.at 0 rfl, X5.out.at 1 rfl, X5.out.at 2 rfl, X5.out.at 3 rfl, X5.out.at 4 rfl, X5.out.at 5 rfl, X5.out.at 6 rfl, X5.out.at 7 rfl⟩ (fun hHeld => ?_)
    clear hK K
    refine wpAnyH_done (by kernel_rfl) ?_ _
    clear hHeld
    go_wp2_with fail
    go_ret
    have hmem : ∀ ad, OwX w0 ad 9 1 (gvI x) x.1.g.length (strV x.1.g) w → ∀ q ∈ NL, q ∈ M ∨ OwX w0 ad 9 1 (gvI q) q.1.g.length (strV q.1.g) w := fun ad h q hq => by
     rw [← HNL.out] at hq
     rcases List.mem_append.1 hq with h1 | h1
     ·exact .inl (List.mem_of_mem_take h1)
     ·rcases List.mem_cons.1 h1 with h1 | h1
      ·rw [h1]; exact .inr h
      ·exact .inl (List.mem_of_mem_drop h1)
    have hfin : ∀ ad, U ∈ ad → (∀ a ∈ ad, a < w.heap.size) → OwnX w0 ad (.slice av M.length cv) M w → OwX w0 ad 9 1 (gvI x) x.1.g.length (strV x.1.g) w → OwnX w0 ad (.slice a' NL.length c') NL _ := fun ad hm ha ho hxx => MV.out.2 ad hm ho (hmem ad hxx) ha
    refine .inr ⟨by first | rfl | trivial, rfl, _, MV.out.1, ⟨B5.out, hfin [U] (by simp) (fun a ha => by rw [List.mem_singleton.1 ha]; exact hlt) HU.out.ow HX.out, HU.out.le⟩, hfin⟩
   refine tk_cons (by kernel_rfl) (fun o ho K hK => ?_) ?_
   ·simp only [List.getElem?_toArray, List.getElem?_cons_succ, List.getElem?_cons_zero, Option.some.injEq] at ho
    subst ho
    go_simp
    have al3 := (Below.refl V.heap.size V).alloc (Nat.le_refl _) (.cells (itC x).toArray 31)
    have gal3 := World.grownBy_alloc V (.cells (itC x).toArray 31) (Value.slice av M.length cv).ownBlock
    have hnew := heap_alloc_new V (.cells (itC x).toArray 31)
    have hown3 := own_below (own_below HU.out.ow.1.1 AL2.out) al3
    have B3 := Lib.hid (B2.out.ret al3)
    have X3 := Lib.hid (X2.out.ret al3)
    obtain ⟨V3, hV3⟩ : ∃ V3, V.alloc (.cells #[.string ⟨x.1.j.toArray⟩, .string ⟨x.1.n.toArray⟩, gvI x, .bool x.1.s.1, .bool x.1.s.2.1, .bool x.1.s.2.2.1, .bool x.1.s.2.2.2, .bool x.1.k] 31) = V3 := ⟨_, rfl⟩
    have S3 : Hid (V3.heap.size = w.heap.size + 2) := Lib.hid (by have := SV.out; rw [← hV3]; simp; omega)
    rw [show V.alloc (.cells (itC x).toArray 31) = V3 from hV3] at al3 gal3 hnew hown3 B3 X3
    rw [hV3]
    have hnb : (Value.slice av M.length cv).ownBlock ≠ some V.heap.size := fun e => by have := (HU.out.ow.1.1.lt _ e).2; have := SV.out; omega
    have ins := (sl_Insert w0.heap.size (.slice av M.length cv) M n V.heap.size x V3 hown3 (by have := HU.out.le; have := S3.out; omega) hn (by omega) hnew hnb)
    rw [HNL.out] at ins
    have INS := Lib.hid ins
    have G3 := Lib.hid (grown_trans2 gV gal3)
    clear hnew hown3 al3 gal3 gV hV3 hnb hHeld ins
    refine hK.out _ _ ⟨B3.out.at 10 rfl, X3.out.at 0 rfl, X3.out.at 1 rfl, X3.out.at 2 rfl, X3.out.at 3 rfl, X3.out.at 4 rfl, X3.out.at 5 rfl, X3.out.at 6 rfl, X3.out.at 7 rfl⟩ (fun hHeld => ?_)
    clear hK K
    refine tk_call (i := 5) (by kernel_rfl) (by kernel_rfl) (fun o ho K hK => ?_)
    simp only [List.getElem?_toArray, List.getElem?_cons_succ, List.getElem?_cons_zero, Option.some.injEq] at ho
    subst ho
    have d0 := B3.out.at 0 rfl
    go_simp
    clear d0 hHeld
    refine hK.out _ _ ⟨B3.out.at 10 rfl, X3.out.at 0 rfl, X3.out.at 1 rfl, X3.out.at 2 rfl, X3.out.at 3 rfl, X3.out.at 4 rfl, X3.out.at 5 rfl, X3.out.at 6 rfl, X3.out.at 7 rfl⟩ (fun hHeld => ?_)
    clear hK K
    refine tk_call (i := 12) (by kernel_rfl) (by kernel_rfl) (fun o ho K hK => ?_)
    simp only [List.getElem?_toArray, List.getElem?_cons_succ, List.getElem?_cons_zero, Option.some.injEq] at ho
    subst ho
    go_simp
    refine INS.out.mono ?_
    rintro e w4 ⟨v', rfl, hrow, hgr, hvb0⟩
    obtain ⟨a', c', hv', -⟩ := row_form hrow
    have G4 := Lib.hid (grown_trans2 G3.out hgr)
    have hUne : (Value.slice av M.length cv).ownBlock ≠ some U := fun e => HU.out.ow.1.2 U e (by simp)
    have B4 := Lib.hid (HU.out.bx.same (G4.out.block U hlt (fun e => hUne e.symm)))
    have X4 := Lib.hid (X3.out.same (hgr.block w.heap.size (by have := S3.out; omega) (fun e => by have := (HU.out.ow.1.1.lt _ e.symm).2; omega)))
    have HROW := Lib.hid hrow
    have HVB := Lib.hid hvb0
    clear hrow hgr hvb0 hUne
    go_simp
    clear hHeld
    refine hK.out _ _ ⟨B4.out.at 10 rfl, X4.out.at 0 rfl, X4.out.at 1 rfl, X4.out.at 2 rfl, X4.out.at 3 rfl, X4.out.at 4 rfl, X4.out.at 5 rfl, X4.out.at 6 rfl, X4.out.at 7 rfl⟩ (fun hHeld => ?_)
    clear hK K
    refine tk_start [(13, some 18), (14, some 19), (15, some 20)] ?_
    iterate 3
     refine tk_step (v := ?_) (by kernel_rfl) (by kernel_rfl) (fun _ _ _ h => h) (by assumption) (fun o ho w' hSw => ?_) ?_
     rotate_left
     ·simp only [List.getElem?_toArray, List.getElem?_cons_succ, List.getElem?_cons_zero, Option.some.injEq] at ho; subst ho; (try dsimp only at hSw); go_simp; try with_reducible rfl
     simp only [Act.put, List.setIfInBounds_toArray, List.set_cons_zero, List.set_cons_succ]
    refine tk_end ?_
    refine tk_call (i := 16) (by kernel_rfl) (by kernel_rfl) (fun o ho K hK => ?_)
    simp only [List.getElem?_toArray, List.getElem?_cons_succ, List.getElem?_cons_zero, Option.some.injEq] at ho
    subst ho
    subst hv'
    have d0 := B4.out.at 0 rfl
    have f0 := B4.out.fz 0 (by simp)
    go_simp
    clear d0 f0
    have hvb : ∀ g, (Value.slice a' NL.length c').ownBlock = some g → (Value.slice av M.length cv).ownBlock = some g ∨ w.heap.size ≤ g := fun g hg => by
     rcases HVB.out g hg with h | h
     ·exact .inl h
     ·right; have := S3.out; omega
    have hnU : (Value.slice a' NL.length c').ownBlock ≠ some U := fun e => by
     rcases hvb U e with h | h
     ·exact HU.out.ow.1.2 U h (by simp)
     ·omega
    have B5 := Lib.hid (B4.out.set 0 (by simp) (.slice a' NL.length c'))
    have MV := Lib.hid (mv_step HU.out.ow hlt HU.out.le G4.out HROW.out hvb hnU _ rfl)
    have X5 := Lib.hid (X4.out.other (g := U) (o := 0) (by omega) (.slice a' NL.length c'))
    clear hHeld
    refine hK.out _ _ ⟨B5.out.at 10 rfl, X5.out.at 0 rfl, X5.out.at 1 rfl, X5.out.at 2 rfl, X5.out.at 3 rfl, X5.out.at 4 rfl, X5.out.at 5 rfl, X5.out.at 6 rfl, X5.out.at 7 rfl⟩ (fun hHeld => ?_)
    clear hK K
    refine wpAnyH_done (by kernel_rfl) ?_ _
    clear hHeld
    go_wp2_with fail
    go_ret
    have hmem : ∀ ad, OwX w0 ad 9 1 (gvI x) x.1.g.length (strV x.1.g) w → ∀ q ∈ NL, q ∈ M ∨ OwX w0 ad 9 1 (gvI q) q.1.g.length (strV q.1.g) w := fun ad h q hq => by
     rw [← HNL.out] at hq
     rcases List.mem_append.1 hq with h1 | h1
     ·exact .inl (List.mem_of_mem_take h1)
     ·rcases List.mem_cons.1 h1 with h1 | h1
      ·rw [h1]; exact .inr h
      ·exact .inl (List.mem_of_mem_drop h1)
    have hfin : ∀ ad, U ∈ ad → (∀ a ∈ ad, a < w.heap.size) → OwnX w0 ad (.slice av M.length cv) M w → OwX w0 ad 9 1 (gvI x) x.1.g.length (strV x.1.g) w → OwnX w0 ad (.slice a' NL.length c') NL _ := fun ad hm ha ho hxx => MV.out.2 ad hm ho (hmem ad hxx) ha
    refine .inr ⟨by first | rfl | trivial, rfl, _, MV.out.1, ⟨B5.out, hfin [U] (by simp) (fun a ha => by rw [List.mem_singleton.1 ha]; exact hlt) HU.out.ow HX.out, HU.out.le⟩, hfin⟩
   exact AllReadyH.nil
  ·rw [decide_eq_false h16]
   have wl : (16 : Int) ≤ (M.length : Int) := by omega
   go_enter Tryz.func52, Tryz.ntmps52
   go_wp2_with fail
   rw [HW.out]
   go_ret
   exact .inl ⟨by first | rfl | trivial, rfl, AL.out⟩
end Go.Proofs.YtfonkblbgadhmaaGreatDoor
