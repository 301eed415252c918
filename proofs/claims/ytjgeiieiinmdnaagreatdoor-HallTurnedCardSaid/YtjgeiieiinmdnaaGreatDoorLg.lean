/- HaL, HaQ: put together by mergetpl.py. -/
import Derived.Test.YtjgeiieiinmdnaaGreatDoorLd
import Derived.Test.YtjgeiieiinmdnaaGreatDoorLc
import Derived.Test.YtjgeiieiinmdnaaGreatDoorLe
namespace Go.Proofs.YtjgeiieiinmdnaaGreatDoor
open Go.RowKit Go.Lib

section
variable {α : Type} {Y : Ly α} {w0 w w' : World} {bs : Bs} {ad : List Nat} {v : Value} {M Nn : List α} {k : Nat}
/-- .. the elements' memory being none of the row's. -/
def Ow2 (Y : Ly α) (S : Nat → Prop) (v : Value) (M : List α) (w : World) : Prop := OwS S Y.e Y.n v M.length (Y.fl M) w ∧ ∀ x ∈ M, Y.own (fun g => S g ∧ v.ownBlock ≠ some g) x w
theorem Ow2.own {S : Nat → Prop} (h : Ow2 Y S v M w) : OwL Y S v M w := ⟨h.1, fun x hx => Y.ownMono _ _ _ _ (h.2 x hx) fun _ _ hg => hg.1⟩
theorem Ow2.ret {S : Nat → Prop} (h : Ow2 Y S v M w) (hb : Below w.heap.size w w') : Ow2 Y S v M w' := ⟨h.1.ret hb, fun x hx => Y.ownRet _ _ _ _ (h.2 x hx) hb⟩
theorem Ow2.mono {S S' : Nat → Prop} (h : Ow2 Y S v M w) (hs : ∀ g, g < w.heap.size → S g → S' g) : Ow2 Y S' v M w := ⟨h.1.mono hs, fun x hx => Y.ownMono _ _ _ _ (h.2 x hx) fun g hl hg => ⟨hs g hl hg.1, hg.2⟩⟩
theorem Ow2.keep {S : Nat → Prop} (h : Ow2 Y S v M w) (hk : ∀ k, S k → w'.heap[k]? = w.heap[k]?) : Ow2 Y S v M w' := ⟨h.1.keep hk, fun x hx => Y.ownKeep _ _ _ _ (h.2 x hx) fun k hk' => hk k hk'.1⟩
theorem TL.done2 (h : TL Y w0 ad v M Nn M.length w) : Ow2 Y (Xd w0 ad) v Nn w := by
 have hr := h.row
 rw [List.drop_length, List.append_nil] at hr
 exact ⟨by rw [h.len]; exact hr, fun x hx => Y.ownMono _ _ _ _ (h.own x hx) fun g _ hg => ⟨⟨hg.1, hg.2.1⟩, hg.2.2⟩⟩
theorem TL.ofX {ad' : List Nat} (h : OwX w0 ad Y.e Y.n v M.length (Y.fl M) w) (hd : ∀ g, v.ownBlock = some g → g ∉ ad') : TL Y w0 (ad ++ ad') v M [] 0 w :=
 TL.start ⟨h.1.mono (Nat.zero_le _), fun g hg => ⟨(h.1.lt g hg).1, fun hm => by
  rcases List.mem_append.1 hm with hm | hm
  ·exact h.2 g hg hm
  ·exact hd g hg hm⟩⟩
/-- a list of the call's own, outside these. -/
def OwY (Y : Ly α) (w0 : World) (ad : List Nat) (v : Value) (M : List α) (w : World) : Prop := Ow2 Y (Xd w0 ad) v M w
theorem OwY.ret (h : OwY Y w0 ad v M w) (hb : Below w.heap.size w w') : OwY Y w0 ad v M w' := Ow2.ret h hb
theorem OwY.sets (h : OwY Y w0 ad v M w) (k : Nat) {A o : Nat} {vs : List Value} (hk : ad[k]? = some A) (e' : w.setCells A o vs = w') : OwY Y w0 ad v M w' := by
 subst e'
 exact Ow2.keep h fun g hg => heap_sets vs w A o g fun e => hg.2 (by rw [e]; exact List.mem_of_getElem? hk)
theorem OwY.far (h : OwY Y w0 ad v M w) {g o : Nat} {vs : List Value} (hg : g ∈ ad) (e' : w.setCells g o vs = w') : OwY Y w0 ad v M w' := by
 subst e'
 exact Ow2.keep h fun j hj => heap_sets vs w g o j fun e => hj.2 (by rw [e]; exact hg)
theorem OwY.alloc (h : OwY Y w0 ad v M w) (A : Nat) (hA : w.heap.size = A) (hb : Below w.heap.size w w') : OwY Y w0 (ad ++ [A]) v M w' := by
 refine Ow2.ret (Ow2.mono h fun g hl hg => ⟨hg.1, fun hm => ?_⟩) hb
 rcases List.mem_append.1 hm with hm | hm
 ·exact hg.2 hm
 ·have := List.mem_singleton.1 hm
  omega
theorem OwY.sub {ad' : List Nat} (h : OwY Y w0 ad v M w) (hs : ∀ a ∈ ad', a ∈ ad) : OwY Y w0 ad' v M w := Ow2.mono h fun _ _ hg => ⟨hg.1, fun hm => hg.2 (hs _ hm)⟩
end
theorem OwX.far {w0 w w' : World} {ad : List Nat} {e : TypeId} {size n : Nat} {v : Value} {xs : List Value} (h : OwX w0 ad e size v n xs w) {g o : Nat} {vs : List Value} (hn : v.ownBlock ≠ some g) (e' : w.setCells g o vs = w') : OwX w0 ad e size v n xs w' := by
 subst e'
 exact ⟨own_sets vs h.1 hn o, h.2⟩
/-- a block, if there is one. -/
def obL (v : Value) : List Nat := v.ownBlock.toList
theorem mem_obL {v : Value} {g : Nat} (h : v.ownBlock = some g) : g ∈ obL v := by unfold obL; rw [h]; simp
theorem obL_mem {v : Value} {g : Nat} (h : g ∈ obL v) : v.ownBlock = some g := by unfold obL at h; simpa using h
theorem own_apartS {w : World} {B C n m size size' : Nat} {e e' : TypeId} {u v : Value} {xs ys : List Value} (h1 : w.ownsRow B e size u n xs) (h2 : w.ownsRow C e' size' v m ys) (he : e ≠ e') : ∀ g, u.ownBlock = some g → g ∉ obL v := fun g hg hm => by
 have hv := obL_mem hm
 rcases h1.2 with ⟨rfl, _⟩ | ⟨g1, cap1, cur1, rfl, _⟩
 ·cases hg
 ·cases hg
  exact rows_apart h1 h2 he hv
/-- what a core's like is made of. -/
def CoI.own2 (S : Nat → Prop) (c : CoI) (w : World) : Prop := Ow2 acY (fun g => S g ∧ c.rv.ownBlock ≠ some g) c.av c.A w ∧ Ow2 rsY S c.rv c.R w
def TwC (w : World) (d : Co) (e : Ending) (w' : World) : Prop := ∃ c : CoI, e = .returned c.v ∧ c.d = d ∧ c.own2 (fun g => w.heap.size ≤ g) w' ∧ Below w.heap.size w w'
theorem ret_co1 {fn : Func} {tmps : Array Value} {W : World} {R p : Nat} {v0 v1 v2 : Value} (h : fn.results = #[.cell p 25]) (h2 : tmps.getD p undef = .pointer (some ⟨R, 0, none⟩)) (k : Bx R [v0, v1, v2] W) :
  (results fn tmps).run Tryz.prog W = .ok (.agg #[v0, v1, v2]) W := by
 have c0 := k.at 0 rfl
 have c1 := k.at 1 rfl
 have c2 := k.at 2 rfl
 rw [results_cell1 h, h2]
 simp [go_sem, Result.andThen, c0, c1, c2]
set_option maxHeartbeats 16000000 in
set_option maxRecDepth 100000 in
theorem ha_Twin (c : CoI) (w : World) (hs : c.sub w) (zA : c.A.length ≤ 1000) (zR : c.R.length ≤ 1000) (hac : ∀ a ∈ c.A, SmallI a.it) (hrs : ∀ r ∈ c.R, TwFit r) : Calls Tryz.prog 17 #[c.v] w (TwC w c.d) := by
 obtain ⟨A, ⟨aa, ac⟩, R, ⟨ra, rc⟩, m⟩ := c
 obtain ⟨hA, hR⟩ := hs
 simp only at zA zR hac hrs
 have hA : IsL acY (.slice aa A.length ac) A w := hA
 have hR : IsL rsY (.slice ra R.length rc) R w := hR
 show Calls Tryz.prog 17 #[.agg #[.slice aa A.length ac, .slice ra R.length rc, .int .i64 m]] w (TwC w (A.map AcI.d, R.map RsI.d, m))
 have CA := Lib.hid fun (W : World) (hb : Below w.heap.size w W) => sl_Clone_ac (.slice aa A.length ac) A W (hA.ret hb) (by omega)
 have CR := Lib.hid fun (W : World) (hb : Below w.heap.size w W) => sl_Clone_rs (.slice ra R.length rc) R W (hR.ret hb) (by omega)
 have SA := Lib.hid fun x hx => hA.2.2 x hx
 have SR := Lib.hid fun x hx => hR.2.2 x hx
 have FA := Lib.hid hac
 have FR := Lib.hid hrs
 obtain ⟨LA, hLA⟩ : ∃ LA, A.length = LA := ⟨_, rfl⟩
 obtain ⟨LR, hLR⟩ : ∃ LR, R.length = LR := ⟨_, rfl⟩
 rw [hLA] at CA zA ⊢
 rw [hLR] at CR zR ⊢
 have HA := Lib.hid hLA
 have HR := Lib.hid hLR
 clear hA hR hac hrs hLA hLR
 obtain ⟨W0, hW, y0, bs⟩ := Sx.start2 w [.slice aa LA ac, .slice ra LR rc, .int .i64 m] 25 [.slice none 0 0, .slice none 0 0, .int .i64 0] 25
 have HW := Lib.hid hW
 clear hW
 have q := bs.q
 go_enter Tryz.func17, Tryz.ntmps17
 go_wp2_with fail
 rw [HW.out]
 go_cut [2] (fun s2 wx => s2 = .pointer (some ⟨w.heap.size + 1, 0, none⟩) ∧ ∃ (a1 : Option Addr) (c1 : Nat) (a2 : Option Addr) (c2 : Nat), Sx w [(w.heap.size, [.slice a1 LA c1, .slice a2 LR c2, .int .i64 m]), (w.heap.size + 1, [.slice none 0 0, .slice none 0 0, .int .i64 0])] wx ∧ OwX w [w.heap.size, w.heap.size + 1] 33 3 (.slice a1 LA c1) LA (acY.fl A) wx ∧ OwX w [w.heap.size, w.heap.size + 1] 38 6 (.slice a2 LR c2) LR (rsY.fl R) wx)
 case first =>
  replace bs := bs.ret (Below.drew (Below.refl _ _))
  replace q := bs.q
  have y1 : W0.drew.heap.size = W0.heap.size := rfl
  refine wp_region_held_drew (S := fun w' => w'.cell? ⟨w.heap.size, 2, none⟩ = some (.int .i64 m)) (by kernel_rfl) (bs.at 0 2 rfl rfl) (fun hHeld => ?_)
  generalize W0.drew = w1 at bs q y1 hHeld ⊢
  refine tk_start [(0, some 7), (3, some 10)] ?_
  iterate 2
   refine tk_step (v := ?_) (by kernel_rfl) (by kernel_rfl) (fun _ _ _ h => h) (by assumption) (fun o ho w' hSw => ?_) ?_
   rotate_left
   ·simp only [List.getElem?_toArray, List.getElem?_cons_succ, List.getElem?_cons_zero, Option.some.injEq] at ho; subst ho; (try dsimp only at hSw); go_simp; try with_reducible rfl
   simp only [Act.put, List.setIfInBounds_toArray, List.set_cons_zero, List.set_cons_succ]
  refine tk_end ?_
  refine wpAnyH_ready (rs := [1, 4]) (by kernel_rfl) (by simp) ?_
  refine tk_cons (by kernel_rfl) (fun o ho K hK => ?_) ?_
  ·simp only [List.getElem?_toArray, List.getElem?_cons_succ, List.getElem?_cons_zero, Option.some.injEq] at ho
   subst ho
   have c_c0 := bs.at 0 0 rfl rfl
   have c_c1 := bs.at 0 1 rfl rfl
   have c_c2 := bs.at 0 2 rfl rfl
   go_simp
   clear c_c0 c_c1 c_c2
   clear hHeld
   refine hK.out _ _ (bs.at 0 2 rfl rfl) (fun hHeld => ?_)
   clear hK K
   refine wpAnyH_ready (rs := [2, 4]) (by kernel_rfl) (by simp) ?_
   refine tk_cons (by kernel_rfl) (fun o ho K hK => ?_) ?_
   ·simp only [List.getElem?_toArray, List.getElem?_cons_succ, List.getElem?_cons_zero, Option.some.injEq] at ho
    subst ho
    go_simp
    refine (CA.out w1 q).mono ?_
    rintro e w2 ⟨a1, c1, rfl, hown, hb⟩
    have o_a := OwX.mk' bs hown
    replace bs := bs.ret hb
    replace q := bs.q
    clear hb
    rw [HA.out] at o_a ⊢
    go_simp
    clear hHeld
    refine hK.out _ _ (bs.at 0 2 rfl rfl) (fun hHeld => ?_)
    clear hK K
    refine tk_call (i := 4) (by kernel_rfl) (by kernel_rfl) (fun o ho K hK => ?_)
    simp only [List.getElem?_toArray, List.getElem?_cons_succ, List.getElem?_cons_zero, Option.some.injEq] at ho
    subst ho
    have c_c0 := bs.at 0 0 rfl rfl
    have c_c1 := bs.at 0 1 rfl rfl
    have c_c2 := bs.at 0 2 rfl rfl
    go_simp
    clear c_c0 c_c1 c_c2
    clear hHeld
    refine hK.out _ _ (bs.at 0 2 rfl rfl) (fun hHeld => ?_)
    clear hK K
    refine tk_on (i := 6) (some 13) (v := ?_) (by kernel_rfl) (by kernel_rfl) (by kernel_rfl) (by kernel_rfl) (fun _ _ _ h => h) (by assumption) (fun o ho w' hSw => ?_) ?_
    rotate_left
    ·(simp only [List.getElem?_toArray, List.getElem?_cons_succ, List.getElem?_cons_zero, Option.some.injEq] at ho; subst ho; (try dsimp only at hSw); go_simp; try with_reducible rfl)
    simp only [Act.put, List.setIfInBounds_toArray, List.set_cons_zero, List.set_cons_succ]
    refine tk_call (i := 5) (by kernel_rfl) (by kernel_rfl) (fun o ho K hK => ?_)
    simp only [List.getElem?_toArray, List.getElem?_cons_succ, List.getElem?_cons_zero, Option.some.injEq] at ho
    subst ho
    go_simp
    refine (CR.out w2 q).mono ?_
    rintro e w3 ⟨a2, c2, rfl, hown2, hb⟩
    have o_r := OwX.mk' bs hown2
    replace o_a := o_a.ret hb
    replace bs := bs.ret hb
    replace q := bs.q
    clear hb
    rw [HR.out] at o_r ⊢
    go_simp
    clear hHeld
    refine hK.out _ _ (bs.at 0 2 rfl rfl) (fun hHeld => ?_)
    clear hK K
    refine tk_call (i := 7) (by kernel_rfl) (by kernel_rfl) (fun o ho K hK => ?_)
    simp only [List.getElem?_toArray, List.getElem?_cons_succ, List.getElem?_cons_zero, Option.some.injEq] at ho
    subst ho
    have c_c0 := bs.at 0 0 rfl rfl
    have f_c0 := bs.fz 0 0 rfl rfl
    have c_c1 := bs.at 0 1 rfl rfl
    have f_c1 := bs.fz 0 1 rfl rfl
    have c_c2 := bs.at 0 2 rfl rfl
    have f_c2 := bs.fz 0 2 rfl rfl
    go_simp
    clear c_c0 f_c0 c_c1 f_c1 c_c2 f_c2
    obtain ⟨w4, hw4, y4, bs⟩ := bs.sets 0 0 [.slice a1 LA c1] rfl (Nat.le_of_ble_eq_true rfl)
    replace o_a := o_a.sets 0 rfl hw4
    replace o_r := o_r.sets 0 rfl hw4
    replace q := bs.q
    simp only [World.setCells] at hw4
    rw [hw4]
    clear hHeld
    refine hK.out _ _ (bs.at 0 2 rfl rfl) (fun hHeld => ?_)
    clear hK K
    refine tk_on (i := 8) (some 14) (v := ?_) (by kernel_rfl) (by kernel_rfl) (by kernel_rfl) (by kernel_rfl) (fun _ _ _ h => h) (by assumption) (fun o ho w' hSw => ?_) ?_
    rotate_left
    ·(simp only [List.getElem?_toArray, List.getElem?_cons_succ, List.getElem?_cons_zero, Option.some.injEq] at ho; subst ho; (try dsimp only at hSw); go_simp; try with_reducible rfl)
    simp only [Act.put, List.setIfInBounds_toArray, List.set_cons_zero, List.set_cons_succ]
    refine tk_call (i := 9) (by kernel_rfl) (by kernel_rfl) (fun o ho K hK => ?_)
    simp only [List.getElem?_toArray, List.getElem?_cons_succ, List.getElem?_cons_zero, Option.some.injEq] at ho
    subst ho
    have c_c0 := bs.at 0 0 rfl rfl
    have f_c0 := bs.fz 0 0 rfl rfl
    have c_c1 := bs.at 0 1 rfl rfl
    have f_c1 := bs.fz 0 1 rfl rfl
    have c_c2 := bs.at 0 2 rfl rfl
    have f_c2 := bs.fz 0 2 rfl rfl
    go_simp
    clear c_c0 f_c0 c_c1 f_c1 c_c2 f_c2
    obtain ⟨w5, hw5, y5, bs⟩ := bs.sets 0 1 [.slice a2 LR c2] rfl (Nat.le_of_ble_eq_true rfl)
    replace o_a := o_a.sets 0 rfl hw5
    replace o_r := o_r.sets 0 rfl hw5
    replace q := bs.q
    simp only [World.setCells] at hw5
    rw [hw5]
    clear hHeld
    refine hK.out _ _ (bs.at 0 2 rfl rfl) (fun hHeld => ?_)
    clear hK K
    refine wpAnyH_done (by kernel_rfl) ?_ _
    clear hHeld
    go_wp2_with fail
    go_meet
    exact ⟨rfl, a1, c1, a2, c2, bs, o_a, o_r⟩
   refine tk_cons (by kernel_rfl) (fun o ho K hK => ?_) ?_
   ·simp only [List.getElem?_toArray, List.getElem?_cons_succ, List.getElem?_cons_zero, Option.some.injEq] at ho
    subst ho
    have c_c0 := bs.at 0 0 rfl rfl
    have c_c1 := bs.at 0 1 rfl rfl
    have c_c2 := bs.at 0 2 rfl rfl
    go_simp
    clear c_c0 c_c1 c_c2
    clear hHeld
    refine hK.out _ _ (bs.at 0 2 rfl rfl) (fun hHeld => ?_)
    clear hK K
    refine tk_call (i := 2) (by kernel_rfl) (by kernel_rfl) (fun o ho K hK => ?_)
    simp only [List.getElem?_toArray, List.getElem?_cons_succ, List.getElem?_cons_zero, Option.some.injEq] at ho
    subst ho
    go_simp
    refine (CA.out w1 q).mono ?_
    rintro e w2 ⟨a1, c1, rfl, hown, hb⟩
    have o_a := OwX.mk' bs hown
    replace bs := bs.ret hb
    replace q := bs.q
    clear hb
    rw [HA.out] at o_a ⊢
    go_simp
    clear hHeld
    refine hK.out _ _ (bs.at 0 2 rfl rfl) (fun hHeld => ?_)
    clear hK K
    refine tk_on (i := 6) (some 13) (v := ?_) (by kernel_rfl) (by kernel_rfl) (by kernel_rfl) (by kernel_rfl) (fun _ _ _ h => h) (by assumption) (fun o ho w' hSw => ?_) ?_
    rotate_left
    ·(simp only [List.getElem?_toArray, List.getElem?_cons_succ, List.getElem?_cons_zero, Option.some.injEq] at ho; subst ho; (try dsimp only at hSw); go_simp; try with_reducible rfl)
    simp only [Act.put, List.setIfInBounds_toArray, List.set_cons_zero, List.set_cons_succ]
    refine tk_call (i := 5) (by kernel_rfl) (by kernel_rfl) (fun o ho K hK => ?_)
    simp only [List.getElem?_toArray, List.getElem?_cons_succ, List.getElem?_cons_zero, Option.some.injEq] at ho
    subst ho
    go_simp
    refine (CR.out w2 q).mono ?_
    rintro e w3 ⟨a2, c2, rfl, hown2, hb⟩
    have o_r := OwX.mk' bs hown2
    replace o_a := o_a.ret hb
    replace bs := bs.ret hb
    replace q := bs.q
    clear hb
    rw [HR.out] at o_r ⊢
    go_simp
    clear hHeld
    refine hK.out _ _ (bs.at 0 2 rfl rfl) (fun hHeld => ?_)
    clear hK K
    refine tk_call (i := 7) (by kernel_rfl) (by kernel_rfl) (fun o ho K hK => ?_)
    simp only [List.getElem?_toArray, List.getElem?_cons_succ, List.getElem?_cons_zero, Option.some.injEq] at ho
    subst ho
    have c_c0 := bs.at 0 0 rfl rfl
    have f_c0 := bs.fz 0 0 rfl rfl
    have c_c1 := bs.at 0 1 rfl rfl
    have f_c1 := bs.fz 0 1 rfl rfl
    have c_c2 := bs.at 0 2 rfl rfl
    have f_c2 := bs.fz 0 2 rfl rfl
    go_simp
    clear c_c0 f_c0 c_c1 f_c1 c_c2 f_c2
    obtain ⟨w4, hw4, y4, bs⟩ := bs.sets 0 0 [.slice a1 LA c1] rfl (Nat.le_of_ble_eq_true rfl)
    replace o_a := o_a.sets 0 rfl hw4
    replace o_r := o_r.sets 0 rfl hw4
    replace q := bs.q
    simp only [World.setCells] at hw4
    rw [hw4]
    clear hHeld
    refine hK.out _ _ (bs.at 0 2 rfl rfl) (fun hHeld => ?_)
    clear hK K
    refine tk_on (i := 8) (some 14) (v := ?_) (by kernel_rfl) (by kernel_rfl) (by kernel_rfl) (by kernel_rfl) (fun _ _ _ h => h) (by assumption) (fun o ho w' hSw => ?_) ?_
    rotate_left
    ·(simp only [List.getElem?_toArray, List.getElem?_cons_succ, List.getElem?_cons_zero, Option.some.injEq] at ho; subst ho; (try dsimp only at hSw); go_simp; try with_reducible rfl)
    simp only [Act.put, List.setIfInBounds_toArray, List.set_cons_zero, List.set_cons_succ]
    refine tk_call (i := 9) (by kernel_rfl) (by kernel_rfl) (fun o ho K hK => ?_)
    simp only [List.getElem?_toArray, List.getElem?_cons_succ, List.getElem?_cons_zero, Option.some.injEq] at ho
    subst ho
    have c_c0 := bs.at 0 0 rfl rfl
    have f_c0 := bs.fz 0 0 rfl rfl
    have c_c1 := bs.at 0 1 rfl rfl
    have f_c1 := bs.fz 0 1 rfl rfl
    have c_c2 := bs.at 0 2 rfl rfl
    have f_c2 := bs.fz 0 2 rfl rfl
    go_simp
    clear c_c0 f_c0 c_c1 f_c1 c_c2 f_c2
    obtain ⟨w5, hw5, y5, bs⟩ := bs.sets 0 1 [.slice a2 LR c2] rfl (Nat.le_of_ble_eq_true rfl)
    replace o_a := o_a.sets 0 rfl hw5
    replace o_r := o_r.sets 0 rfl hw5
    replace q := bs.q
    simp only [World.setCells] at hw5
    rw [hw5]
    clear hHeld
    refine hK.out _ _ (bs.at 0 2 rfl rfl) (fun hHeld => ?_)
    clear hK K
    refine wpAnyH_done (by kernel_rfl) ?_ _
    clear hHeld
    go_wp2_with fail
    go_meet
    exact ⟨rfl, a1, c1, a2, c2, bs, o_a, o_r⟩
   exact AllReadyH.nil
  refine tk_cons (by kernel_rfl) (fun o ho K hK => ?_) ?_
  ·simp only [List.getElem?_toArray, List.getElem?_cons_succ, List.getElem?_cons_zero, Option.some.injEq] at ho
   subst ho
   have c_c0 := bs.at 0 0 rfl rfl
   have c_c1 := bs.at 0 1 rfl rfl
   have c_c2 := bs.at 0 2 rfl rfl
   go_simp
   clear c_c0 c_c1 c_c2
   clear hHeld
   refine hK.out _ _ (bs.at 0 2 rfl rfl) (fun hHeld => ?_)
   clear hK K
   refine tk_call (i := 1) (by kernel_rfl) (by kernel_rfl) (fun o ho K hK => ?_)
   simp only [List.getElem?_toArray, List.getElem?_cons_succ, List.getElem?_cons_zero, Option.some.injEq] at ho
   subst ho
   have c_c0 := bs.at 0 0 rfl rfl
   have c_c1 := bs.at 0 1 rfl rfl
   have c_c2 := bs.at 0 2 rfl rfl
   go_simp
   clear c_c0 c_c1 c_c2
   clear hHeld
   refine hK.out _ _ (bs.at 0 2 rfl rfl) (fun hHeld => ?_)
   clear hK K
   refine tk_call (i := 2) (by kernel_rfl) (by kernel_rfl) (fun o ho K hK => ?_)
   simp only [List.getElem?_toArray, List.getElem?_cons_succ, List.getElem?_cons_zero, Option.some.injEq] at ho
   subst ho
   go_simp
   refine (CA.out w1 q).mono ?_
   rintro e w2 ⟨a1, c1, rfl, hown, hb⟩
   have o_a := OwX.mk' bs hown
   replace bs := bs.ret hb
   replace q := bs.q
   clear hb
   rw [HA.out] at o_a ⊢
   go_simp
   clear hHeld
   refine hK.out _ _ (bs.at 0 2 rfl rfl) (fun hHeld => ?_)
   clear hK K
   refine tk_on (i := 6) (some 13) (v := ?_) (by kernel_rfl) (by kernel_rfl) (by kernel_rfl) (by kernel_rfl) (fun _ _ _ h => h) (by assumption) (fun o ho w' hSw => ?_) ?_
   rotate_left
   ·(simp only [List.getElem?_toArray, List.getElem?_cons_succ, List.getElem?_cons_zero, Option.some.injEq] at ho; subst ho; (try dsimp only at hSw); go_simp; try with_reducible rfl)
   simp only [Act.put, List.setIfInBounds_toArray, List.set_cons_zero, List.set_cons_succ]
   refine tk_call (i := 5) (by kernel_rfl) (by kernel_rfl) (fun o ho K hK => ?_)
   simp only [List.getElem?_toArray, List.getElem?_cons_succ, List.getElem?_cons_zero, Option.some.injEq] at ho
   subst ho
   go_simp
   refine (CR.out w2 q).mono ?_
   rintro e w3 ⟨a2, c2, rfl, hown2, hb⟩
   have o_r := OwX.mk' bs hown2
   replace o_a := o_a.ret hb
   replace bs := bs.ret hb
   replace q := bs.q
   clear hb
   rw [HR.out] at o_r ⊢
   go_simp
   clear hHeld
   refine hK.out _ _ (bs.at 0 2 rfl rfl) (fun hHeld => ?_)
   clear hK K
   refine tk_call (i := 7) (by kernel_rfl) (by kernel_rfl) (fun o ho K hK => ?_)
   simp only [List.getElem?_toArray, List.getElem?_cons_succ, List.getElem?_cons_zero, Option.some.injEq] at ho
   subst ho
   have c_c0 := bs.at 0 0 rfl rfl
   have f_c0 := bs.fz 0 0 rfl rfl
   have c_c1 := bs.at 0 1 rfl rfl
   have f_c1 := bs.fz 0 1 rfl rfl
   have c_c2 := bs.at 0 2 rfl rfl
   have f_c2 := bs.fz 0 2 rfl rfl
   go_simp
   clear c_c0 f_c0 c_c1 f_c1 c_c2 f_c2
   obtain ⟨w4, hw4, y4, bs⟩ := bs.sets 0 0 [.slice a1 LA c1] rfl (Nat.le_of_ble_eq_true rfl)
   replace o_a := o_a.sets 0 rfl hw4
   replace o_r := o_r.sets 0 rfl hw4
   replace q := bs.q
   simp only [World.setCells] at hw4
   rw [hw4]
   clear hHeld
   refine hK.out _ _ (bs.at 0 2 rfl rfl) (fun hHeld => ?_)
   clear hK K
   refine tk_on (i := 8) (some 14) (v := ?_) (by kernel_rfl) (by kernel_rfl) (by kernel_rfl) (by kernel_rfl) (fun _ _ _ h => h) (by assumption) (fun o ho w' hSw => ?_) ?_
   rotate_left
   ·(simp only [List.getElem?_toArray, List.getElem?_cons_succ, List.getElem?_cons_zero, Option.some.injEq] at ho; subst ho; (try dsimp only at hSw); go_simp; try with_reducible rfl)
   simp only [Act.put, List.setIfInBounds_toArray, List.set_cons_zero, List.set_cons_succ]
   refine tk_call (i := 9) (by kernel_rfl) (by kernel_rfl) (fun o ho K hK => ?_)
   simp only [List.getElem?_toArray, List.getElem?_cons_succ, List.getElem?_cons_zero, Option.some.injEq] at ho
   subst ho
   have c_c0 := bs.at 0 0 rfl rfl
   have f_c0 := bs.fz 0 0 rfl rfl
   have c_c1 := bs.at 0 1 rfl rfl
   have f_c1 := bs.fz 0 1 rfl rfl
   have c_c2 := bs.at 0 2 rfl rfl
   have f_c2 := bs.fz 0 2 rfl rfl
   go_simp
   clear c_c0 f_c0 c_c1 f_c1 c_c2 f_c2
   obtain ⟨w5, hw5, y5, bs⟩ := bs.sets 0 1 [.slice a2 LR c2] rfl (Nat.le_of_ble_eq_true rfl)
   replace o_a := o_a.sets 0 rfl hw5
   replace o_r := o_r.sets 0 rfl hw5
   replace q := bs.q
   simp only [World.setCells] at hw5
   rw [hw5]
   clear hHeld
   refine hK.out _ _ (bs.at 0 2 rfl rfl) (fun hHeld => ?_)
   clear hK K
   refine wpAnyH_done (by kernel_rfl) ?_ _
   clear hHeld
   go_wp2_with fail
   go_meet
   exact ⟨rfl, a1, c1, a2, c2, bs, o_a, o_r⟩
  exact AllReadyH.nil
 case rest =>
  obtain ⟨rfl, a1, c1, a2, c2, bs1, o_a, o_r⟩ := hcut
  clear bs q
  have bs := bs1
  clear bs1
  have q := bs.q
  have tl := TL.ofX (Y := acY) (ad' := obL (.slice a2 LR c2)) (by rw [HA.out]; exact o_a) (own_apartS o_a.1 o_r.1 (by decide))
  clear o_a
  have c_c0 := bs.at 0 0 rfl rfl
  have c_c1 := bs.at 0 1 rfl rfl
  have c_c2 := bs.at 0 2 rfl rfl
  go_wp2_with fail
  clear c_c0 c_c1 c_c2
  go_loopw [18] (fun i wx => ∃ (k : Nat) (Nn : List AcI), i = .int .i64 k ∧ k ≤ LA ∧ TL acY w ([w.heap.size, w.heap.size + 1] ++ obL (.slice a2 LR c2)) (.slice a1 LA c1) A Nn k wx ∧ Nn.map AcI.d = (A.map AcI.d).take k ∧ OwX w [w.heap.size, w.heap.size + 1] 38 6 (.slice a2 LR c2) LR (rsY.fl R) wx ∧ Sx w [(w.heap.size, [.slice a1 LA c1, .slice a2 LR c2, .int .i64 m]), (w.heap.size + 1, [.slice none 0 0, .slice none 0 0, .int .i64 0])] wx) (fun i _ => LA - (intOf i).toNat)
  case atStart => exact ⟨0, [], rfl, Nat.zero_le _, tl, rfl, o_r, bs⟩
  case round =>
   clear tl bs q o_r
   obtain ⟨k, Nn, rfl, hk, tl, hNn, o_r, bs⟩ := hrel
   have q := bs.q
   by_cases hlt : k < LA
   ·have hkM : k < A.length := by rw [HA.out]; exact hlt
    obtain ⟨p, hp⟩ : ∃ p, A[k] = p := ⟨_, rfl⟩
    have hkp : A[k]? = some p := by rw [List.getElem?_eq_getElem hkM, hp]
    have hpm : p ∈ A := by rw [← hp]; exact List.getElem_mem hkM
    obtain ⟨g, c0, hv, hg0, hgn, hgl, -⟩ := tl.form hkM
    rw [HA.out] at hv
    simp only [Value.slice.injEq, true_and] at hv
    obtain ⟨rfl, rfl⟩ := hv
    have hV : Value.slice (some ⟨g, 0, none⟩) LA c1 = .slice (some ⟨g, 0, none⟩) A.length c1 := by rw [HA.out]
    have HV := Lib.hid hV
    have HK := Lib.hid hkp
    have HN := Lib.hid hNn
    have GN := Lib.hid hgn
    have CT := Lib.hid fun (W : World) (hb : Below w.heap.size w W) => ro_Twin p.iv p.ver p.it W (IsItems.ret (SA.out p hpm) hb) (FA.out p hpm).1 (fun q hq => ((FA.out p hpm).2 q hq).2.2.1)
    have hnr : (Value.slice a2 LR c2).ownBlock ≠ some g := fun e => GN.out (List.mem_append_right _ (mem_obL e))
    clear hp hkp hpm hkM hV hNn hgn
    have i0 : wr.cell? ⟨g, k * 3, none⟩ = some (.string ⟨p.j.toArray⟩) := (tl.cell HV.out HK.out 0 rfl).1
    have i1 : wr.cell? ⟨g, k * 3 + 1, none⟩ = some (p.iv) := (tl.cell HV.out HK.out 1 rfl).1
    have i2 : wr.cell? ⟨g, k * 3 + 2, none⟩ = some (.int .i64 p.ver) := (tl.cell HV.out HK.out 2 rfl).1
    have o_t := tl
    clear tl
    have c_c0 := bs.at 0 0 rfl rfl
    have c_c1 := bs.at 0 1 rfl rfl
    have c_c2 := bs.at 0 2 rfl rfl
    have d0 := (bs.lit (wr.heap.size) rfl [.string ⟨p.j.toArray⟩, p.iv, .int .i64 p.ver] 33)
    have c0_n00 := d0.at 2 0 rfl rfl
    have c0_n01 := d0.at 2 1 rfl rfl
    have c0_n02 := d0.at 2 2 rfl rfl
    have c0_c0 := d0.at 0 0 rfl rfl
    have c0_c1 := d0.at 0 1 rfl rfl
    have c0_c2 := d0.at 0 2 rfl rfl
    go_wp2_with fail
    clear c_c0 c_c1 c_c2 d0 c0_n00 c0_n01 c0_n02 c0_c0 c0_c1 c0_c2
    clear i0 i1 i2
    obtain ⟨w101, hw101, y101, al, bs⟩ := bs.alloc (wr.heap.size) rfl [.string ⟨p.j.toArray⟩, p.iv, .int .i64 p.ver] 33
    replace o_t := o_t.alloc (wr.heap.size) rfl al
    replace o_r := o_r.alloc (wr.heap.size) rfl al
    clear al
    replace q := bs.q
    rw [hw101]
    replace o_t := o_t.ret (Below.drew (Below.refl _ _))
    replace o_r := o_r.ret (Below.drew (Below.refl _ _))
    replace bs := bs.ret (Below.drew (Below.refl _ _))
    replace q := bs.q
    have y102 : w101.drew.heap.size = w101.heap.size := rfl
    refine wp_region_held_drew (S := fun w' => w'.cell? ⟨w.heap.size, 0, none⟩ = some (.slice (some ⟨g, 0, none⟩) LA c1) ∧ w'.cell? ⟨wr.heap.size, 0, none⟩ = some (.string ⟨p.j.toArray⟩) ∧ w'.cell? ⟨wr.heap.size, 1, none⟩ = some (p.iv) ∧ w'.cell? ⟨wr.heap.size, 2, none⟩ = some (.int .i64 p.ver)) (by kernel_rfl) ⟨bs.at 0 0 rfl rfl, bs.at 2 0 rfl rfl, bs.at 2 1 rfl rfl, bs.at 2 2 rfl rfl⟩ (fun hHeld => ?_)
    generalize w101.drew = w102 at bs o_t o_r q y102 hHeld ⊢
    refine tk_start [(0, some 23), (1, some 24), (2, some 25), (3, some 26), (4, some 27)] ?_
    iterate 5
     refine tk_step (v := ?_) (by kernel_rfl) (by kernel_rfl) (fun _ _ _ h => h) (by assumption) (fun o ho w' hSw => ?_) ?_
     rotate_left
     ·simp only [List.getElem?_toArray, List.getElem?_cons_succ, List.getElem?_cons_zero, Option.some.injEq] at ho; subst ho; (try dsimp only at hSw); go_simp; try with_reducible rfl
     simp only [Act.put, List.setIfInBounds_toArray, List.set_cons_zero, List.set_cons_succ]
    refine tk_end ?_
    refine tk_call (i := 5) (by kernel_rfl) (by kernel_rfl) (fun o ho K hK => ?_)
    simp only [List.getElem?_toArray, List.getElem?_cons_succ, List.getElem?_cons_zero, Option.some.injEq] at ho
    subst ho
    go_simp
    have hsz : ∀ a ∈ ([w.heap.size, w.heap.size + 1] ++ obL (.slice a2 LR c2)) ++ [wr.heap.size], a < w102.heap.size := fun a ha => by
     rcases List.mem_append.1 ha with ha | ha
     ·rcases List.mem_append.1 ha with ha | ha
      ·have h1 := bs.lt _ (List.mem_of_getElem? (i := 0) rfl)
       have h2 := bs.lt _ (List.mem_of_getElem? (i := 1) rfl)
       simp only [List.mem_cons, List.not_mem_nil, or_false] at ha h1 h2
       rcases ha with rfl | rfl <;> assumption
      ·exact (o_r.1.lt a (obL_mem ha)).2
     ·have h1 := bs.lt _ (List.mem_of_getElem? (i := 2) rfl)
      rw [List.mem_singleton.1 ha]
      exact h1
    have far := o_t.far q hsz
    clear hsz
    refine (CT.out w102 q).mono ?_
    rintro e w103 ⟨a3, c3, rfl, ⟨M3, hM3, hown3, hb⟩⟩
    replace o_t := o_t.ret hb
    replace o_r := o_r.ret hb
    replace bs := bs.ret hb
    replace q := bs.q
    clear hb
    have hl3 : (p.it.map Prod.fst).length = M3.length := by rw [← hM3, List.length_map]
    rw [hl3] at hown3 ⊢
    have ho3 : acY.own (Xo w (([w.heap.size, w.heap.size + 1] ++ obL (.slice a2 LR c2)) ++ [wr.heap.size]) (.slice (some ⟨g, 0, none⟩) LA c1)) ⟨p.j, M3, (a3, c3), p.ver⟩ w103 := OwI.mono (OwI.of hown3) (fun j _ hj => far j hj)
    have HM3 := Lib.hid hM3
    have OO := Lib.hid ho3
    clear hM3 hown3 far hl3 ho3
    go_simp
    clear hHeld
    refine hK.out _ _ ⟨bs.at 0 0 rfl rfl, bs.at 2 0 rfl rfl, bs.at 2 1 rfl rfl, bs.at 2 2 rfl rfl⟩ (fun hHeld => ?_)
    clear hK K
    refine tk_start [(6, some 29), (7, some 30)] ?_
    iterate 2
     refine tk_step (v := ?_) (by kernel_rfl) (by kernel_rfl) (fun _ _ _ h => h) (by assumption) (fun o ho w' hSw => ?_) ?_
     rotate_left
     ·simp only [List.getElem?_toArray, List.getElem?_cons_succ, List.getElem?_cons_zero, Option.some.injEq] at ho; subst ho; (try dsimp only at hSw); go_simp; try with_reducible rfl
     simp only [Act.put, List.setIfInBounds_toArray, List.set_cons_zero, List.set_cons_succ]
    refine tk_end ?_
    refine tk_call (i := 8) (by kernel_rfl) (by kernel_rfl) (fun o ho K hK => ?_)
    simp only [List.getElem?_toArray, List.getElem?_cons_succ, List.getElem?_cons_zero, Option.some.injEq] at ho
    subst ho
    have i1 : w103.cell? ⟨g, k * 3 + 1, none⟩ = some p.iv ∧ w103.frozen? ⟨g, k * 3 + 1, none⟩ = false := (o_t.cell HV.out HK.out 1 rfl)
    have i2 : w103.cell? ⟨g, k * 3 + 2, none⟩ = some (.int .i64 p.ver) ∧ w103.frozen? ⟨g, k * 3 + 2, none⟩ = false := (o_t.cell HV.out HK.out 2 rfl)
    obtain ⟨i1, j1⟩ := i1
    obtain ⟨i2, j2⟩ := i2
    have wk : (k : Int) < (LA : Int) := by omega
    go_simp
    clear i1 i2 j1 j2
    obtain ⟨V6, hV6⟩ : ∃ V6, w103.setCells g (k * 3 + 1) [.slice a3 M3.length c3, .int .i64 p.ver] = V6 := ⟨_, rfl⟩
    replace bs := bs.far hg0 (fun hm => GN.out (List.mem_append_left _ (by simp at hm ⊢; omega))) hV6
    replace q := bs.q
    replace o_r := o_r.far hnr hV6
    have tl := (TL.step (j := 1) (vs := [.slice a3 M3.length c3, .int .i64 p.ver]) o_t HV.out HK.out (Nat.le_of_ble_eq_true rfl) rfl OO.out rfl hV6).sub (ad' := [w.heap.size, w.heap.size + 1] ++ obL (.slice a2 LR c2)) (fun a ha => List.mem_append_left _ ha)
    clear o_t
    simp only [World.setCells] at hV6
    rw [hV6]
    clear hHeld
    refine hK.out _ _ ⟨bs.at 0 0 rfl rfl, bs.at 2 0 rfl rfl, bs.at 2 1 rfl rfl, bs.at 2 2 rfl rfl⟩ (fun hHeld => ?_)
    clear hK K
    refine wpAnyH_done (by kernel_rfl) ?_ _
    clear hHeld
    go_wp2_with fail
    go_roundw
    case rel => exact ⟨k + 1, Nn ++ [⟨p.j, M3, (a3, c3), p.ver⟩], by go_num, by omega, tl, map_snoc HN.out HK.out (by show (p.j, M3.map Prod.fst, p.ver) = (p.j, p.it.map Prod.fst, p.ver); rw [HM3.out]), ⟨o_r.1, fun g hg hm => o_r.2 g hg (List.mem_append_left _ hm)⟩, bs.some 2⟩
    case measure => simp [intOf]; omega
   ·obtain rfl : k = LA := by omega
    have tl2 : TL acY w ([w.heap.size, w.heap.size + 1] ++ obL (.slice a2 LR c2)) (.slice a1 k c1) A Nn A.length wr := by rw [HA.out]; exact tl
    have o_a : OwY acY w ([w.heap.size, w.heap.size + 1] ++ obL (.slice a2 LR c2)) (.slice a1 k c1) Nn wr := tl2.done2
    have hN2 : Nn.map AcI.d = A.map AcI.d := by rw [hNn, List.take_of_length_le (by rw [List.length_map, HA.out]; exact Nat.le_refl _)]
    have NA := Lib.hid hN2
    have KA := Lib.hid tl.len
    have tl := TL.ofX (Y := rsY) (ad' := []) (by rw [HR.out]; exact o_r) (fun _ _ h => by cases h)
    rw [List.append_nil] at tl
    clear tl2 hNn hN2 o_r
    have c_c0 := bs.at 0 0 rfl rfl
    have c_c1 := bs.at 0 1 rfl rfl
    have c_c2 := bs.at 0 2 rfl rfl
    go_wp2_with fail
    clear c_c0 c_c1 c_c2
    go_loopw [35] (fun i wx => ∃ (k2 : Nat) (N2 : List RsI), i = .int .i64 k2 ∧ k2 ≤ LR ∧ TL rsY w [w.heap.size, w.heap.size + 1] (.slice a2 LR c2) R N2 k2 wx ∧ N2.map RsI.d = (R.map RsI.d).take k2 ∧ OwY acY w ([w.heap.size, w.heap.size + 1] ++ obL (.slice a2 LR c2)) (.slice a1 k c1) Nn wx ∧ Sx w [(w.heap.size, [.slice a1 k c1, .slice a2 LR c2, .int .i64 m]), (w.heap.size + 1, [.slice none 0 0, .slice none 0 0, .int .i64 0])] wx) (fun i _ => LR - (intOf i).toNat)
    case atStart => exact ⟨0, [], rfl, Nat.zero_le _, tl, rfl, o_a, bs⟩
    case round =>
     clear tl bs q o_a hlt hk
     obtain ⟨k2, N2, rfl, hk, tl, hNn, o_a, bs⟩ := hrel
     have q := bs.q
     by_cases hlt : k2 < LR
     ·have hkM : k2 < R.length := by rw [HR.out]; exact hlt
      obtain ⟨p, hp⟩ : ∃ p, R[k2] = p := ⟨_, rfl⟩
      have hkp : R[k2]? = some p := by rw [List.getElem?_eq_getElem hkM, hp]
      have hpm : p ∈ R := by rw [← hp]; exact List.getElem_mem hkM
      obtain ⟨g, c0, hv, hg0, hgn, hgl, -⟩ := tl.form hkM
      rw [HR.out] at hv
      simp only [Value.slice.injEq, true_and] at hv
      obtain ⟨rfl, rfl⟩ := hv
      have hV : Value.slice (some ⟨g, 0, none⟩) LR c2 = .slice (some ⟨g, 0, none⟩) R.length c2 := by rw [HR.out]
      have HV := Lib.hid hV
      have HK := Lib.hid hkp
      have HN := Lib.hid hNn
      have GN := Lib.hid hgn
      have CT := Lib.hid fun (W : World) (hb : Below w.heap.size w W) => ha_twin p W (rsY.subRet _ _ _ (SR.out p hpm) hb) (FR.out p hpm)
      clear hp hkp hpm hkM hV hNn hgn
      have i0 : wr.cell? ⟨g, k2 * 6, none⟩ = some (.string ⟨p.j.toArray⟩) := (tl.cell HV.out HK.out 0 rfl).1
      have i1 : wr.cell? ⟨g, k2 * 6 + 1, none⟩ = some (.bool p.on) := (tl.cell HV.out HK.out 1 rfl).1
      have i2 : wr.cell? ⟨g, k2 * 6 + 2, none⟩ = some (.int .i64 p.pr) := (tl.cell HV.out HK.out 2 rfl).1
      have i3 : wr.cell? ⟨g, k2 * 6 + 3, none⟩ = some (p.lv) := (tl.cell HV.out HK.out 3 rfl).1
      have i4 : wr.cell? ⟨g, k2 * 6 + 4, none⟩ = some (.bool p.ask) := (tl.cell HV.out HK.out 4 rfl).1
      have i5 : wr.cell? ⟨g, k2 * 6 + 5, none⟩ = some (p.sv) := (tl.cell HV.out HK.out 5 rfl).1
      have o_t := tl
      clear tl
      have c_c0 := bs.at 0 0 rfl rfl
      have c_c1 := bs.at 0 1 rfl rfl
      have c_c2 := bs.at 0 2 rfl rfl
      have d0 := (bs.lit (wr.heap.size) rfl [.string ⟨p.j.toArray⟩, .bool p.on, .int .i64 p.pr, p.lv, .bool p.ask, p.sv] 38)
      have c0_n00 := d0.at 2 0 rfl rfl
      have c0_n01 := d0.at 2 1 rfl rfl
      have c0_n02 := d0.at 2 2 rfl rfl
      have c0_n03 := d0.at 2 3 rfl rfl
      have c0_n04 := d0.at 2 4 rfl rfl
      have c0_n05 := d0.at 2 5 rfl rfl
      have c0_c0 := d0.at 0 0 rfl rfl
      have c0_c1 := d0.at 0 1 rfl rfl
      have c0_c2 := d0.at 0 2 rfl rfl
      go_wp2_with fail
      clear c_c0 c_c1 c_c2 d0 c0_n00 c0_n01 c0_n02 c0_n03 c0_n04 c0_n05 c0_c0 c0_c1 c0_c2
      clear i0 i1 i2 i3 i4 i5
      obtain ⟨w201, hw201, y201, al, bs⟩ := bs.alloc (wr.heap.size) rfl [.string ⟨p.j.toArray⟩, .bool p.on, .int .i64 p.pr, p.lv, .bool p.ask, p.sv] 38
      replace o_t := o_t.alloc (wr.heap.size) rfl al
      replace o_a := o_a.alloc (wr.heap.size) rfl al
      clear al
      replace q := bs.q
      rw [hw201]
      replace o_t := o_t.ret (Below.drew (Below.refl _ _))
      replace o_a := o_a.ret (Below.drew (Below.refl _ _))
      replace bs := bs.ret (Below.drew (Below.refl _ _))
      replace q := bs.q
      have y202 : w201.drew.heap.size = w201.heap.size := rfl
      refine wp_region_held_drew (S := fun w' => w'.cell? ⟨w.heap.size, 1, none⟩ = some (.slice (some ⟨g, 0, none⟩) LR c2) ∧ w'.cell? ⟨wr.heap.size, 0, none⟩ = some (.string ⟨p.j.toArray⟩) ∧ w'.cell? ⟨wr.heap.size, 1, none⟩ = some (.bool p.on) ∧ w'.cell? ⟨wr.heap.size, 2, none⟩ = some (.int .i64 p.pr) ∧ w'.cell? ⟨wr.heap.size, 3, none⟩ = some (p.lv) ∧ w'.cell? ⟨wr.heap.size, 4, none⟩ = some (.bool p.ask) ∧ w'.cell? ⟨wr.heap.size, 5, none⟩ = some (p.sv)) (by kernel_rfl) ⟨bs.at 0 1 rfl rfl, bs.at 2 0 rfl rfl, bs.at 2 1 rfl rfl, bs.at 2 2 rfl rfl, bs.at 2 3 rfl rfl, bs.at 2 4 rfl rfl, bs.at 2 5 rfl rfl⟩ (fun hHeld => ?_)
      generalize w201.drew = w202 at bs o_t o_a q y202 hHeld ⊢
      refine tk_start [(0, some 40), (1, some 41), (2, some 42), (3, some 43)] ?_
      iterate 4
       refine tk_step (v := ?_) (by kernel_rfl) (by kernel_rfl) (fun _ _ _ h => h) (by assumption) (fun o ho w' hSw => ?_) ?_
       rotate_left
       ·simp only [List.getElem?_toArray, List.getElem?_cons_succ, List.getElem?_cons_zero, Option.some.injEq] at ho; subst ho; (try dsimp only at hSw); go_simp; try with_reducible rfl
       simp only [Act.put, List.setIfInBounds_toArray, List.set_cons_zero, List.set_cons_succ]
      refine tk_end ?_
      refine tk_call (i := 4) (by kernel_rfl) (by kernel_rfl) (fun o ho K hK => ?_)
      simp only [List.getElem?_toArray, List.getElem?_cons_succ, List.getElem?_cons_zero, Option.some.injEq] at ho
      subst ho
      go_simp
      have hsz : ∀ a ∈ [w.heap.size, w.heap.size + 1] ++ [wr.heap.size], a < w202.heap.size := fun a ha => by
       have h1 := bs.lt _ (List.mem_of_getElem? (i := 0) rfl)
       have h2 := bs.lt _ (List.mem_of_getElem? (i := 1) rfl)
       have h3 := bs.lt _ (List.mem_of_getElem? (i := 2) rfl)
       simp only [List.cons_append, List.nil_append, List.mem_cons, List.not_mem_nil, or_false] at ha h1 h2 h3
       rcases ha with rfl | rfl | rfl <;> assumption
      have far := o_t.far q hsz
      clear hsz
      refine (CT.out w202 q).mono ?_
      rintro e w203 ⟨r3, rfl, hd3, hown3, hb⟩
      replace o_t := o_t.ret hb
      replace o_a := o_a.ret hb
      replace bs := bs.ret hb
      replace q := bs.q
      clear hb
      have ho3 : rsY.own (Xo w ([w.heap.size, w.heap.size + 1] ++ [wr.heap.size]) (.slice (some ⟨g, 0, none⟩) LR c2)) r3 w203 := rsY.ownMono _ _ _ _ hown3 (fun j _ hj => far j hj)
      have HD3 := Lib.hid hd3
      have OO := Lib.hid ho3
      clear hd3 hown3 far ho3
      go_simp
      clear hHeld
      refine hK.out _ _ ⟨bs.at 0 1 rfl rfl, bs.at 2 0 rfl rfl, bs.at 2 1 rfl rfl, bs.at 2 2 rfl rfl, bs.at 2 3 rfl rfl, bs.at 2 4 rfl rfl, bs.at 2 5 rfl rfl⟩ (fun hHeld => ?_)
      clear hK K
      refine tk_on (i := 5) (some 45) (v := ?_) (by kernel_rfl) (by kernel_rfl) (by kernel_rfl) (by kernel_rfl) (fun _ _ _ h => h) (by assumption) (fun o ho w' hSw => ?_) ?_
      rotate_left
      ·(simp only [List.getElem?_toArray, List.getElem?_cons_succ, List.getElem?_cons_zero, Option.some.injEq] at ho; subst ho; (try dsimp only at hSw); go_simp; try with_reducible rfl)
      simp only [Act.put, List.setIfInBounds_toArray, List.set_cons_zero, List.set_cons_succ]
      refine tk_call (i := 6) (by kernel_rfl) (by kernel_rfl) (fun o ho K hK => ?_)
      simp only [List.getElem?_toArray, List.getElem?_cons_succ, List.getElem?_cons_zero, Option.some.injEq] at ho
      subst ho
      have i0 : w203.cell? ⟨g, k2 * 6, none⟩ = some (.string ⟨p.j.toArray⟩) ∧ w203.frozen? ⟨g, k2 * 6, none⟩ = false := o_t.cell HV.out HK.out 0 rfl
      obtain ⟨i0, j0⟩ := i0
      have i1 : w203.cell? ⟨g, k2 * 6 + 1, none⟩ = some (.bool p.on) ∧ w203.frozen? ⟨g, k2 * 6 + 1, none⟩ = false := o_t.cell HV.out HK.out 1 rfl
      obtain ⟨i1, j1⟩ := i1
      have i2 : w203.cell? ⟨g, k2 * 6 + 2, none⟩ = some (.int .i64 p.pr) ∧ w203.frozen? ⟨g, k2 * 6 + 2, none⟩ = false := o_t.cell HV.out HK.out 2 rfl
      obtain ⟨i2, j2⟩ := i2
      have i3 : w203.cell? ⟨g, k2 * 6 + 3, none⟩ = some (p.lv) ∧ w203.frozen? ⟨g, k2 * 6 + 3, none⟩ = false := o_t.cell HV.out HK.out 3 rfl
      obtain ⟨i3, j3⟩ := i3
      have i4 : w203.cell? ⟨g, k2 * 6 + 4, none⟩ = some (.bool p.ask) ∧ w203.frozen? ⟨g, k2 * 6 + 4, none⟩ = false := o_t.cell HV.out HK.out 4 rfl
      obtain ⟨i4, j4⟩ := i4
      have i5 : w203.cell? ⟨g, k2 * 6 + 5, none⟩ = some (p.sv) ∧ w203.frozen? ⟨g, k2 * 6 + 5, none⟩ = false := o_t.cell HV.out HK.out 5 rfl
      obtain ⟨i5, j5⟩ := i5
      have wk : (k2 : Int) < (LR : Int) := by omega
      go_simp
      clear i0 j0 i1 j1 i2 j2 i3 j3 i4 j4 i5 j5
      obtain ⟨V6, hV6⟩ : ∃ V6, w203.setCells g (k2 * 6) [.string ⟨r3.j.toArray⟩, .bool r3.on, .int .i64 r3.pr, r3.lv, .bool r3.ask, r3.sv] = V6 := ⟨_, rfl⟩
      replace bs := bs.far hg0 (fun hm => GN.out (by simp at hm ⊢; omega)) hV6
      replace q := bs.q
      replace o_a := o_a.far (List.mem_append_left _ (List.mem_append_right _ (mem_obL rfl))) hV6
      have tl := (TL.step (j := 0) (vs := [.string ⟨r3.j.toArray⟩, .bool r3.on, .int .i64 r3.pr, r3.lv, .bool r3.ask, r3.sv]) o_t HV.out HK.out (Nat.le_of_ble_eq_true rfl) rfl OO.out rfl hV6).sub (ad' := [w.heap.size, w.heap.size + 1]) (fun a ha => List.mem_append_left _ ha)
      clear o_t
      simp only [World.setCells] at hV6
      rw [hV6]
      clear hHeld
      refine hK.out _ _ ⟨bs.at 0 1 rfl rfl, bs.at 2 0 rfl rfl, bs.at 2 1 rfl rfl, bs.at 2 2 rfl rfl, bs.at 2 3 rfl rfl, bs.at 2 4 rfl rfl, bs.at 2 5 rfl rfl⟩ (fun hHeld => ?_)
      clear hK K
      refine wpAnyH_done (by kernel_rfl) ?_ _
      clear hHeld
      go_wp2_with fail
      go_roundw
      case rel => exact ⟨k2 + 1, N2 ++ [r3], by go_num, by omega, tl, map_snoc HN.out HK.out HD3.out, o_a.sub (fun a ha => List.mem_append_left _ ha), bs.some 2⟩
      case measure => simp [intOf]; omega
     ·obtain rfl : k2 = LR := by omega
      have tl2 : TL rsY w [w.heap.size, w.heap.size + 1] (.slice a2 k2 c2) R N2 R.length wr := by rw [HR.out]; exact tl
      have o_r : OwY rsY w [w.heap.size, w.heap.size + 1] (.slice a2 k2 c2) N2 wr := tl2.done2
      have hN2 : N2.map RsI.d = R.map RsI.d := by rw [hNn, List.take_of_length_le (by rw [List.length_map, HR.out]; exact Nat.le_refl _)]
      have NR := Lib.hid hN2
      have KR := Lib.hid tl.len
      clear tl2 hNn hN2 tl
      have c_c0 := bs.at 0 0 rfl rfl
      have c_c1 := bs.at 0 1 rfl rfl
      have c_c2 := bs.at 0 2 rfl rfl
      have c_z0 := bs.at 1 0 rfl rfl
      have f_z0 := bs.fz 1 0 rfl rfl
      have c_z1 := bs.at 1 1 rfl rfl
      have f_z1 := bs.fz 1 1 rfl rfl
      have c_z2 := bs.at 1 2 rfl rfl
      have f_z2 := bs.fz 1 2 rfl rfl
      go_wp2_with fail
      clear c_c0 c_c1 c_c2 c_z0 f_z0 c_z1 f_z1 c_z2 f_z2
      obtain ⟨w251, hw251, y251, bs⟩ := bs.sets 1 0 [.slice a1 k c1, .slice a2 k2 c2, .int .i64 m] rfl (Nat.le_of_ble_eq_true rfl)
      replace o_a := o_a.sets 1 rfl hw251
      replace o_r := o_r.sets 1 rfl hw251
      replace q := bs.q
      simp only [World.setCells, Nat.reduceAdd] at hw251
      rw [hw251]
      refine bodyPost_ret (ret_co1 rfl rfl (bs.box 1 rfl)) rfl ⟨⟨Nn, (a1, c1), N2, (a2, c2), m⟩, ?_, ?_, ⟨?_, ?_⟩, q⟩
      ·show _ = Ending.returned (.agg #[.slice a1 Nn.length c1, .slice a2 N2.length c2, .int .i64 m])
       rw [KA.out, KR.out]
      ·show (Nn.map AcI.d, N2.map RsI.d, m) = _
       rw [NA.out, NR.out]
      ·show Ow2 acY (fun g => w.heap.size ≤ g ∧ (Value.slice a2 N2.length c2).ownBlock ≠ some g) (.slice a1 Nn.length c1) Nn _
       rw [KA.out, KR.out]
       exact Ow2.mono o_a fun g _ hg => ⟨hg.1, fun e => hg.2 (List.mem_append_right _ (mem_obL e))⟩
      ·show Ow2 rsY _ (.slice a2 N2.length c2) N2 _
       rw [KR.out]
       exact Ow2.mono o_r fun g _ hg => hg.1
end Go.Proofs.YtjgeiieiinmdnaaGreatDoor
namespace Go.Proofs.YtjgeiieiinmdnaaGreatDoor
open Go.RowKit Go.Lib

def co0 : Co := ([], [], 0)
/-- let one go. -/
def freeF (p : List Nd → Bool) (c : Co) (t : List UInt8) : Co × Int :=
 if coreD p c then (if (fiG reN c.2.1 t).isSome then ((c.1, c.2.1.eraseP fun x => reN x == t, c.2.2), 0) else (co0, 6)) else (co0, 8)
/-- turn one. -/
def withF (p : List Nd → Bool) (c : Co) (r : Re) : Co × Int :=
 if coreD p c then (if (fiG reN c.2.1 r.j).isSome then (if resF p r then ((c.1, puO reN c.2.1 r, c.2.2), 0) else (co0, 2)) else (co0, 6)) else (co0, 8)
/-- turn an account. -/
def keepF (p : List Nd → Bool) (c : Co) (a : Ac) : Co × Int :=
 if coreD p c then (if (fiG acN c.1 a.1).isSome then (if accF a then ((puO acN c.1 a, c.2.1, c.2.2), 0) else (co0, 2)) else (co0, 6)) else (co0, 8)
theorem co_facts {p : List Nd → Bool} {c : Co} (h : coreD p c = true) : c.1.length ≤ 8 ∧ c.2.1.length ≤ 16 ∧ 0 ≤ c.2.2 ∧ c.2.2 < mostV ∧ c.1.all accF = true ∧ chG acN c.1 = true ∧ (c.2.1.all fun r => resF p r && ownerF c.1 r) = true ∧ chG reN c.2.1 = true := by
 unfold coreD coreF at h
 simp only [Bool.and_eq_true, decide_eq_true_eq] at h
 exact h
section
variable {α β : Type} {f : α → β} {nm : β → List UInt8}
theorem poG_map (L : List α) (t : List UInt8) : poG nm (L.map f) t = poG (fun x => nm (f x)) L t := by
 unfold poG
 rw [List.takeWhile_map, List.length_map]
 rfl
theorem thO_map (L : List α) (t : List UInt8) : thO nm (L.map f) t = thO (fun x => nm (f x)) L t := by
 unfold thO
 rw [poG_map, List.getElem?_map]
 cases L[poG (fun x => nm (f x)) L t]? <;> rfl
theorem puO_map (L : List α) (x : α) : (puO (fun x => nm (f x)) L x).map f = puO nm (L.map f) (f x) := by
 unfold puO
 rw [thO_map, poG_map]
 cases thO (fun x => nm (f x)) L (nm (f x)) with
 | true => simp only [if_true]; rw [List.map_set]
 | false => simp only [Bool.false_eq_true, if_false]; rw [List.map_append, List.map_cons, List.map_take, List.map_drop]
theorem puO_mem {nm : α → List UInt8} {L : List α} {x y : α} (h : y ∈ puO nm L x) : y ∈ L ∨ y = x := by
 unfold puO at h
 split at h
 ·exact List.mem_or_eq_of_mem_set h
 ·rcases List.mem_append.1 h with h | h
  ·exact .inl (List.mem_of_mem_take h)
  ·rcases List.mem_cons.1 h with h | h
   ·exact .inr h
   ·exact .inl (List.mem_of_mem_drop h)
theorem puO_len {nm : α → List UInt8} {L : List α} {x : α} : (puO nm L x).length ≤ L.length + 1 := by
 unfold puO
 split
 ·rw [List.length_set]; omega
 ·rw [List.length_append, List.length_cons, List.length_take, List.length_drop]; omega
end
/-- a core's like has lists of the like. -/
theorem map_mem {α β : Type} {f : α → β} {M N : List α} (h : M.map f = N.map f) {x : α} (hx : x ∈ M) : ∃ y ∈ N, f y = f x := by
 have h1 : f x ∈ N.map f := by rw [← h]; exact List.mem_map_of_mem hx
 exact List.mem_map.1 h1
theorem eraseP_idx {α : Type} {q : α → Bool} {L : List α} {k : Nat} (h : idxG q L = k) : L.eraseIdx k = L.eraseP q := by
 unfold idxG at h
 cases hf : L.findIdx? q with
 | none => rw [hf] at h; simp at h
 | some i =>
  rw [hf] at h
  simp only [Int.natCast_inj] at h
  subst h
  rw [List.eraseP_eq_eraseIdx, hf]
/-- a result: a core, and an error. -/
def TurnIs (w : World) (o : Co × Int) (e : Ending) (w' : World) : Prop := ∃ c : CoI, e = .returned (.tuple #[c.v, .int .i64 o.2]) ∧ c.d = o.1 ∧ c.own (fun g => w.heap.size ≤ g) w' ∧ Below w.heap.size w w'
section
variable {α : Type} {Y : Ly α} {w0 w w' : World} {bs : Bs} {u v : Value} {M : List α} {B : Nat}
theorem elem_keep {S : Nat → Prop} {x : α} (h : Y.own S x w) (hk : ∀ k, k < w.heap.size → S k → w'.heap[k]? = w.heap[k]?) : Y.own S x w' :=
 Y.ownMono _ _ _ _ (Y.ownKeep (fun g => g < w.heap.size ∧ S g) x w w' (Y.ownMono _ _ _ _ h fun _ hl hg => ⟨hl, hg⟩) fun k hk' => hk k hk'.1 hk'.2) fun _ _ hg => hg.2
theorem Ow2.keepLt {S : Nat → Prop} (h : Ow2 Y S v M w) (hk : ∀ k, k < w.heap.size → S k → w'.heap[k]? = w.heap[k]?) : Ow2 Y S v M w' :=
 Ow2.mono (Ow2.keep (S := fun g => g < w.heap.size ∧ S g) (Ow2.mono h fun _ hl hg => ⟨hl, hg⟩) fun k hk' => hk k hk'.1 hk'.2) fun _ _ hg => hg.2
/-- a list of the call's own, from a block on, and none of another's row. -/
def OwU (Y : Ly α) (B : Nat) (u v : Value) (M : List α) (w : World) : Prop := Ow2 Y (fun g => B ≤ g ∧ u.ownBlock ≠ some g) v M w
abbrev nilV : Value := .slice none 0 0
theorem OwU.ret (h : OwU Y B u v M w) (hb : Below w.heap.size w w') : OwU Y B u v M w' := Ow2.ret h hb
theorem OwU.sets (h : OwU Y B u v M w) {A o : Nat} {vs : List Value} (hA : A < B) (e' : w.setCells A o vs = w') : OwU Y B u v M w' := by
 subst e'
 exact Ow2.keep h fun g hg => heap_sets vs w A o g fun e => by have := hg.1; omega
theorem OwU.grown (h : OwU Y B u v M w) (hg : w.grownBy w' u.ownBlock) : OwU Y B u v M w' := Ow2.keepLt h fun k hk hS => hg.block k hk fun e => hS.2 e.symm
theorem OwU.own (h : OwU Y B u v M w) : OwL Y (fun g => B ≤ g) v M w := OwL.mono (Ow2.own h) fun _ _ hg => hg.1
theorem OwU.isL (h : OwU Y B u v M w) : IsL Y v M w := (Ow2.own h).isL
theorem OwU.elem (h : OwU Y B u v M w) {x : α} (hx : x ∈ M) : Y.own (fun g => B ≤ g ∧ v.ownBlock ≠ some g) x w := Y.ownMono _ _ _ _ (h.2 x hx) fun _ _ hg => ⟨hg.1.1, hg.2⟩
theorem OwU.of {C : Nat} (h : Ow2 Y (fun g => C ≤ g ∧ u.ownBlock ≠ some g) v M w) (hB : B ≤ C) : OwU Y B u v M w := Ow2.mono h fun _ _ hg => ⟨Nat.le_trans hB hg.1, hg.2⟩
theorem OwU.ofN {C : Nat} (h : Ow2 Y (fun g => C ≤ g) v M w) (hB : B ≤ C) : OwU Y B nilV v M w := Ow2.mono h fun _ _ hg => ⟨Nat.le_trans hB hg, fun e => by cases e⟩
theorem OwU.row (h : OwU Y B u v M w) : w.ownsRow B Y.e Y.n v M.length (Y.fl M) := OwS.owns h.1 fun _ hg => hg.1
theorem Sx.grownB {r : Option Nat} (h : Sx w0 bs w) (hg : w.grownBy w' r) (hr : ∀ g, r = Option.some g → B ≤ g) (hB : ∀ a ∈ bs.map Prod.fst, a < B) (h0 : w0.heap.size ≤ B) : Sx w0 bs w' :=
 h.grown hg fun g e => ⟨Nat.le_trans h0 (hr g e), fun hm => by have := hB g hm; have := hr g e; omega⟩
theorem own_elems {S : Nat → Prop} {xs : List Value} {n : Nat} (h : w.ownsRow B Y.e Y.n v n xs) (hn : n = M.length) (hx : xs = Y.fl M) (hS : ∀ g, B ≤ g → S g) (he : ∀ x ∈ M, Y.own S x w) : OwL Y S v M w := by
 subst hn
 subst hx
 exact ⟨⟨h.mono (Nat.zero_le _), fun g hg => hS g (h.lt g hg).1⟩, he⟩
/-- an element of the call's own; a list of the call's own. -/
def OwE (Y : Ly α) (B : Nat) (x : α) (w : World) : Prop := Y.own (fun g => B ≤ g) x w
theorem OwE.ret {x : α} (h : OwE Y B x w) (hb : Below w.heap.size w w') : OwE Y B x w' := Y.ownRet _ _ _ _ h hb
def OwV (Y : Ly α) (B : Nat) (v : Value) (M : List α) (w : World) : Prop := OwL Y (fun g => B ≤ g) v M w
theorem OwV.sets (h : OwV Y B v M w) {A o : Nat} {vs : List Value} (hA : A < B) (e' : w.setCells A o vs = w') : OwV Y B v M w' := OwL.far h (by omega) e'
end
end Go.Proofs.YtjgeiieiinmdnaaGreatDoor
