/- HaU, HaX, HaY, HaZ: put together by mergetpl.py. -/
import Derived.Test.YtjgeiieiinmdnaaGreatDoorLg
import Derived.Test.YtjgeiieiinmdnaaGreatDoorLi
import Derived.Test.YtjgeiieiinmdnaaGreatDoorLc
import Derived.Test.YtjgeiieiinmdnaaGreatDoorKl
import Derived.Test.YtjgeiieiinmdnaaGreatDoorLj
import Derived.Test.YtjgeiieiinmdnaaGreatDoorLk
import Derived.Test.YtjgeiieiinmdnaaGreatDoorLh
namespace Go.Proofs.YtjgeiieiinmdnaaGreatDoor
open Go.RowKit Go.Lib

theorem thO_G {α : Type} [Inhabited α] {nm : α → List UInt8} {L : List α} {t : List UInt8} (hL : ∀ y ∈ L, adrF (nm y) = true) (ht : adrF t = true) : thO nm L t = thG nm L t := by
 unfold thO thG
 rcases Nat.lt_or_ge (poG nm L t) L.length with h | h
 ·rw [List.getElem?_eq_getElem h, decide_eq_true h, Bool.true_and]
  have hg : L.getD (poG nm L t) default = L[poG nm L t] := by simp [List.getD, h]
  rw [hg]
  have hy := hL _ (List.getElem_mem h)
  generalize L[poG nm L t] = y at hy
  show decide (ordT (nm y) t = 0) = (nm y == t)
  rw [Bool.eq_iff_iff, decide_eq_true_eq, beq_iff_eq]
  unfold ordT
  constructor
  ·intro h0
   cases h1 : lessT (nm y) t with
   | true => rw [h1] at h0; simp at h0
   | false =>
    cases h2 : lessT t (nm y) with
    | true => rw [h1, h2] at h0; simp at h0
    | false => exact adrF_inj hy ht (lessT_eq h1 h2)
  ·intro e
   rw [e, lessT_irr]
   simp
 ·rw [List.getElem?_eq_none h, decide_eq_false (by omega), Bool.false_and]
theorem puO_G {α : Type} [Inhabited α] {nm : α → List UInt8} {L : List α} {x : α} (hL : ∀ y ∈ L, adrF (nm y) = true) (hx : adrF (nm x) = true) : puO nm L x = puG nm L x := by
 unfold puO puG
 rw [thO_G hL hx]
def newN (l : List (List UInt8)) : List Ac := l.foldl (fun A s => puO acN A (s, [], 0)) []
def newF (l : List (List UInt8)) : Co × Int := if decide (l.length ≤ 8) && (l.all mineF && onceP l) then ((newN l, [], 0), 0) else (co0, 2)
theorem mineF_adr {s : List UInt8} (h : mineF s = true) : adrF s = true := by
 unfold mineF at h
 rw [Bool.and_eq_true] at h
 exact h.1
/-- what New's accounts are: in order, of the names. -/
structure NewOk (l : List (List UInt8)) (A : List Ac) : Prop where
 ch : chG acN A = true
 ad : ∀ a ∈ A, adrF (acN a) = true
 mem : ∀ a ∈ A, acN a ∈ l
 len : A.length ≤ l.length
theorem NewOk.snoc {l : List (List UInt8)} {A : List Ac} {s : List UInt8} (h : NewOk l A) (hs : mineF s = true) : NewOk (l ++ [s]) (puO acN A (s, [], 0)) := by
 have e : puO acN A (s, [], 0) = puG acN A (s, [], 0) := puO_G h.ad (mineF_adr hs)
 refine ⟨?_, fun a ha => ?_, fun a ha => ?_, ?_⟩
 ·rw [e]
  exact put_chainG h.ch h.ad (mineF_adr hs)
 ·rcases puO_mem ha with h1 | h1
  ·exact h.ad a h1
  ·rw [h1]; exact mineF_adr hs
 ·rcases puO_mem ha with h1 | h1
  ·exact List.mem_append_left _ (h.mem a h1)
  ·rw [h1]; exact List.mem_append_right _ (List.mem_singleton.2 rfl)
 ·have := puO_len (nm := acN) (L := A) (x := (s, [], 0))
  rw [List.length_append, List.length_singleton]
  have := h.len
  omega
theorem newN_snoc (l : List (List UInt8)) (s : List UInt8) : newN (l ++ [s]) = puO acN (newN l) (s, [], 0) := by unfold newN; rw [List.foldl_append]; rfl
set_option maxHeartbeats 1000000 in
set_option maxRecDepth 100000 in
theorem ha_New (v : Value) (l : List (List UInt8)) (w : World) (hv : IsGrp v l w) (hz : l.length ≤ 1000) (hx : ∀ s ∈ l, s.length ≤ 10000) (hm : ML w) : Calls Tryz.prog 15 #[v] w (TurnIs w (newF l)) := by
 obtain ⟨hv0, av, cv, rfl, hcap⟩ := hv
 obtain ⟨Z, hZ⟩ : ∃ Z, newF l = Z := ⟨_, rfl⟩
 rw [hZ]
 unfold newF at hZ
 obtain ⟨L, hL⟩ : ∃ L, l.length = L := ⟨_, rfl⟩
 rw [hL] at hz hcap hZ ⊢
 have HV := Lib.hid hv0
 have HL := Lib.hid hL
 have HX := Lib.hid hx
 have HM := Lib.hid hm
 clear hv0 hL hx hm
 by_cases h8 : L ≤ 8
 ·rw [decide_eq_true h8, Bool.true_and] at hZ
  have w8 : ¬ (8 : Int) < (L : Int) := by omega
  have HZ := Lib.hid hZ
  clear hZ
  obtain ⟨W0, hW, y0, bs⟩ := Sx.start1 w [.slice none 0 0, .slice none 0 0, .int .i64 0] 25
  have HW := Lib.hid hW
  clear hW
  have q := bs.q
  go_enter Tryz.func15, Tryz.ntmps15
  go_wp2_with fail
  rw [HW.out]
  go_loopw [12] (fun i wx => ∃ (k : Nat) (A : List AcI) (a : Option Addr) (c n : Nat), k ≤ L ∧ i = .int .i64 k ∧ (l.take k).all mineF = true ∧ onceP (l.take k) = true ∧ A.length = n ∧ A.map AcI.d = newN (l.take k) ∧ NewOk (l.take k) (newN (l.take k)) ∧ OwU acY (w.heap.size + 1) nilV (.slice a n c) A wx ∧ Sx w [(w.heap.size, [.slice a n c, .slice none 0 0, .int .i64 0])] wx) (fun i _ => L - (intOf i).toNat)
  case atStart => exact ⟨0, [], none, 0, 0, Nat.zero_le _, rfl, rfl, rfl, rfl, rfl, ⟨rfl, (fun a ha => by cases ha), (fun a ha => by cases ha), Nat.le_refl _⟩, ⟨OwS.nil _ _ _ _, fun x hx => by cases hx⟩, bs⟩
  case round =>
   clear bs q
   obtain ⟨k, A, a, c, n, hk, rfl, hall, honce, hn, hA, hok, o_a, bs⟩ := hrel
   have q := bs.q
   by_cases hlt : k < L
   ·have hkg : k < l.length := by rw [HL.out]; exact hlt
    have hkc : k ≤ cv := by omega
    have hV := HV.out.ret q
    obtain ⟨b, off, cp, hf, hb0, hc⟩ := vals_cell' hV (k := k) (by rw [strV_len]; exact hkg)
    rw [strV_len, HL.out] at hf
    simp only [Value.slice.injEq, true_and] at hf
    obtain ⟨rfl, rfl⟩ := hf
    have hck := hc k (by rw [strV_len]; exact hkg)
    have hT := hV.take k (by rw [strV_len]; omega) (some ⟨b, off, none⟩) L cv (by rw [HL.out])
    rw [strV_take] at hT
    have e1 : (strV l)[k]'(by rw [strV_len]; exact hkg) = .string ⟨(l[k]).toArray⟩ := by simp [strV]
    rw [e1] at hck
    obtain ⟨s, hs⟩ : ∃ s, l[k] = s := ⟨_, rfl⟩
    have hsn : (l.take (k + 1)) = l.take k ++ [s] := by rw [← hs]; exact List.take_succ_eq_append_getElem hkg
    have hxs : s.length ≤ 10000 := by rw [← hs]; exact HX.out _ (List.getElem_mem hkg)
    rw [hs] at hck
    have CMI := fun (W : World) (hb : Below w.heap.size w W) => ha_mine ⟨s.toArray⟩ W (by rw [← size_toList]; exact hxs) (HM.out.ret hb)
    have CC := fun (W : World) (hb : Below wr.heap.size wr W) => vals_contains (.slice (some ⟨b, off, none⟩) k cv) (l.take k) s W (hT.ret hb) (by rw [List.length_take]; omega)
    have hm2 : decide (s ∈ l.take k) = (l.take k).contains s := by simp
    rw [hm2] at CC
    have hl1 : mineF s = false → Z = (co0, 2) := fun h => by
     rw [← HZ.out]
     have : l.all mineF = false := by
      rw [← List.take_append_drop (k + 1) l, List.all_append, hsn, List.all_append]
      simp [h]
     rw [this]
     rfl
    have hl2 : (l.take k).contains s = true → Z = (co0, 2) := fun h => by
     rw [← HZ.out]
     have : onceP l = false := by
      rw [← List.take_append_drop (k + 1) l]
      exact once_left (by rw [hsn, once_snoc, h]; simp)
     rw [this, Bool.and_false]
     rfl
    have hs1 : mineF s = true → (l.take (k + 1)).all mineF = true := fun h => by
     rw [hsn, List.all_append, hall]
     simp [h]
    have hs2 : (l.take k).contains s = false → onceP (l.take (k + 1)) = true := fun h => by
     rw [hsn, once_snoc, h, honce]; rfl
    have hs3 : mineF s = true → NewOk (l.take (k + 1)) (newN (l.take (k + 1))) := fun h => by
     rw [hsn, newN_snoc]
     exact hok.snoc h
    have hs4 : newN (l.take (k + 1)) = puO acN (newN (l.take k)) (s, [], 0) := by rw [hsn, newN_snoc]
    obtain ⟨P1, hP1⟩ : ∃ P1, mineF s = P1 := ⟨_, rfl⟩
    obtain ⟨P2, hP2⟩ : ∃ P2, (l.take k).contains s = P2 := ⟨_, rfl⟩
    have hdl : (⟨s.toArray⟩ : ByteArray).data.toList = s := rfl
    rw [hP1] at hl1 hs1 hs3
    rw [hP2] at hl2 hs2 CC
    have CMJ := fun W hb => show Calls _ _ _ W (Ret W (.bool P1)) from (by have := CMI W hb; rw [hdl, hP1] at this; exact this)
    have WH := Lib.hid CMJ
    have CC := Lib.hid CC
    have L1 := Lib.hid hl1
    have L2 := Lib.hid hl2
    have S1 := Lib.hid hs1
    have S2 := Lib.hid hs2
    have S3 := Lib.hid hs3
    have S4 := Lib.hid hs4
    have HA := Lib.hid hA
    have HOK := Lib.hid hok
    have HN := Lib.hid hn
    have n8 : n ≤ 8 := by have h1 := hok.len; rw [← hA, List.length_map, List.length_take] at h1; omega
    clear CMI CMJ hl1 hl2 hs1 hs2 hs3 hs4 hP1 hP2 hsn hm2 hT hV hc e1 hs hall honce hA hok hn hdl
    cases P1 with
    | false =>
     have := L1.out (by first | exact rfl | exact trivial)
     subst this
     go_wp2_with fail
     refine (WH.out wr q).mono ?_
     rintro e w31 ⟨rfl, hb⟩
     replace o_a := o_a.ret hb
     replace bs := bs.ret hb
     replace q := bs.q
     clear hb
     have c_z0 := bs.at 0 0 rfl rfl
     have f_z0 := bs.fz 0 0 rfl rfl
     have c_z1 := bs.at 0 1 rfl rfl
     have f_z1 := bs.fz 0 1 rfl rfl
     have c_z2 := bs.at 0 2 rfl rfl
     have f_z2 := bs.fz 0 2 rfl rfl
     go_wp2_with fail
     clear c_z0 f_z0 c_z1 f_z1 c_z2 f_z2
     obtain ⟨w32, hw32, y32, bs⟩ := bs.sets 0 0 [.slice none 0 0, .slice none 0 0, .int .i64 0] rfl (Nat.le_of_ble_eq_true rfl)
     replace o_a := o_a.sets (by omega) hw32
     replace q := bs.q
     simp only [World.setCells, Nat.reduceAdd] at hw32
     rw [hw32]
     exact bodyPost_ret (ret_co2 rfl rfl rfl (bs.box 0 rfl)) rfl (turn_no 2 q)
    | true =>
     have q0 := Below.refl wr.heap.size wr
     go_wp2_with fail
     refine (WH.out wr q).mono ?_
     rintro e w31 ⟨rfl, hb⟩
     replace o_a := o_a.ret hb
     replace bs := bs.ret hb
     replace q := bs.q
     have C1 := Lib.hid (CC.out _ hb)
     clear hb
     cases P2 with
     | true =>
      have := L2.out (by first | exact rfl | exact trivial)
      subst this
      go_wp2_with fail
      refine (C1.out).mono ?_
      rintro e w32 ⟨rfl, hb⟩
      replace o_a := o_a.ret hb
      replace bs := bs.ret hb
      replace q := bs.q
      clear hb
      have c_z0 := bs.at 0 0 rfl rfl
      have f_z0 := bs.fz 0 0 rfl rfl
      have c_z1 := bs.at 0 1 rfl rfl
      have f_z1 := bs.fz 0 1 rfl rfl
      have c_z2 := bs.at 0 2 rfl rfl
      have f_z2 := bs.fz 0 2 rfl rfl
      go_wp2_with fail
      clear c_z0 f_z0 c_z1 f_z1 c_z2 f_z2
      obtain ⟨w33, hw33, y33, bs⟩ := bs.sets 0 0 [.slice none 0 0, .slice none 0 0, .int .i64 0] rfl (Nat.le_of_ble_eq_true rfl)
      replace o_a := o_a.sets (by omega) hw33
      replace q := bs.q
      simp only [World.setCells, Nat.reduceAdd] at hw33
      rw [hw33]
      exact bodyPost_ret (ret_co2 rfl rfl rfl (bs.box 0 rfl)) rfl (turn_no 2 q)
     | false =>
      go_wp2_with fail
      refine (C1.out).mono ?_
      rintro e w32 ⟨rfl, hb⟩
      replace o_a := o_a.ret hb
      replace bs := bs.ret hb
      replace q := bs.q
      clear hb
      have c_z0 := bs.at 0 0 rfl rfl
      have c_z1 := bs.at 0 1 rfl rfl
      have c_z2 := bs.at 0 2 rfl rfl
      go_wp2_with fail
      refine (ha_accounts a none n c 0 0 0 w32).mono ?_
      rintro e w33 ⟨rfl, hb⟩
      clear c_z0 c_z1 c_z2
      replace o_a := o_a.ret hb
      replace bs := bs.ret hb
      replace q := bs.q
      clear hb
      have hB : w.heap.size + 1 ≤ w33.heap.size := bs.lt _ (List.mem_of_getElem? (i := 0) rfl)
      obtain ⟨r3, hr3⟩ : ∃ r3 : AcI, r3 = ⟨s, [], (none, 0), 0⟩ := ⟨_, rfl⟩
      have hrv : Value.agg #[.string ⟨s.toArray⟩, .slice none 0 0, .int .i64 0] = r3.v := by rw [hr3]; rfl
      have hcall := ha_put_ac a c A r3 w33 (by have := o_a.isL; rw [HN.out]; exact this) (by rw [HN.out]; omega) (fun y hy => by
       have h1 : y.d ∈ newN (l.take k) := by rw [← HA.out]; exact List.mem_map_of_mem hy
       exact HX.out _ (List.mem_of_mem_take (HOK.out.mem _ h1))) (by rw [hr3]; exact hxs) (by
       have := HOK.out.ch
       rw [← HA.out, chG_map] at this
       exact this) (HM.out.ret q)
      rw [HN.out] at hcall
      have HCA := Lib.hid hcall
      have HR3 := Lib.hid hr3
      clear hcall hr3
      have o_e : ∀ y ∈ A, acY.own (fun g => w.heap.size + 1 ≤ g ∧ g < w33.heap.size) y w33 := fun y hy => acY.ownMono _ _ _ _ (o_a.elem hy) fun _ hl hg => ⟨hg.1, hl⟩
      have c_z0 := bs.at 0 0 rfl rfl
      have c_z1 := bs.at 0 1 rfl rfl
      have c_z2 := bs.at 0 2 rfl rfl
      go_wp2_with fail
      refine HCA.out.mono ?_
      rintro e w90 ⟨a5, c5, rfl, hown5, hb⟩
      clear c_z0 c_z1 c_z2
      replace o_e := fun y hy => acY.ownRet _ _ _ _ (o_e y hy) hb
      replace o_a := o_a.ret hb
      replace bs := bs.ret hb
      replace q := bs.q
      obtain ⟨N5, hN5⟩ : ∃ N5, puO (fun y : AcI => y.j) A r3 = N5 := ⟨_, rfl⟩
      rw [hN5] at hown5 ⊢
      have e5 : N5.map AcI.d = newN (l.take (k + 1)) := by
       rw [← hN5, S4.out, ← HA.out, HR3.out]
       exact puO_map (f := AcI.d) (nm := acN) A ⟨s, [], (none, 0), 0⟩
      have o_v : OwU acY (w.heap.size + 1) nilV (.slice a5 N5.length c5) N5 w90 := by
       refine ⟨⟨hown5.mono (Nat.zero_le _), fun g hg => ⟨Nat.le_trans hB (hown5.lt g hg).1, fun e => by cases e⟩⟩, fun y hy => ?_⟩
       rw [← hN5] at hy
       rcases puO_mem hy with h | h
       ·exact acY.ownMono _ _ _ _ (o_e y h) fun g _ hg => ⟨⟨hg.1, fun e => by cases e⟩, fun e => by have := (hown5.lt g e).1; have := hg.2; omega⟩
       ·rw [h, HR3.out]; exact ⟨OwS.nil _ _ _ _, fun p hp => by cases hp⟩
      obtain ⟨L5, hL5⟩ : ∃ L5, N5.length = L5 := ⟨_, rfl⟩
      rw [hL5] at o_v ⊢
      have HE5 := Lib.hid e5
      have HL5 := Lib.hid hL5
      clear hb hB hown5 hN5 e5 hL5 hrv HCA o_a o_e
      have c_z0 := bs.at 0 0 rfl rfl
      have f_z0 := bs.fz 0 0 rfl rfl
      have c_z1 := bs.at 0 1 rfl rfl
      have f_z1 := bs.fz 0 1 rfl rfl
      have c_z2 := bs.at 0 2 rfl rfl
      have f_z2 := bs.fz 0 2 rfl rfl
      go_wp2_with fail
      clear c_z0 f_z0 c_z1 f_z1 c_z2 f_z2
      obtain ⟨w91, hw91, y91, bs⟩ := bs.sets 0 0 [.slice a5 L5 c5] rfl (Nat.le_of_ble_eq_true rfl)
      replace o_v := o_v.sets (by omega) hw91
      replace q := bs.q
      simp only [World.setCells] at hw91
      rw [hw91]
      go_roundw
      case rel => exact ⟨k + 1, N5, a5, c5, L5, by omega, by go_num, S1.out (by first | exact rfl | exact trivial), S2.out (by first | exact rfl | exact trivial), HL5.out, HE5.out, S3.out (by first | exact rfl | exact trivial), o_v, bs⟩
      case measure => simp [intOf]; omega
   ·have e : l.take k = l := List.take_of_length_le (by rw [HL.out]; omega)
    rw [e] at hall honce hA
    have hZ := HZ.out
    rw [hall, honce] at hZ
    have hZ2 : ((newN l, [], 0), 0) = Z := hZ
    subst hZ2
    have HA := Lib.hid hA
    have HN := Lib.hid hn
    clear hall honce e HZ hZ hA hok hn
    have c_z0 := bs.at 0 0 rfl rfl
    have f_z0 := bs.fz 0 0 rfl rfl
    have c_z1 := bs.at 0 1 rfl rfl
    have f_z1 := bs.fz 0 1 rfl rfl
    have c_z2 := bs.at 0 2 rfl rfl
    have f_z2 := bs.fz 0 2 rfl rfl
    go_wp2_with fail
    clear c_z0 f_z0 c_z1 f_z1 c_z2 f_z2
    obtain ⟨w61, hw61, y61, bs⟩ := bs.sets 0 0 [.slice a n c, .slice none 0 0, .int .i64 0] rfl (Nat.le_of_ble_eq_true rfl)
    replace o_a := o_a.sets (by omega) hw61
    replace q := bs.q
    simp only [World.setCells, Nat.reduceAdd] at hw61
    rw [hw61]
    refine bodyPost_ret (ret_co2 rfl rfl rfl (bs.box 0 rfl)) rfl ⟨⟨A, (a, c), [], (none, 0), 0⟩, ?_, ?_, ⟨?_, OwL.nil _ _ _⟩, q⟩
    ·show _ = Ending.returned (.tuple #[.agg #[.slice a A.length c, .slice none 0 0, .int .i64 0], .int .i64 0])
     rw [HN.out]
     rfl
    ·show (A.map AcI.d, [], 0) = _
     rw [HA.out]
    ·show OwL acY _ (.slice a A.length c) A _
     rw [HN.out]
     exact OwL.mono o_a.own fun g _ hg => by omega
 ·rw [decide_eq_false h8, Bool.false_and] at hZ
  have hZ2 : (co0, 2) = Z := hZ
  subst hZ2
  have w8 : (8 : Int) < (L : Int) := by omega
  clear hZ
  obtain ⟨W0, hW, y0, bs⟩ := Sx.start1 w [.slice none 0 0, .slice none 0 0, .int .i64 0] 25
  have HW := Lib.hid hW
  clear hW
  have q := bs.q
  go_enter Tryz.func15, Tryz.ntmps15
  go_wp2_with fail
  rw [HW.out]
  exact bodyPost_ret (ret_co2 rfl rfl rfl (bs.box 0 rfl)) rfl (turn_no 2 q)
end Go.Proofs.YtjgeiieiinmdnaaGreatDoor
namespace Go.Proofs.YtjgeiieiinmdnaaGreatDoor
open Go.RowKit Go.Lib

def pT : List Nd → Bool := fun _ => true
/-- sizes that fit, of a core without contacts, trees and texts. -/
def flatC (d : Co) : Bool := decide (d.1.length ≤ 1000) && (decide (d.2.1.length ≤ 1000) && (d.1.all (fun a => decide (a.1.length ≤ 10000) && a.2.1.isEmpty) && d.2.1.all (fun r => decide (r.j.length ≤ 10000) && (r.ld.isEmpty && r.st.isEmpty))))
theorem fit_plain {c : CoI} {w : World} (p : List Nd → Bool) (hp : flatC c.d = true) (h : c.sub w) : CoFit p c w := by
 unfold flatC at hp
 simp only [Bool.and_eq_true, decide_eq_true_eq, List.all_eq_true] at hp
 obtain ⟨h1, h2, h3, h4⟩ := hp
 have hR : ∀ r ∈ c.R, r.j.length ≤ 10000 ∧ r.ld = [] ∧ r.st = [] := fun r hr => by
  have k := h4 r.d (List.mem_map_of_mem hr)
  refine ⟨k.1, ?_, ?_⟩
  ·have this : (r.ld.map trD).isEmpty = true := k.2.1
   simpa using this
  ·have this : r.st.isEmpty = true := k.2.2
   simpa using this
 refine ⟨h, by simpa using h1, by simpa using h2, fun a ha => ?_, fun r hr => ?_⟩
 ·have k := h3 a.d (List.mem_map_of_mem ha)
  have hit : a.it = [] := by have := k.2; simpa using this
  refine ⟨k.1, ?_⟩
  rw [hit]
  exact ⟨Nat.zero_le _, fun q hq => by cases hq⟩
 ·obtain ⟨k1, k2, k3⟩ := hR r hr
  refine ⟨⟨h.2.2.2 r hr, k1, by rw [k3]; exact Nat.zero_le _, (by rw [k3]; intro s hs; cases hs), by rw [k2]; exact Nat.zero_le _, (by rw [k2]; intro t ht; cases ht)⟩, by rw [k2]; exact Nat.zero_le _, by rw [k3]; exact Nat.zero_le _, (by rw [k2]; intro t ht; cases ht)⟩
/-- a number's digits, below 100. -/
def ddS (n : Nat) : List UInt8 := if n < 10 then [UInt8.ofNat (48 + n)] else [UInt8.ofNat (48 + n / 10), UInt8.ofNat (48 + n % 10)]
theorem ddS_eq {n : Nat} (h : n < 100) : Lib.decDigits n = ddS n := by
 unfold ddS
 split
 ·rename_i h1
  rw [Lib.decDigits_one h1]
 ·rename_i h1
  rw [decDigits_big h1, Lib.decDigits_one (by omega)]
  rfl
def nmS (t : List UInt8) (n : Nat) : List UInt8 := t ++ 47 :: 114 :: ddS n
theorem nmS_eq {t : List UInt8} {n : Nat} (h : n < 100) : nmR t n = nmS t n := by unfold nmR nmS; rw [ddS_eq h]
def madeS (R : List Re) (t : List UInt8) : Nat → Nat → Nat
 | 0, n => n
 | f + 1, n => if (fiG reN R (nmS t n)).isSome then madeS R t f (n + 1) else n
theorem madeS_eq {R : List Re} {t : List UInt8} : ∀ (f n : Nat), n + f ≤ 100 → madeN R t f n = madeS R t f n
 | 0, _, _ => rfl
 | f + 1, n, h => by
  unfold madeN madeS
  rw [nmS_eq (by omega), madeS_eq f (n + 1) (by omega)]
def bindS (p : List Nd → Bool) (c : Co) (o r : List UInt8) : Co × List UInt8 × Int :=
 if coreD p c then
  if (fiG acN c.1 o).isSome then
   if r.isEmpty || chkP [] [97] r then
    if (fiG reN c.2.1 (o ++ 47 :: r)).isSome then (co0, [], 240)
    else if c.2.1.length ≤ 15 then
     if r.isEmpty then
      if ((madeS c.2.1 o (c.2.1.length + 1) (c.2.2.toNat + 1) : Nat) : Int) < mostV then ((c.1, puO reN c.2.1 (newR (nmS o (madeS c.2.1 o (c.2.1.length + 1) (c.2.2.toNat + 1)))), ((madeS c.2.1 o (c.2.1.length + 1) (c.2.2.toNat + 1) : Nat) : Int)), nmS o (madeS c.2.1 o (c.2.1.length + 1) (c.2.2.toNat + 1)), 0)
      else (co0, [], 9)
     else ((c.1, puO reN c.2.1 (newR (o ++ 47 :: r)), c.2.2), o ++ 47 :: r, 0)
    else (co0, [], 9)
   else (co0, [], 2)
  else (co0, [], 6)
 else (co0, [], 8)
theorem bindS_eq {p : List Nd → Bool} {c : Co} {o r : List UInt8} (h : c.2.2.toNat + c.2.1.length + 3 < 100) : bindF p c o r = bindS p c o r := by
 unfold bindF bindS
 have hm := madeN_le c.2.1 o (c.2.1.length + 1) (c.2.2.toNat + 1)
 rw [nmS_eq (by omega), madeS_eq _ _ (by omega)]
abbrev tU : List UInt8 := [117, 64, 97]
abbrev tV : List UInt8 := [118, 64, 97]
abbrev tW : List UInt8 := [119, 64, 97]
abbrev tHome : List UInt8 := [104, 111, 109, 101]
def dA0 : Co := ([(tU, [], 0), (tV, [], 0)], [], 0)
theorem new_two : newF [tV, tU] = (dA0, 0) := by decide +kernel
theorem plain_A0 : flatC dA0 = true := by decide +kernel
def dA1 : Co := ([(tU, [], 0), (tV, [], 0)], [newR [117, 64, 97, 47, 104, 111, 109, 101]], 0)
theorem bind_A1 : bindS pT dA0 tU tHome = (dA1, [117, 64, 97, 47, 104, 111, 109, 101], 0) := by decide +kernel
def dA2 : Co := ([(tU, [], 0), (tV, [], 0)], [newR [117, 64, 97, 47, 104, 111, 109, 101], newR [117, 64, 97, 47, 114, 49]], 1)
theorem bind_A2 : bindS pT dA1 tU [] = (dA2, [117, 64, 97, 47, 114, 49], 0) := by decide +kernel
def dA3 : Co := ([(tU, [], 0), (tV, [], 0)], [newR [117, 64, 97, 47, 104, 111, 109, 101], newR [117, 64, 97, 47, 114, 49], newR [117, 64, 97, 47, 114, 50]], 2)
theorem bind_A3 : bindS pT dA2 tU [] = (dA3, [117, 64, 97, 47, 114, 50], 0) := by decide +kernel
theorem bind_A4 : (bindS pT dA3 tU tHome) = (co0, [], 240) := by decide +kernel
theorem bind_A5 : (bindS pT dA3 tW [120]) = (co0, [], 6) := by decide +kernel
theorem core_A3 : coreD pT dA3 = true := by decide +kernel
theorem plain_A1 : flatC dA1 = true := by decide +kernel
theorem plain_A2 : flatC dA2 = true := by decide +kernel
theorem plain_A3 : flatC dA3 = true := by decide +kernel
/-! ### HallNames -/
end Go.Proofs.YtjgeiieiinmdnaaGreatDoor
namespace Go.Proofs.YtjgeiieiinmdnaaGreatDoor
open Go.RowKit Go.Lib

/-- a core of the call's own, outside the boxes. -/
def OwC (w0 : World) (ad : List Nat) (c : CoI) (w : World) : Prop := OwZ acY w0 ad c.av c.A w ∧ OwZ rsY w0 ad c.rv c.R w
section
variable {w0 w w' : World} {bs : Bs} {ad : List Nat} {c : CoI}
theorem OwC.mk' (h : Sx w0 bs w) (ho : c.own (fun g => w.heap.size ≤ g) w') : OwC w0 (bs.map Prod.fst) c w' := ⟨OwZ.mk' h ho.1, OwZ.mk' h ho.2⟩
theorem OwC.ret (h : OwC w0 ad c w) (hb : Below w.heap.size w w') : OwC w0 ad c w' := ⟨h.1.ret hb, h.2.ret hb⟩
theorem OwC.sets (h : OwC w0 ad c w) (k : Nat) {A o : Nat} {vs : List Value} (hk : ad[k]? = some A) (e' : w.setCells A o vs = w') : OwC w0 ad c w' := ⟨h.1.sets k hk e', h.2.sets k hk e'⟩
theorem OwC.alloc (h : OwC w0 ad c w) (A : Nat) (hA : w.heap.size = A) (hb : Below w.heap.size w w') : OwC w0 (ad ++ [A]) c w' := ⟨h.1.alloc A hA hb, h.2.alloc A hA hb⟩
theorem OwC.own (h : OwC w0 ad c w) : c.own (fun g => w0.heap.size ≤ g) w := ⟨h.1.own, h.2.own⟩
theorem OwC.csub (h : OwC w0 ad c w) : c.sub w := h.own.sub
theorem Bx.grp {L : Nat} {g : List (List UInt8)} (h : Bx L (strV g) w) : IsGrp (.slice (some ⟨L, 0, none⟩) g.length g.length) g w :=
 ⟨⟨some ⟨L, 0, none⟩, g.length, by rw [strV_len], (fun h => by cases h), .inr ⟨L, 0, rfl, h.lt, fun j hj => by rw [Nat.zero_add]; exact h.at j (List.getElem?_eq_getElem hj)⟩⟩, some ⟨L, 0, none⟩, g.length, rfl, Nat.le_refl _⟩
end
/-- what two and binds answer: a core, and that it is so. -/
def CoreB (w : World) (d : Co) (e : Ending) (w' : World) : Prop := ∃ c : CoI, e = .returned (.tuple #[c.v, .bool true]) ∧ c.d = d ∧ c.own (fun g => w.heap.size ≤ g) w' ∧ Below w.heap.size w w'
set_option maxHeartbeats 4000000 in
set_option maxRecDepth 100000 in
theorem l24_two (w : World) (hm : ML w) : Calls Tryz.prog 45 #[] w (CoreB w dA0) := by
 have NW := Lib.hid fun (W : World) (hb : Below w.heap.size w W) (L : Nat) (h : Bx L (strV [tV, tU]) W) => ha_New (.slice (some ⟨L, 0, none⟩) 2 2) [tV, tU] W (Bx.grp h) (by decide) (by decide) (hm.ret hb)
 simp only [new_two] at NW
 clear hm
 obtain ⟨W0, hW, y0, bs⟩ := Sx.start2 w [.slice none 0 0, .slice none 0 0, .int .i64 0] 25 [.string ⟨#[118, 64, 97]⟩, .string ⟨#[117, 64, 97]⟩] 9
 have HW := Lib.hid hW
 clear hW
 have q := bs.q
 go_enter Tryz.func45, Tryz.ntmps45
 go_wp2_with fail
 rw [HW.out]
 refine (NW.out W0 q (w.heap.size + 1) (bs.box 1 rfl)).mono ?_
 rintro e w1 ⟨⟨A, ⟨a, b⟩, R, ⟨r, c⟩, m⟩, rfl, hd, ho, hb⟩
 have o_c := OwC.mk' bs ho
 replace bs := bs.ret hb
 replace q := bs.q
 clear hb
 simp only [CoI.d, dA0, Prod.mk.injEq] at hd
 obtain ⟨hd1, hd2, rfl⟩ := hd
 have hl1 : A.length = 2 := by have := congrArg List.length hd1; simpa using this
 have hl2 : R.length = 0 := by have := congrArg List.length hd2; simpa using this
 obtain ⟨x, hx⟩ : ∃ x, A[0]? = some x := ⟨_, List.getElem?_eq_getElem (by omega)⟩
 have hxj : x.j = tU := by
  have h1 : (A.map AcI.d)[0]? = some x.d := by rw [List.getElem?_map, hx]; rfl
  rw [hd1] at h1
  have := Option.some.inj h1
  exact (congrArg Prod.fst this).symm
 obtain ⟨b1, off, cp, hv, -, hc⟩ := o_c.csub.1.cells hx
 simp only [CoI.av, hl1, Value.slice.injEq, true_and] at hv
 obtain ⟨rfl, rfl⟩ := hv
 have hcell : ∀ w', IsL acY (.slice (some ⟨b1, off, none⟩) A.length b) A w' → w'.cell? ⟨b1, off, none⟩ = some (.string ⟨#[117, 64, 97]⟩) := fun w' h => by
  obtain ⟨b2, off2, cp2, hv2, -, hc2⟩ := h.cells hx
  simp only [Value.slice.injEq, Option.some.injEq, Addr.mk.injEq, and_true, true_and] at hv2
  obtain ⟨⟨rfl, rfl⟩, -⟩ := hv2
  have := hc2 w' (Below.refl _ _) 0 _ rfl
  rw [hxj] at this
  simpa using this
 have HC := Lib.hid hcell
 simp only [CoI.v, hl1, hl2]
 have HD1 := Lib.hid hd1
 have HD2 := Lib.hid hd2
 have HL1 := Lib.hid hl1
 have HL2 := Lib.hid hl2
 clear hd1 hd2 hl1 hl2 hx hxj hc hcell ho
 have d0 := (bs.lit (w1.heap.size) rfl [.slice (some ⟨b1, off, none⟩) 2 b, .slice r 0 c, .int .i64 0] 25)
 have c0_n00 := d0.at 2 0 rfl rfl
 have c0_n01 := d0.at 2 1 rfl rfl
 have c0_n02 := d0.at 2 2 rfl rfl
 go_wp2_with fail
 clear d0 c0_n00 c0_n01 c0_n02
 obtain ⟨w2, hw2, y2, al, bs⟩ := bs.alloc (w1.heap.size) rfl [.slice (some ⟨b1, off, none⟩) 2 b, .slice r 0 c, .int .i64 0] 25
 replace o_c := o_c.alloc (w1.heap.size) rfl al
 clear al
 replace q := bs.q
 rw [hw2]
 replace o_c := o_c.ret (Below.drew (Below.refl _ _))
 replace bs := bs.ret (Below.drew (Below.refl _ _))
 replace q := bs.q
 have y3 : w2.drew.heap.size = w2.heap.size := rfl
 refine wp_region_held_drew (S := fun w' => w'.cell? ⟨w1.heap.size, 0, none⟩ = some (.slice (some ⟨b1, off, none⟩) 2 b) ∧ w'.cell? ⟨w1.heap.size, 1, none⟩ = some (.slice r 0 c) ∧ w'.cell? ⟨w1.heap.size, 2, none⟩ = some (.int .i64 0) ∧ w'.cell? ⟨b1, off, none⟩ = some (.string ⟨#[117, 64, 97]⟩)) (by kernel_rfl) ⟨bs.at 2 0 rfl rfl, bs.at 2 1 rfl rfl, bs.at 2 2 rfl rfl, HC.out _ o_c.csub.1⟩ (fun hHeld => ?_)
 generalize w2.drew = w3 at bs o_c q y3 hHeld ⊢
 refine tk_start [(0, some 9), (1, some 10), (2, some 11), (3, some 12), (4, some 13), (5, some 14), (6, some 15), (7, some 16), (8, some 17), (9, some 18), (10, some 19), (11, some 20), (12, some 21), (13, some 22), (14, some 23), (15, some 24), (16, some 25)] ?_
 iterate 17
  refine tk_step (v := ?_) (by kernel_rfl) (by kernel_rfl) (fun _ _ _ h => h) (by assumption) (fun o ho w' hSw => ?_) ?_
  rotate_left
  ·simp only [List.getElem?_toArray, List.getElem?_cons_succ, List.getElem?_cons_zero, Option.some.injEq] at ho; subst ho; (try dsimp only at hSw); go_simp; try with_reducible rfl
  simp only [Act.put, List.setIfInBounds_toArray, List.set_cons_zero, List.set_cons_succ]
 refine tk_end ?_
 refine tk_call (i := 17) (by kernel_rfl) (by kernel_rfl) (fun o ho K hK => ?_)
 simp only [List.getElem?_toArray, List.getElem?_cons_succ, List.getElem?_cons_zero, Option.some.injEq] at ho
 subst ho
 have c_z0 := bs.at 0 0 rfl rfl
 have f_z0 := bs.fz 0 0 rfl rfl
 have c_z1 := bs.at 0 1 rfl rfl
 have f_z1 := bs.fz 0 1 rfl rfl
 have c_z2 := bs.at 0 2 rfl rfl
 have f_z2 := bs.fz 0 2 rfl rfl
 go_simp
 clear c_z0 f_z0 c_z1 f_z1 c_z2 f_z2
 obtain ⟨w4, hw4, y4, bs⟩ := bs.sets 0 0 [.slice (some ⟨b1, off, none⟩) 2 b, .slice r 0 c, .int .i64 0] rfl (Nat.le_of_ble_eq_true rfl)
 replace o_c := o_c.sets 0 rfl hw4
 replace q := bs.q
 simp only [World.setCells, Nat.reduceAdd] at hw4
 rw [hw4]
 clear hHeld
 refine hK.out _ _ ⟨bs.at 2 0 rfl rfl, bs.at 2 1 rfl rfl, bs.at 2 2 rfl rfl, HC.out _ o_c.csub.1⟩ (fun hHeld => ?_)
 clear hK K
 refine tk_on (i := 18) (some 1) (v := ?_) (by kernel_rfl) (by kernel_rfl) (by kernel_rfl) (by kernel_rfl) (fun _ _ _ h => h) (by assumption) (fun o ho w' hSw => ?_) ?_
 rotate_left
 ·(simp only [List.getElem?_toArray, List.getElem?_cons_succ, List.getElem?_cons_zero, Option.some.injEq] at ho; subst ho; (try dsimp only at hSw); go_simp; try with_reducible rfl)
 simp only [Act.put, List.setIfInBounds_toArray, List.set_cons_zero, List.set_cons_succ]
 refine wpAnyH_done (by kernel_rfl) ?_ _
 clear hHeld
 go_wp2_with fail
 refine bodyPost_ret (ret_co2 rfl rfl rfl (bs.box 0 rfl)) rfl ⟨⟨A, (some ⟨b1, off, none⟩, b), R, (r, c), 0⟩, ?_, ?_, o_c.own, q⟩
 ·show _ = Ending.returned (.tuple #[.agg #[.slice (some ⟨b1, off, none⟩) A.length b, .slice r R.length c, .int .i64 0], .bool true])
  rw [HL1.out, HL2.out]
  rfl
 ·show (A.map AcI.d, R.map RsI.d, (0 : Int)) = _
  rw [HD1.out, HD2.out]
  rfl
set_option maxHeartbeats 4000000 in
set_option maxRecDepth 100000 in
theorem l24_binds (c : CoI) (O Rs X : ByteArray) (d' : Co) (w : World) (hs : c.sub w) (hf : flatC c.d = true) (hO : O.size ≤ 4000) (hR : Rs.size ≤ 4000) (hm : ML w) (ht : Tab w) (hb : bindF pT c.d O.data.toList Rs.data.toList = (d', X.data.toList, 0)) :
  Calls Tryz.prog 46 #[c.v, .string O, .string Rs, .string X] w (CoreB w d') := by
 have BD := Lib.hid fun (W : World) (hb2 : Below w.heap.size w W) => ha_Bind pT c O Rs W (fit_plain pT hf (hs.ret hb2)) hO hR (hm.ret hb2) (ht.ret hb2)
 simp only [hb] at BD
 obtain ⟨A, ⟨aa, ac⟩, R, ⟨ra, rc⟩, m⟩ := c
 simp only [CoI.v] at BD ⊢
 have BD2 := BD.out
 unfold BindIs at BD2
 simp only [show (⟨X.data.toList.toArray⟩ : ByteArray) = X by simp] at BD2
 have BD := Lib.hid BD2
 have wX : (X.toList == X.toList) = true := by simp
 clear BD2 hs hf hO hR hm ht hb
 obtain ⟨LA, hLA⟩ : ∃ LA, A.length = LA := ⟨_, rfl⟩
 obtain ⟨LR, hLR⟩ : ∃ LR, R.length = LR := ⟨_, rfl⟩
 rw [hLA, hLR] at BD ⊢
 clear hLA hLR
 obtain ⟨W0, hW, y0, bs⟩ := Sx.start2 w [.slice aa LA ac, .slice ra LR rc, .int .i64 m] 25 [.slice none 0 0, .slice none 0 0, .int .i64 0] 25
 have HW := Lib.hid hW
 clear hW
 have q := bs.q
 go_enter Tryz.func46, Tryz.ntmps46
 go_wp2_with fail
 rw [HW.out]
 have c_c0 := bs.at 0 0 rfl rfl
 have c_c1 := bs.at 0 1 rfl rfl
 have c_c2 := bs.at 0 2 rfl rfl
 go_wp2_with fail
 refine (BD.out W0 q).mono ?_
 rintro e w1 ⟨⟨A2, ⟨a2, c2⟩, R2, ⟨a3, c3⟩, m2⟩, rfl, hd, ho, hb⟩
 clear c_c0 c_c1 c_c2
 have o_c := OwC.mk' bs ho
 replace bs := bs.ret hb
 replace q := bs.q
 clear hb
 have HD := Lib.hid hd
 simp only [CoI.v]
 obtain ⟨L2, hL2⟩ : ∃ LA, A2.length = LA := ⟨_, rfl⟩
 obtain ⟨L3, hL3⟩ : ∃ LR, R2.length = LR := ⟨_, rfl⟩
 rw [hL2, hL3]
 have H2 := Lib.hid hL2
 have H3 := Lib.hid hL3
 clear hd ho hL2 hL3
 have c_z0 := bs.at 1 0 rfl rfl
 have f_z0 := bs.fz 1 0 rfl rfl
 have c_z1 := bs.at 1 1 rfl rfl
 have f_z1 := bs.fz 1 1 rfl rfl
 have c_z2 := bs.at 1 2 rfl rfl
 have f_z2 := bs.fz 1 2 rfl rfl
 have d0 := (bs.lit (w1.heap.size) rfl [.slice a2 L2 c2, .slice a3 L3 c3, .int .i64 m2] 25)
 have c0_n00 := d0.at 2 0 rfl rfl
 have c0_n01 := d0.at 2 1 rfl rfl
 have c0_n02 := d0.at 2 2 rfl rfl
 have c0_z0 := d0.at 1 0 rfl rfl
 have f0_z0 := d0.fz 1 0 rfl rfl
 have c0_z1 := d0.at 1 1 rfl rfl
 have f0_z1 := d0.fz 1 1 rfl rfl
 have c0_z2 := d0.at 1 2 rfl rfl
 have f0_z2 := d0.fz 1 2 rfl rfl
 go_wp2_with fail
 clear c_z0 f_z0 c_z1 f_z1 c_z2 f_z2 d0 c0_n00 c0_n01 c0_n02 c0_z0 f0_z0 c0_z1 f0_z1 c0_z2 f0_z2
 obtain ⟨w2, hw2, y2, al, bs⟩ := bs.alloc (w1.heap.size) rfl [.slice a2 L2 c2, .slice a3 L3 c3, .int .i64 m2] 25
 replace o_c := o_c.alloc (w1.heap.size) rfl al
 clear al
 obtain ⟨w3, hw3, y3, bs⟩ := bs.sets 1 0 [.slice a2 L2 c2, .slice a3 L3 c3, .int .i64 m2] rfl (Nat.le_of_ble_eq_true rfl)
 replace o_c := o_c.sets 1 rfl hw3
 replace q := bs.q
 rw [hw2]
 simp only [World.setCells, Nat.reduceAdd] at hw3
 rw [hw3]
 refine bodyPost_ret (ret_co2 rfl rfl rfl (bs.box 1 rfl)) rfl ⟨⟨A2, (a2, c2), R2, (a3, c3), m2⟩, ?_, HD.out, o_c.own, q⟩
 show _ = Ending.returned (.tuple #[.agg #[.slice a2 A2.length c2, .slice a3 R2.length c3, .int .i64 m2], .bool true])
 rw [H2.out, H3.out]
 first | rfl | simp
end Go.Proofs.YtjgeiieiinmdnaaGreatDoor
namespace Go.Proofs.YtjgeiieiinmdnaaGreatDoor
open Go.RowKit Go.Lib

set_option maxHeartbeats 8000000 in
set_option maxRecDepth 100000 in
theorem l24_alive (w : World) (hm : ML w) (ht : Tab w) : Calls Tryz.prog 34 #[] w (Ret w (.bool true)) := by
 have HM := Lib.hid hm
 have HT := Lib.hid ht
 clear hm ht
 have bs := Sx.start w
 have q := bs.q
 go_enter Tryz.func34, Tryz.ntmps34
 have hc := l24_two w (HM.out.ret q)
 have HC := Lib.hid hc
 clear hc
 go_wp2_with fail
 refine HC.out.mono ?_
 rintro e w1 ⟨⟨A1, ⟨a1, b1⟩, R1, ⟨r1, s1⟩, m1⟩, rfl, hd, ho, hb⟩
 have o_c := OwC.mk' bs ho
 clear ho HC
 replace bs := bs.ret hb
 replace q := bs.q
 clear hb
 obtain ⟨LA1, hLA⟩ : ∃ L, A1.length = L := ⟨_, rfl⟩
 obtain ⟨LR1, hLR⟩ : ∃ L, R1.length = L := ⟨_, rfl⟩
 simp only [CoI.v]
 rw [hLA, hLR]
 have HA1 := Lib.hid hLA
 have HR1 := Lib.hid hLR
 have HD1 := Lib.hid hd
 clear hLA hLR hd
 have d0 := (bs.lit (w1.heap.size) rfl [.slice a1 LA1 b1, .slice r1 LR1 s1, .int .i64 m1] 25)
 have c0_n00 := d0.at 0 0 rfl rfl
 have c0_n01 := d0.at 0 1 rfl rfl
 have c0_n02 := d0.at 0 2 rfl rfl
 go_wp2_with fail
 clear d0 c0_n00 c0_n01 c0_n02
 obtain ⟨w2, hw2, y2, al, bs⟩ := bs.alloc (w1.heap.size) rfl [.slice a1 LA1 b1, .slice r1 LR1 s1, .int .i64 m1] 25
 replace o_c := o_c.alloc (w1.heap.size) rfl al
 clear al
 replace q := bs.q
 rw [hw2]
 have hc := l24_binds ⟨A1, (a1, b1), R1, (r1, s1), m1⟩ ⟨#[117, 64, 97]⟩ ⟨#[104, 111, 109, 101]⟩ ⟨#[117, 64, 97, 47, 104, 111, 109, 101]⟩ dA1 w2 o_c.csub (by rw [HD1.out]; exact plain_A0) (by decide) (by decide) (HM.out.ret q) (HT.out.ret q) (by rw [HD1.out]; exact (bindS_eq (by decide +kernel)).trans bind_A1)
 simp only [CoI.v] at hc
 rw [HA1.out, HR1.out] at hc
 have HC := Lib.hid hc
 clear hc
 have c_c0 := bs.at 0 0 rfl rfl
 have c_c1 := bs.at 0 1 rfl rfl
 have c_c2 := bs.at 0 2 rfl rfl
 go_wp2_with fail
 refine HC.out.mono ?_
 rintro e w3 ⟨⟨A2, ⟨a2, b2⟩, R2, ⟨r2, s2⟩, m2⟩, rfl, hd, ho, hb⟩
 clear c_c0 c_c1 c_c2
 have o_n := OwC.mk' bs ho
 clear ho HC
 replace o_c := o_c.ret hb
 replace bs := bs.ret hb
 replace q := bs.q
 clear hb
 obtain ⟨LA2, hLA⟩ : ∃ L, A2.length = L := ⟨_, rfl⟩
 obtain ⟨LR2, hLR⟩ : ∃ L, R2.length = L := ⟨_, rfl⟩
 simp only [CoI.v]
 rw [hLA, hLR]
 have HA2 := Lib.hid hLA
 have HR2 := Lib.hid hLR
 have HD2 := Lib.hid hd
 clear hLA hLR hd
 clear o_c
 have o_c := o_n
 clear o_n
 have c_c0 := bs.at 0 0 rfl rfl
 have f_c0 := bs.fz 0 0 rfl rfl
 have c_c1 := bs.at 0 1 rfl rfl
 have f_c1 := bs.fz 0 1 rfl rfl
 have c_c2 := bs.at 0 2 rfl rfl
 have f_c2 := bs.fz 0 2 rfl rfl
 go_wp2_with fail
 clear c_c0 f_c0 c_c1 f_c1 c_c2 f_c2
 obtain ⟨w4, hw4, y4, bs⟩ := bs.sets 0 0 [.slice a2 LA2 b2, .slice r2 LR2 s2, .int .i64 m2] rfl (Nat.le_of_ble_eq_true rfl)
 replace o_c := o_c.sets 0 rfl hw4
 replace q := bs.q
 simp only [World.setCells, Nat.reduceAdd] at hw4
 rw [hw4]
 have hc := l24_binds ⟨A2, (a2, b2), R2, (r2, s2), m2⟩ ⟨#[117, 64, 97]⟩ ⟨#[]⟩ ⟨#[117, 64, 97, 47, 114, 49]⟩ dA2 w4 o_c.csub (by rw [HD2.out]; exact plain_A1) (by decide) (by decide) (HM.out.ret q) (HT.out.ret q) (by rw [HD2.out]; exact (bindS_eq (by decide +kernel)).trans bind_A2)
 simp only [CoI.v] at hc
 rw [HA2.out, HR2.out] at hc
 have HC := Lib.hid hc
 clear hc
 have c_c0 := bs.at 0 0 rfl rfl
 have c_c1 := bs.at 0 1 rfl rfl
 have c_c2 := bs.at 0 2 rfl rfl
 go_wp2_with fail
 refine HC.out.mono ?_
 rintro e w5 ⟨⟨A3, ⟨a3, b3⟩, R3, ⟨r3, s3⟩, m3⟩, rfl, hd, ho, hb⟩
 clear c_c0 c_c1 c_c2
 have o_n := OwC.mk' bs ho
 clear ho HC
 replace o_c := o_c.ret hb
 replace bs := bs.ret hb
 replace q := bs.q
 clear hb
 obtain ⟨LA3, hLA⟩ : ∃ L, A3.length = L := ⟨_, rfl⟩
 obtain ⟨LR3, hLR⟩ : ∃ L, R3.length = L := ⟨_, rfl⟩
 simp only [CoI.v]
 rw [hLA, hLR]
 have HA3 := Lib.hid hLA
 have HR3 := Lib.hid hLR
 have HD3 := Lib.hid hd
 clear hLA hLR hd
 clear o_c
 have o_c := o_n
 clear o_n
 have c_c0 := bs.at 0 0 rfl rfl
 have f_c0 := bs.fz 0 0 rfl rfl
 have c_c1 := bs.at 0 1 rfl rfl
 have f_c1 := bs.fz 0 1 rfl rfl
 have c_c2 := bs.at 0 2 rfl rfl
 have f_c2 := bs.fz 0 2 rfl rfl
 go_wp2_with fail
 clear c_c0 f_c0 c_c1 f_c1 c_c2 f_c2
 obtain ⟨w6, hw6, y6, bs⟩ := bs.sets 0 0 [.slice a3 LA3 b3, .slice r3 LR3 s3, .int .i64 m3] rfl (Nat.le_of_ble_eq_true rfl)
 replace o_c := o_c.sets 0 rfl hw6
 replace q := bs.q
 simp only [World.setCells, Nat.reduceAdd] at hw6
 rw [hw6]
 have hc := l24_binds ⟨A3, (a3, b3), R3, (r3, s3), m3⟩ ⟨#[117, 64, 97]⟩ ⟨#[]⟩ ⟨#[117, 64, 97, 47, 114, 50]⟩ dA3 w6 o_c.csub (by rw [HD3.out]; exact plain_A2) (by decide) (by decide) (HM.out.ret q) (HT.out.ret q) (by rw [HD3.out]; exact (bindS_eq (by decide +kernel)).trans bind_A3)
 simp only [CoI.v] at hc
 rw [HA3.out, HR3.out] at hc
 have HC := Lib.hid hc
 clear hc
 have c_c0 := bs.at 0 0 rfl rfl
 have c_c1 := bs.at 0 1 rfl rfl
 have c_c2 := bs.at 0 2 rfl rfl
 go_wp2_with fail
 refine HC.out.mono ?_
 rintro e w7 ⟨⟨A4, ⟨a4, b4⟩, R4, ⟨r4, s4⟩, m4⟩, rfl, hd, ho, hb⟩
 clear c_c0 c_c1 c_c2
 have o_n := OwC.mk' bs ho
 clear ho HC
 replace o_c := o_c.ret hb
 replace bs := bs.ret hb
 replace q := bs.q
 clear hb
 obtain ⟨LA4, hLA⟩ : ∃ L, A4.length = L := ⟨_, rfl⟩
 obtain ⟨LR4, hLR⟩ : ∃ L, R4.length = L := ⟨_, rfl⟩
 simp only [CoI.v]
 rw [hLA, hLR]
 have HA4 := Lib.hid hLA
 have HR4 := Lib.hid hLR
 have HD4 := Lib.hid hd
 clear hLA hLR hd
 clear o_c
 have o_c := o_n
 clear o_n
 have c_c0 := bs.at 0 0 rfl rfl
 have f_c0 := bs.fz 0 0 rfl rfl
 have c_c1 := bs.at 0 1 rfl rfl
 have f_c1 := bs.fz 0 1 rfl rfl
 have c_c2 := bs.at 0 2 rfl rfl
 have f_c2 := bs.fz 0 2 rfl rfl
 go_wp2_with fail
 clear c_c0 f_c0 c_c1 f_c1 c_c2 f_c2
 obtain ⟨w8, hw8, y8, bs⟩ := bs.sets 0 0 [.slice a4 LA4 b4, .slice r4 LR4 s4, .int .i64 m4] rfl (Nat.le_of_ble_eq_true rfl)
 replace o_c := o_c.sets 0 rfl hw8
 replace q := bs.q
 simp only [World.setCells, Nat.reduceAdd] at hw8
 rw [hw8]
 have hl : LR4 = 3 := by rw [← HR4.out]; have := congrArg (fun d : Co => d.2.1.length) HD4.out; simpa [dA3] using this
 have hmm : m4 = 2 := by have := congrArg (fun d : Co => d.2.2) HD4.out; simpa [dA3] using this
 subst hl
 subst hmm
 have hc := ha_Bind pT ⟨A4, (a4, b4), R4, (r4, s4), 2⟩ ⟨#[117, 64, 97]⟩ ⟨#[104, 111, 109, 101]⟩ w8 (fit_plain pT (by rw [HD4.out]; exact plain_A3) o_c.csub) (by decide) (by decide) (HM.out.ret q) (HT.out.ret q)
 have he : bindF pT (CoI.d ⟨A4, (a4, b4), R4, (r4, s4), 2⟩) (⟨#[117, 64, 97]⟩ : ByteArray).data.toList (⟨#[104, 111, 109, 101]⟩ : ByteArray).data.toList = (co0, [], 240) := by rw [HD4.out]; exact (bindS_eq (by decide +kernel)).trans bind_A4
 rw [he] at hc
 clear he
 simp only [CoI.v] at hc
 rw [HA4.out, HR4.out] at hc
 have HC := Lib.hid hc
 clear hc
 have c_c0 := bs.at 0 0 rfl rfl
 have c_c1 := bs.at 0 1 rfl rfl
 have c_c2 := bs.at 0 2 rfl rfl
 go_wp2_with fail
 refine HC.out.mono ?_
 rintro e w9 ⟨⟨A5, ⟨a5, b5⟩, R5, ⟨r5, s5⟩, m5⟩, rfl, hd, ho, hb⟩
 clear c_c0 c_c1 c_c2
 clear ho HC
 replace o_c := o_c.ret hb
 replace bs := bs.ret hb
 replace q := bs.q
 clear hb
 obtain ⟨LA5, hLA⟩ : ∃ L, A5.length = L := ⟨_, rfl⟩
 obtain ⟨LR5, hLR⟩ : ∃ L, R5.length = L := ⟨_, rfl⟩
 simp only [CoI.v]
 rw [hLA, hLR]
 have HA5 := Lib.hid hLA
 have HR5 := Lib.hid hLR
 have HD5 := Lib.hid hd
 clear hLA hLR hd
 have c_c0 := bs.at 0 0 rfl rfl
 have c_c1 := bs.at 0 1 rfl rfl
 have c_c2 := bs.at 0 2 rfl rfl
 have d0 := (bs.lit (w9.heap.size) rfl [.slice a5 LA5 b5, .slice r5 LR5 s5, .int .i64 m5] 25)
 have c0_n00 := d0.at 1 0 rfl rfl
 have c0_n01 := d0.at 1 1 rfl rfl
 have c0_n02 := d0.at 1 2 rfl rfl
 have c0_c0 := d0.at 0 0 rfl rfl
 have c0_c1 := d0.at 0 1 rfl rfl
 have c0_c2 := d0.at 0 2 rfl rfl
 go_wp2_with fail
 clear c_c0 c_c1 c_c2 d0 c0_n00 c0_n01 c0_n02 c0_c0 c0_c1 c0_c2
 obtain ⟨w10, hw10, y10, al, bs⟩ := bs.alloc (w9.heap.size) rfl [.slice a5 LA5 b5, .slice r5 LR5 s5, .int .i64 m5] 25
 replace o_c := o_c.alloc (w9.heap.size) rfl al
 clear al
 replace q := bs.q
 rw [hw10]
 have hc := ha_Bind pT ⟨A4, (a4, b4), R4, (r4, s4), 2⟩ ⟨#[119, 64, 97]⟩ ⟨#[120]⟩ w10 (fit_plain pT (by rw [HD4.out]; exact plain_A3) o_c.csub) (by decide) (by decide) (HM.out.ret q) (HT.out.ret q)
 have he : bindF pT (CoI.d ⟨A4, (a4, b4), R4, (r4, s4), 2⟩) (⟨#[119, 64, 97]⟩ : ByteArray).data.toList (⟨#[120]⟩ : ByteArray).data.toList = (co0, [], 6) := by rw [HD4.out]; exact (bindS_eq (by decide +kernel)).trans bind_A5
 rw [he] at hc
 clear he
 simp only [CoI.v] at hc
 rw [HA4.out, HR4.out] at hc
 have HC := Lib.hid hc
 clear hc
 have c_c0 := bs.at 0 0 rfl rfl
 have c_c1 := bs.at 0 1 rfl rfl
 have c_c2 := bs.at 0 2 rfl rfl
 go_wp2_with fail
 refine HC.out.mono ?_
 rintro e w11 ⟨⟨A6, ⟨a6, b6⟩, R6, ⟨r6, s6⟩, m6⟩, rfl, hd, ho, hb⟩
 clear c_c0 c_c1 c_c2
 clear ho HC
 replace o_c := o_c.ret hb
 replace bs := bs.ret hb
 replace q := bs.q
 clear hb
 obtain ⟨LA6, hLA⟩ : ∃ L, A6.length = L := ⟨_, rfl⟩
 obtain ⟨LR6, hLR⟩ : ∃ L, R6.length = L := ⟨_, rfl⟩
 simp only [CoI.v]
 rw [hLA, hLR]
 have HA6 := Lib.hid hLA
 have HR6 := Lib.hid hLR
 have HD6 := Lib.hid hd
 clear hLA hLR hd
 have c_c0 := bs.at 0 0 rfl rfl
 have c_c1 := bs.at 0 1 rfl rfl
 have c_c2 := bs.at 0 2 rfl rfl
 have d0 := (bs.lit (w11.heap.size) rfl [.slice a6 LA6 b6, .slice r6 LR6 s6, .int .i64 m6] 25)
 have c0_n00 := d0.at 2 0 rfl rfl
 have c0_n01 := d0.at 2 1 rfl rfl
 have c0_n02 := d0.at 2 2 rfl rfl
 have c0_c0 := d0.at 0 0 rfl rfl
 have c0_c1 := d0.at 0 1 rfl rfl
 have c0_c2 := d0.at 0 2 rfl rfl
 go_wp2_with fail
 clear c_c0 c_c1 c_c2 d0 c0_n00 c0_n01 c0_n02 c0_c0 c0_c1 c0_c2
 obtain ⟨w12, hw12, y12, al, bs⟩ := bs.alloc (w11.heap.size) rfl [.slice a6 LA6 b6, .slice r6 LR6 s6, .int .i64 m6] 25
 replace o_c := o_c.alloc (w11.heap.size) rfl al
 clear al
 replace q := bs.q
 rw [hw12]
 have hc := ha_Check pT ⟨A4, (a4, b4), R4, (r4, s4), 2⟩ w12 (fit_plain pT (by rw [HD4.out]; exact plain_A3) o_c.csub) (HM.out.ret q)
 rw [HD4.out, core_A3] at hc
 simp only [CoI.v] at hc
 rw [HA4.out, HR4.out] at hc
 have HC := Lib.hid (show Calls _ _ _ _ (Ret _ (.int .i64 0)) from hc)
 clear hc
 have c_c0 := bs.at 0 0 rfl rfl
 have c_c1 := bs.at 0 1 rfl rfl
 have c_c2 := bs.at 0 2 rfl rfl
 go_wp2_with fail
 refine (HC.out).mono ?_
 rintro e w13 ⟨rfl, hb⟩
 clear c_c0 c_c1 c_c2
 replace o_c := o_c.ret hb
 replace bs := bs.ret hb
 replace q := bs.q
 clear hb
 have c_c0 := bs.at 0 0 rfl rfl
 have c_c1 := bs.at 0 1 rfl rfl
 have c_c2 := bs.at 0 2 rfl rfl
 go_wp2_with fail
 go_ret
 exact ⟨rfl, q⟩
end Go.Proofs.YtjgeiieiinmdnaaGreatDoor
