/- law21: RosterPushes. PRINTED BY PROGRAM (gen_ropu.py). -/
import Derived.Test.YtfonkblbgadhmaaGreatDoorRoAl
namespace Go.Proofs.YtfonkblbgadhmaaGreatDoor
open Go.RowKit Go.Lib

def BlC (c w : World) : Prop := Below c.heap.size c w
theorem BlC.ret {c w w' : World} (h : BlC c w) (hb : Below w.heap.size w w') : BlC c w' := Below.trans h (hb.mono h.size)
theorem BlC.start (c : World) : BlC c c := Below.refl _ _
theorem BlC.alloc {c w w' : World} (h : BlC c w) (A : Nat) (_ : w.heap.size = A) (hb : Below w.heap.size w w') : BlC c w' := h.ret hb
def ItSm (x : It) : Prop := x.j.length ≤ 10000 ∧ x.n.length ≤ 10000 ∧ x.g.length ≤ 1000 ∧ ∀ y ∈ x.g, y.length ≤ 10000
def Sm (L : List It) : Prop := L.length ≤ 1000 ∧ ∀ x ∈ L, ItSm x
theorem Sm.im {L : List It} {M : List Im} (h : Sm L) (hM : M.map Prod.fst = L) : SmallI M := ⟨by rw [← List.length_map (f := Prod.fst), hM]; exact h.1, fun p hp => h.2 p.1 (by rw [← hM]; exact List.mem_map_of_mem hp)⟩
theorem sm_great {L : List It} (h : greatP L = false) : L.length ≤ 18 ∧ ∀ x ∈ L, ItSm x := by
 obtain ⟨h1, h2⟩ := great_not h
 refine ⟨h1, fun x hx => ?_⟩
 obtain ⟨a, b, c, d⟩ := h2 x hx
 exact ⟨by omega, by omega, by omega, fun y hy => by have := d y hy; omega⟩
theorem sm_put {L : List It} {x : It} (h : L.length ≤ 18 ∧ ∀ x ∈ L, ItSm x) (hx : ItSm x) : Sm (putL L x) := by
 refine ⟨by rw [put_len]; have := h.1; split <;> omega, fun y hy => ?_⟩
 rcases put_mem y hy with rfl | hy
 ·exact hx
 ·exact h.2 y hy
theorem sm_gone {L : List It} {t : List UInt8} (h : L.length ≤ 18 ∧ ∀ x ∈ L, ItSm x) : Sm (goneL L t) := by
 refine ⟨?_, fun y hy => h.2 y (gone_mem y hy)⟩
 have := h.1
 unfold goneL
 split
 ·have := List.length_eraseIdx_le L (posL L t); omega
 ·omega
theorem sm_was {L : List It} {t : List UInt8} (h : ∀ x ∈ L, ItSm x) : ItSm (wasL L t) := by
 unfold wasL
 cases hf : findL L t with
 | none => exact ⟨Nat.zero_le _, Nat.zero_le _, Nat.zero_le _, fun y hy => by cases hy⟩
 | some x => exact h x (find_some hf).1
theorem sm_turn {L : List It} {t : List UInt8} {s : Sb} (h : L.length ≤ 18 ∧ ∀ x ∈ L, ItSm x) (zt : t.length ≤ 500) : Sm (turnL L t s) := by
 unfold turnL
 split
 ·exact sm_gone h
 ·obtain ⟨a, b, c, d⟩ := sm_was (t := t) h.2
  exact sm_put h ⟨show t.length ≤ 10000 by omega, b, c, d⟩
theorem set_go {L : List It} (ver : Int) {t nm : List UInt8} {g : List (List UInt8)} (hgr : greatP L = false) (zt : t.length ≤ 500) (zn : nm.length ≤ 500) (zg : g.length ≤ 10) (zx : ∀ x ∈ g, x.length ≤ 500) :
  ∃ S V E, (E = 0 → TurnsOk L ver S V t true true ∧ Sm S) ∧
   (∀ v K u W, K.map Prod.fst = L → IsItems v K W → ML W → IsGrp u g W → Calls Tryz.prog 22 #[.agg #[v, .int .i64 ver], .string ⟨t.toArray⟩, .string ⟨nm.toArray⟩, u] W (RosC W S V E)) := by
 have hg := sm_great hgr
 refine ⟨(setP L ver t nm g).1, (setP L ver t nm g).2, setC L ver t nm g, fun h => ⟨turns_set h, ?_⟩, fun v K u W hK h1 h2 h3 => ?_⟩
 ·unfold setP
  rw [if_pos h]
  exact sm_put hg ⟨show t.length ≤ 10000 by omega, show nm.length ≤ 10000 by omega, show g.length ≤ 1000 by omega, fun y hy => by have := zx y hy; omega⟩
 ·subst hK
  exact ro_Set v ver K t nm u g W h1 (Sm.im ⟨by omega, hg.2⟩ rfl) h2 h3 (by omega) (by omega) (by omega) (fun x hx => by have := zx x hx; omega)
theorem drop_go {L : List It} (ver : Int) {t : List UInt8} (hgr : greatP L = false) (zt : t.length ≤ 500) :
  ∃ S V X E, (E = 0 → TurnsOk L ver S V t true true ∧ Sm S) ∧
   (∀ v K W, K.map Prod.fst = L → IsItems v K W → ML W → Calls Tryz.prog 24 #[.agg #[v, .int .i64 ver], .string ⟨t.toArray⟩] W (DroC W S V X E)) := by
 have hg := sm_great hgr
 refine ⟨(dropP L ver t).1, (dropP L ver t).2.1, (dropP L ver t).2.2, dropC L ver t, fun h => ⟨turns_drop h, ?_⟩, fun v K W hK h1 h2 => ?_⟩
 ·unfold dropP
  rw [if_pos h]
  exact sm_gone hg
 ·subst hK
  exact ro_Drop v ver K t W h1 (Sm.im ⟨by omega, hg.2⟩ rfl) h2 (by omega)
theorem send_go {L : List It} (ver : Int) {t : List UInt8} {k : Int} (hgr : greatP L = false) (zt : t.length ≤ 500) (hk0 : 0 ≤ k) (hk1 : k ≤ 255) :
  ∃ S V a b E, (E = 0 → TurnsOk L ver S V t b false ∧ Sm S) ∧
   (∀ v K W, K.map Prod.fst = L → IsItems v K W → ML W → Calls Tryz.prog 23 #[.agg #[v, .int .i64 ver], .string ⟨t.toArray⟩, .int .u8 k] W (SendC W S V a b E)) := by
 have hg := sm_great hgr
 refine ⟨(sendP L ver t k).1, (sendP L ver t k).2.1, (sendP L ver t k).2.2.1, (sendP L ver t k).2.2.2, sendC L ver t k, fun h => ⟨turns_send h, ?_⟩, fun v K W hK h1 h2 => ?_⟩
 ·unfold sendP
  rw [if_pos h]
  exact sm_turn hg zt
 ·subst hK
  exact ro_Send v ver K t k W h1 (Sm.im ⟨by omega, hg.2⟩ rfl) h2 (by omega) hk0 hk1
theorem take_go {L : List It} (ver : Int) {t : List UInt8} {k : Int} (hgr : greatP L = false) (zt : t.length ≤ 500) (hk0 : 0 ≤ k) (hk1 : k ≤ 255) :
  ∃ S V a b c E, (E = 0 → TurnsOk L ver S V t c false ∧ Sm S) ∧
   (∀ v K W, K.map Prod.fst = L → IsItems v K W → ML W → Calls Tryz.prog 25 #[.agg #[v, .int .i64 ver], .string ⟨t.toArray⟩, .int .u8 k] W (TakeC W S V a b c E)) := by
 have hg := sm_great hgr
 refine ⟨(takeP L ver t k).1, (takeP L ver t k).2.1, (takeP L ver t k).2.2.1, (takeP L ver t k).2.2.2.1, (takeP L ver t k).2.2.2.2, takeC L ver t k, fun h => ⟨turns_take h, ?_⟩, fun v K W hK h1 h2 => ?_⟩
 ·unfold takeP
  rw [if_pos h]
  exact sm_turn hg zt
 ·subst hK
  exact ro_Take v ver K t k W h1 (Sm.im ⟨by omega, hg.2⟩ rfl) h2 (by omega) hk0 hk1
theorem grp_cell' {v : Value} {g : List (List UInt8)} {w : World} (h : IsGrp v g w) {k : Nat} (hk : k < g.length) : ∃ b off cp, v = .slice (some ⟨b, off, none⟩) g.length cp ∧ b < w.heap.size ∧ k ≤ cp ∧ w.cell? ⟨b, off + k, none⟩ = some (.string ⟨(g[k]).toArray⟩) := by
 obtain ⟨hv, a, cap, hv1, hcap⟩ := h
 obtain ⟨b, off, cp, hf, hb0, hc⟩ := vals_cell' hv (k := k) (by rw [strV_len]; exact hk)
 rw [strV_len] at hf
 refine ⟨b, off, cp, hf, hb0, ?_, ?_⟩
 ·rw [hv1] at hf
  simp only [Value.slice.injEq] at hf
  obtain ⟨_, _, rfl⟩ := hf
  omega
 ·have := hc k (by rw [strV_len]; exact hk)
  have e1 : (strV g)[k]'(by rw [strV_len]; exact hk) = .string ⟨(g[k]).toArray⟩ := by simp [strV]
  rwa [e1] at this
set_option maxHeartbeats 4000000 in
set_option maxRecDepth 100000 in
theorem pushes21 (v : Value) (ver : Int) (M : List Im) (t nm : List UInt8) (vg : Value) (g : List (List UInt8)) (kd : Int) (w : World) (hv : IsItems v M w) (hg : IsGrp vg g w) (hm : ML w) (zt : t.length ≤ 9223372036854775807) (zn : nm.length ≤ 9223372036854775807) (hk0 : 0 ≤ kd) (hk1 : kd ≤ 255) :
  Calls Tryz.prog 6 #[.agg #[v, .int .i64 ver], .string ⟨t.toArray⟩, .string ⟨nm.toArray⟩, vg, .int .u8 kd] w (Ret w (.bool true)) := by
 obtain ⟨a0, cap0, hf, -⟩ := hv.form
 obtain ⟨-, ag, cg, hgf, hgc⟩ := id hg
 obtain ⟨L0, hL⟩ : ∃ L, M.length = L := ⟨_, rfl⟩
 obtain ⟨G0, hG⟩ : ∃ G, g.length = G := ⟨_, rfl⟩
 rw [hL] at hf
 rw [hG] at hgf hgc
 subst hf
 subst hgf
 have zt2 : (⟨t.toArray⟩ : ByteArray).size = t.length := by rw [← size_toList]
 have zn2 : (⟨nm.toArray⟩ : ByteArray).size = nm.length := by rw [← size_toList]
 have HV := Lib.hid hv
 have HG := Lib.hid hg
 have HM := Lib.hid hm
 have HL := Lib.hid hL
 have HGL := Lib.hid hG
 have CG := fun (w' : World) (hb : Below w.heap.size w w') => r21_Great (.slice a0 L0 cap0) ver M w' (hv.ret hb)
 cases hgr : greatP (M.map Prod.fst) with
 | true =>
  rw [hgr] at CG
  have CG := Lib.hid CG
  clear hv hg hm hL hG hgr
  obtain ⟨W0, hW, y0, bs⟩ := Sx.start1 w [.slice a0 L0 cap0, .int .i64 ver] 24
  have HW := Lib.hid hW
  clear hW
  have q := bs.q
  go_enter Tryz.func6, Tryz.ntmps6
  go_wp2_with fail
  rw [HW.out]
  refine (alive21 W0 (HM.out.ret q)).mono ?_
  rintro e w1 ⟨rfl, hb⟩
  replace bs := bs.ret hb
  replace q := bs.q
  clear hb
  have c_r0 := bs.at 0 0 rfl rfl
  have c_r1 := bs.at 0 1 rfl rfl
  go_wp2_with fail
  refine (CG.out w1 q).mono ?_
  rintro e w2 ⟨rfl, hb⟩
  clear c_r0 c_r1
  replace bs := bs.ret hb
  replace q := bs.q
  clear hb
  go_wp2_with fail
  go_ret
  exact ⟨rfl, q⟩
 | false =>
  rw [hgr] at CG
  have CG := Lib.hid CG
  have HGR := Lib.hid hgr
  have HSM : Hid (SmallI M) := Lib.hid (Sm.im ⟨by have := (sm_great hgr).1; omega, (sm_great hgr).2⟩ rfl)
  clear hv hg hm hL hG hgr
  by_cases h1 : 500 < t.length
  ·have h1' : (500 : Int) < (t.length : Int) := by omega
   obtain ⟨W0, hW, y0, bs⟩ := Sx.start1 w [.slice a0 L0 cap0, .int .i64 ver] 24
   have HW := Lib.hid hW
   clear hW
   have q := bs.q
   go_enter Tryz.func6, Tryz.ntmps6
   go_wp2_with fail
   rw [HW.out]
   refine (alive21 W0 (HM.out.ret q)).mono ?_
   rintro e w1 ⟨rfl, hb⟩
   replace bs := bs.ret hb
   replace q := bs.q
   clear hb
   have c_r0 := bs.at 0 0 rfl rfl
   have c_r1 := bs.at 0 1 rfl rfl
   go_wp2_with fail
   refine (CG.out w1 q).mono ?_
   rintro e w2 ⟨rfl, hb⟩
   clear c_r0 c_r1
   replace bs := bs.ret hb
   replace q := bs.q
   clear hb
   go_wp2_with fail
   go_ret
   exact ⟨rfl, q⟩
  have h1' : ¬ (500 : Int) < (t.length : Int) := by omega
  by_cases h2 : 500 < nm.length
  ·have h2' : (500 : Int) < (nm.length : Int) := by omega
   obtain ⟨W0, hW, y0, bs⟩ := Sx.start1 w [.slice a0 L0 cap0, .int .i64 ver] 24
   have HW := Lib.hid hW
   clear hW
   have q := bs.q
   go_enter Tryz.func6, Tryz.ntmps6
   go_wp2_with fail
   rw [HW.out]
   refine (alive21 W0 (HM.out.ret q)).mono ?_
   rintro e w1 ⟨rfl, hb⟩
   replace bs := bs.ret hb
   replace q := bs.q
   clear hb
   have c_r0 := bs.at 0 0 rfl rfl
   have c_r1 := bs.at 0 1 rfl rfl
   go_wp2_with fail
   refine (CG.out w1 q).mono ?_
   rintro e w2 ⟨rfl, hb⟩
   clear c_r0 c_r1
   replace bs := bs.ret hb
   replace q := bs.q
   clear hb
   go_wp2_with fail
   go_ret
   exact ⟨rfl, q⟩
  have h2' : ¬ (500 : Int) < (nm.length : Int) := by omega
  by_cases h3 : 10 < G0
  ·have h3' : (10 : Int) < (G0 : Int) := by omega
   obtain ⟨W0, hW, y0, bs⟩ := Sx.start1 w [.slice a0 L0 cap0, .int .i64 ver] 24
   have HW := Lib.hid hW
   clear hW
   have q := bs.q
   go_enter Tryz.func6, Tryz.ntmps6
   go_wp2_with fail
   rw [HW.out]
   refine (alive21 W0 (HM.out.ret q)).mono ?_
   rintro e w1 ⟨rfl, hb⟩
   replace bs := bs.ret hb
   replace q := bs.q
   clear hb
   have c_r0 := bs.at 0 0 rfl rfl
   have c_r1 := bs.at 0 1 rfl rfl
   go_wp2_with fail
   refine (CG.out w1 q).mono ?_
   rintro e w2 ⟨rfl, hb⟩
   clear c_r0 c_r1
   replace bs := bs.ret hb
   replace q := bs.q
   clear hb
   go_wp2_with fail
   go_ret
   exact ⟨rfl, q⟩
  have h3' : ¬ (10 : Int) < (G0 : Int) := by omega
  obtain ⟨W0, hW, y0, bs⟩ := Sx.start1 w [.slice a0 L0 cap0, .int .i64 ver] 24
  have HW := Lib.hid hW
  clear hW
  have q := bs.q
  go_enter Tryz.func6, Tryz.ntmps6
  go_wp2_with fail
  rw [HW.out]
  refine (alive21 W0 (HM.out.ret q)).mono ?_
  rintro e w1 ⟨rfl, hb⟩
  replace bs := bs.ret hb
  replace q := bs.q
  clear hb
  have c_r0 := bs.at 0 0 rfl rfl
  have c_r1 := bs.at 0 1 rfl rfl
  go_wp2_with fail
  refine (CG.out w1 q).mono ?_
  rintro e w2 ⟨rfl, hb⟩
  clear c_r0 c_r1
  replace bs := bs.ret hb
  replace q := bs.q
  clear hb
  go_wp2_with fail
  go_loopw [12] (fun i wx => ∃ k : Nat, k ≤ G0 ∧ i = .int .i64 k ∧ (∀ x ∈ g.take k, x.length ≤ 500) ∧ wx = w2) (fun i _ => G0 - (intOf i).toNat)
  case atStart => exact ⟨0, Nat.zero_le _, rfl, (fun x hx => by simp at hx), rfl⟩
  case round =>
   obtain ⟨k, hk, rfl, hall, rfl⟩ := hrel
   by_cases hlt : k < G0
   ·have hkg : k < g.length := by rw [HGL.out]; exact hlt
    obtain ⟨b, off, cp, hf, hb0, hkc, hck⟩ := grp_cell' (HG.out.ret q) hkg
    rw [HGL.out] at hf
    simp only [Value.slice.injEq, true_and] at hf
    obtain ⟨rfl, rfl⟩ := hf
    have hsn : (g.take (k + 1)) = g.take k ++ [g[k]] := List.take_succ_eq_append_getElem hkg
    obtain ⟨y, hy⟩ : ∃ y, g[k] = y := ⟨_, rfl⟩
    rw [hy] at hck hsn
    have zy : (⟨y.toArray⟩ : ByteArray).size = y.length := by rw [← size_toList]
    have HSN := Lib.hid hsn
    have HALL := Lib.hid hall
    clear hy hsn hall hkg
    by_cases h5 : 500 < y.length
    ·have h5i : (500 : Int) < (y.length : Int) := by omega
     go_wp2_with fail
     go_ret
     exact ⟨rfl, q⟩
    ·have h5i : ¬ (500 : Int) < (y.length : Int) := by omega
     go_wp2_with fail
     go_roundw
     case rel => exact ⟨k + 1, by omega, by go_num, (fun x hx => by
      rw [HSN.out] at hx
      rcases List.mem_append.1 hx with h | h
      ·exact HALL.out x h
      ·rw [List.mem_singleton.1 h]; omega), (by first | exact rfl | trivial)⟩
     case measure => simp [intOf]; omega
   ·obtain rfl : G0 = k := by omega
    have hg5 : ∀ x ∈ g, x.length ≤ 500 := by
     rw [List.take_of_length_le (by rw [HGL.out]; exact Nat.le_refl _)] at hall
     exact hall
    obtain ⟨S1, V1, E1, tS, PS⟩ := set_go (t := t) (nm := nm) (g := g) ver HGR.out (by omega) (by omega) (by rw [HGL.out]; omega) hg5
    obtain ⟨S2, V2, X2, E2, tD, PD⟩ := drop_go (t := t) ver HGR.out (by omega)
    obtain ⟨S3, V3, g3, p3, E3, tN, PN⟩ := send_go (t := t) (k := kd) ver HGR.out (by omega) hk0 hk1
    obtain ⟨S4, V4, g4, k4, p4, E4, tT, PT⟩ := take_go (t := t) (k := kd) ver HGR.out (by omega) hk0 hk1
    clear hall hg5 hk hlt
    have TSh := Lib.hid tS
    clear tS
    have PSh := Lib.hid PS
    clear PS
    have TDh := Lib.hid tD
    clear tD
    have PDh := Lib.hid PD
    clear PD
    have TNh := Lib.hid tN
    clear tN
    have PNh := Lib.hid PN
    clear PN
    have TTh := Lib.hid tT
    clear tT
    have PTh := Lib.hid PT
    clear PT
    have c_r0 := bs.at 0 0 rfl rfl
    have c_r1 := bs.at 0 1 rfl rfl
    go_wp2_with fail
    refine (PSh.out (.slice a0 L0 cap0) M (.slice ag G0 cg) wr rfl (HV.out.ret q) (HM.out.ret q) (HG.out.ret q)).mono ?_
    rintro e w11 ⟨a1, c1, rfl, K1, hK1, hown, hb⟩
    clear c_r0 c_r1
    have o_s := OwnX.mk' bs hown
    replace bs := bs.ret hb
    replace q := bs.q
    clear hb
    have HK1 := Lib.hid hK1
    clear hown hK1
    have d0 := (bs.lit (w11.heap.size) rfl [.slice a1 S1.length c1, .int .i64 V1] 24)
    have c0_r0 := d0.at 0 0 rfl rfl
    have c0_r1 := d0.at 0 1 rfl rfl
    go_wp2_with fail
    clear d0 c0_r0 c0_r1
    obtain ⟨w12, hw12, y12, al, bs⟩ := bs.alloc (w11.heap.size) rfl [.slice a1 S1.length c1, .int .i64 V1] 24
    replace o_s := o_s.alloc (w11.heap.size) rfl al
    clear al
    replace q := bs.q
    rw [hw12]
    refine (PDh.out (.slice a0 L0 cap0) M w12 rfl (HV.out.ret q) (HM.out.ret q)).mono ?_
    rintro e w13 ⟨a2, c2, p2, rfl, hp2, hgo, K2, hK2, hown, hb⟩
    have o_d := OwnX.mk' bs hown
    replace o_s := o_s.ret hb
    replace bs := bs.ret hb
    replace q := bs.q
    clear hb
    have HK2 := Lib.hid hK2
    clear hown hK2 hgo hp2
    have d0 := ((bs.lit (w13.heap.size) rfl [.slice a2 S2.length c2, .int .i64 V2] 24).lit (w13.heap.size + 1) (by simp; try omega) [.string ⟨p2.1.j.toArray⟩, .string ⟨p2.1.n.toArray⟩, gvI p2, .bool p2.1.s.1, .bool p2.1.s.2.1, .bool p2.1.s.2.2.1, .bool p2.1.s.2.2.2, .bool p2.1.k] 31)
    have c0_r0 := d0.at 0 0 rfl rfl
    have c0_r1 := d0.at 0 1 rfl rfl
    go_wp2_with fail
    clear d0 c0_r0 c0_r1
    obtain ⟨w14, hw14, y14, al, bs⟩ := bs.alloc (w13.heap.size) rfl [.slice a2 S2.length c2, .int .i64 V2] 24
    replace o_s := o_s.alloc (w13.heap.size) rfl al
    replace o_d := o_d.alloc (w13.heap.size) rfl al
    clear al
    obtain ⟨w15, hw15, y15, al, bs⟩ := bs.alloc (w13.heap.size + 1) (by omega) [.string ⟨p2.1.j.toArray⟩, .string ⟨p2.1.n.toArray⟩, gvI p2, .bool p2.1.s.1, .bool p2.1.s.2.1, .bool p2.1.s.2.2.1, .bool p2.1.s.2.2.2, .bool p2.1.k] 31
    replace o_s := o_s.alloc (w13.heap.size + 1) (by omega) al
    replace o_d := o_d.alloc (w13.heap.size + 1) (by omega) al
    clear al
    replace q := bs.q
    rw [hw14]
    rw [hw15]
    refine (PNh.out (.slice a0 L0 cap0) M w15 rfl (HV.out.ret q) (HM.out.ret q)).mono ?_
    rintro e w16 ⟨a3, c3, rfl, K3, hK3, hown, hb⟩
    have o_n := OwnX.mk' bs hown
    replace o_s := o_s.ret hb
    replace o_d := o_d.ret hb
    replace bs := bs.ret hb
    replace q := bs.q
    clear hb
    have HK3 := Lib.hid hK3
    clear hown hK3
    have d0 := (bs.lit (w16.heap.size) rfl [.slice a3 S3.length c3, .int .i64 V3] 24)
    have c0_r0 := d0.at 0 0 rfl rfl
    have c0_r1 := d0.at 0 1 rfl rfl
    go_wp2_with fail
    clear d0 c0_r0 c0_r1
    obtain ⟨w17, hw17, y17, al, bs⟩ := bs.alloc (w16.heap.size) rfl [.slice a3 S3.length c3, .int .i64 V3] 24
    replace o_s := o_s.alloc (w16.heap.size) rfl al
    replace o_d := o_d.alloc (w16.heap.size) rfl al
    replace o_n := o_n.alloc (w16.heap.size) rfl al
    clear al
    replace q := bs.q
    rw [hw17]
    refine (PTh.out (.slice a0 L0 cap0) M w17 rfl (HV.out.ret q) (HM.out.ret q)).mono ?_
    rintro e w18 ⟨a4, c4, rfl, K4, hK4, hown, hb⟩
    have o_m := OwnX.mk' bs hown
    replace o_s := o_s.ret hb
    replace o_d := o_d.ret hb
    replace o_n := o_n.ret hb
    replace bs := bs.ret hb
    replace q := bs.q
    clear hb
    have HK4 := Lib.hid hK4
    clear hown hK4
    go_upto_region 13 with fail
    obtain ⟨w19, hw19, y19, al, bs⟩ := bs.alloc (w18.heap.size) rfl [.slice a4 S4.length c4, .int .i64 V4] 24
    replace o_s := o_s.alloc (w18.heap.size) rfl al
    replace o_d := o_d.alloc (w18.heap.size) rfl al
    replace o_n := o_n.alloc (w18.heap.size) rfl al
    replace o_m := o_m.alloc (w18.heap.size) rfl al
    clear al
    replace q := bs.q
    rw [hw19]
    have o_k := BlC.start w19
    go_cut [116] (fun c wx => c = .bool false ∧ BlC w19 wx)
    case first =>
     by_cases eE1 : E1 = 0
     ·subst eE1
      by_cases eE2 : E2 = 0
      ·subst eE2
       have c_r0 := bs.at 0 0 rfl rfl
       have c_r1 := bs.at 0 1 rfl rfl
       have c_b10 := bs.at 1 0 rfl rfl
       have c_b11 := bs.at 1 1 rfl rfl
       have c_b20 := bs.at 2 0 rfl rfl
       have c_b21 := bs.at 2 1 rfl rfl
       go_wp2_with fail
       refine (l21_turns (.slice a0 L0 cap0) (.slice a1 S1.length c1) ver V1 M K1 t true true w19 (HV.out.ret q) o_s.own.items (HM.out.ret q) HSM.out (Sm.im (TSh.out trivial).2 HK1.out) (by rw [HK1.out]; exact (TSh.out trivial).1)).mono ?_
       rintro e w20 ⟨rfl, hb⟩
       clear c_r0 c_r1 c_b10 c_b11 c_b20 c_b21
       replace o_s := o_s.ret hb
       replace o_d := o_d.ret hb
       replace o_n := o_n.ret hb
       replace o_m := o_m.ret hb
       replace o_k := o_k.ret hb
       replace bs := bs.ret hb
       replace q := bs.q
       clear hb
       have c_r0 := bs.at 0 0 rfl rfl
       have c_r1 := bs.at 0 1 rfl rfl
       have c_b10 := bs.at 1 0 rfl rfl
       have c_b11 := bs.at 1 1 rfl rfl
       have c_b20 := bs.at 2 0 rfl rfl
       have c_b21 := bs.at 2 1 rfl rfl
       go_wp2_with fail
       refine (l21_turns (.slice a0 L0 cap0) (.slice a2 S2.length c2) ver V2 M K2 t true true w20 (HV.out.ret q) o_d.own.items (HM.out.ret q) HSM.out (Sm.im (TDh.out trivial).2 HK2.out) (by rw [HK2.out]; exact (TDh.out trivial).1)).mono ?_
       rintro e w21 ⟨rfl, hb⟩
       clear c_r0 c_r1 c_b10 c_b11 c_b20 c_b21
       replace o_s := o_s.ret hb
       replace o_d := o_d.ret hb
       replace o_n := o_n.ret hb
       replace o_m := o_m.ret hb
       replace o_k := o_k.ret hb
       replace bs := bs.ret hb
       replace q := bs.q
       clear hb
       go_wp2_with fail
       go_meet
       exact ⟨rfl, o_k⟩
      ·have fE2 : (E2 == 0) = false := by simp [eE2]
       have c_r0 := bs.at 0 0 rfl rfl
       have c_r1 := bs.at 0 1 rfl rfl
       have c_b10 := bs.at 1 0 rfl rfl
       have c_b11 := bs.at 1 1 rfl rfl
       have c_b20 := bs.at 2 0 rfl rfl
       have c_b21 := bs.at 2 1 rfl rfl
       go_wp2_with fail
       refine (l21_turns (.slice a0 L0 cap0) (.slice a1 S1.length c1) ver V1 M K1 t true true w19 (HV.out.ret q) o_s.own.items (HM.out.ret q) HSM.out (Sm.im (TSh.out trivial).2 HK1.out) (by rw [HK1.out]; exact (TSh.out trivial).1)).mono ?_
       rintro e w20 ⟨rfl, hb⟩
       clear c_r0 c_r1 c_b10 c_b11 c_b20 c_b21
       replace o_s := o_s.ret hb
       replace o_d := o_d.ret hb
       replace o_n := o_n.ret hb
       replace o_m := o_m.ret hb
       replace o_k := o_k.ret hb
       replace bs := bs.ret hb
       replace q := bs.q
       clear hb
       have c_r0 := bs.at 0 0 rfl rfl
       have c_r1 := bs.at 0 1 rfl rfl
       have c_b10 := bs.at 1 0 rfl rfl
       have c_b11 := bs.at 1 1 rfl rfl
       have c_b20 := bs.at 2 0 rfl rfl
       have c_b21 := bs.at 2 1 rfl rfl
       go_wp2_with fail
       clear c_r0 c_r1 c_b10 c_b11 c_b20 c_b21
       go_meet
       exact ⟨rfl, o_k⟩
     ·have fE1 : (E1 == 0) = false := by simp [eE1]
      by_cases eE2 : E2 = 0
      ·subst eE2
       have c_r0 := bs.at 0 0 rfl rfl
       have c_r1 := bs.at 0 1 rfl rfl
       have c_b10 := bs.at 1 0 rfl rfl
       have c_b11 := bs.at 1 1 rfl rfl
       have c_b20 := bs.at 2 0 rfl rfl
       have c_b21 := bs.at 2 1 rfl rfl
       go_wp2_with fail
       refine (l21_turns (.slice a0 L0 cap0) (.slice a2 S2.length c2) ver V2 M K2 t true true w19 (HV.out.ret q) o_d.own.items (HM.out.ret q) HSM.out (Sm.im (TDh.out trivial).2 HK2.out) (by rw [HK2.out]; exact (TDh.out trivial).1)).mono ?_
       rintro e w20 ⟨rfl, hb⟩
       clear c_r0 c_r1 c_b10 c_b11 c_b20 c_b21
       replace o_s := o_s.ret hb
       replace o_d := o_d.ret hb
       replace o_n := o_n.ret hb
       replace o_m := o_m.ret hb
       replace o_k := o_k.ret hb
       replace bs := bs.ret hb
       replace q := bs.q
       clear hb
       go_wp2_with fail
       go_meet
       exact ⟨rfl, o_k⟩
      ·have fE2 : (E2 == 0) = false := by simp [eE2]
       have c_r0 := bs.at 0 0 rfl rfl
       have c_r1 := bs.at 0 1 rfl rfl
       have c_b10 := bs.at 1 0 rfl rfl
       have c_b11 := bs.at 1 1 rfl rfl
       have c_b20 := bs.at 2 0 rfl rfl
       have c_b21 := bs.at 2 1 rfl rfl
       go_wp2_with fail
       clear c_r0 c_r1 c_b10 c_b11 c_b20 c_b21
       go_meet
       exact ⟨rfl, o_k⟩
    case rest =>
     obtain ⟨rfl, hb⟩ := hcut
     clear o_k
     replace o_s := o_s.ret hb
     replace o_d := o_d.ret hb
     replace o_n := o_n.ret hb
     replace o_m := o_m.ret hb
     replace bs := bs.ret hb
     replace q := bs.q
     by_cases eE3 : E3 = 0
     ·subst eE3
      by_cases eE4 : E4 = 0
      ·subst eE4
       have c_r0 := bs.at 0 0 rfl rfl
       have c_r1 := bs.at 0 1 rfl rfl
       have c_b30 := bs.at 4 0 rfl rfl
       have c_b31 := bs.at 4 1 rfl rfl
       have c_b40 := bs.at 5 0 rfl rfl
       have c_b41 := bs.at 5 1 rfl rfl
       go_wp2_with fail
       refine (l21_turns (.slice a0 L0 cap0) (.slice a3 S3.length c3) ver V3 M K3 t p3 false wc (HV.out.ret q) o_n.own.items (HM.out.ret q) HSM.out (Sm.im (TNh.out trivial).2 HK3.out) (by rw [HK3.out]; exact (TNh.out trivial).1)).mono ?_
       rintro e w61 ⟨rfl, hb⟩
       clear c_r0 c_r1 c_b30 c_b31 c_b40 c_b41
       replace o_s := o_s.ret hb
       replace o_d := o_d.ret hb
       replace o_n := o_n.ret hb
       replace o_m := o_m.ret hb
       replace bs := bs.ret hb
       replace q := bs.q
       clear hb
       have c_r0 := bs.at 0 0 rfl rfl
       have c_r1 := bs.at 0 1 rfl rfl
       have c_b30 := bs.at 4 0 rfl rfl
       have c_b31 := bs.at 4 1 rfl rfl
       have c_b40 := bs.at 5 0 rfl rfl
       have c_b41 := bs.at 5 1 rfl rfl
       go_wp2_with fail
       refine (l21_turns (.slice a0 L0 cap0) (.slice a4 S4.length c4) ver V4 M K4 t p4 false w61 (HV.out.ret q) o_m.own.items (HM.out.ret q) HSM.out (Sm.im (TTh.out trivial).2 HK4.out) (by rw [HK4.out]; exact (TTh.out trivial).1)).mono ?_
       rintro e w62 ⟨rfl, hb⟩
       clear c_r0 c_r1 c_b30 c_b31 c_b40 c_b41
       replace o_s := o_s.ret hb
       replace o_d := o_d.ret hb
       replace o_n := o_n.ret hb
       replace o_m := o_m.ret hb
       replace bs := bs.ret hb
       replace q := bs.q
       clear hb
       go_wp2_with fail
       go_ret
       exact ⟨rfl, q⟩
      ·have fE4 : (E4 == 0) = false := by simp [eE4]
       have c_r0 := bs.at 0 0 rfl rfl
       have c_r1 := bs.at 0 1 rfl rfl
       have c_b30 := bs.at 4 0 rfl rfl
       have c_b31 := bs.at 4 1 rfl rfl
       have c_b40 := bs.at 5 0 rfl rfl
       have c_b41 := bs.at 5 1 rfl rfl
       go_wp2_with fail
       refine (l21_turns (.slice a0 L0 cap0) (.slice a3 S3.length c3) ver V3 M K3 t p3 false wc (HV.out.ret q) o_n.own.items (HM.out.ret q) HSM.out (Sm.im (TNh.out trivial).2 HK3.out) (by rw [HK3.out]; exact (TNh.out trivial).1)).mono ?_
       rintro e w61 ⟨rfl, hb⟩
       clear c_r0 c_r1 c_b30 c_b31 c_b40 c_b41
       replace o_s := o_s.ret hb
       replace o_d := o_d.ret hb
       replace o_n := o_n.ret hb
       replace o_m := o_m.ret hb
       replace bs := bs.ret hb
       replace q := bs.q
       clear hb
       have c_r0 := bs.at 0 0 rfl rfl
       have c_r1 := bs.at 0 1 rfl rfl
       have c_b30 := bs.at 4 0 rfl rfl
       have c_b31 := bs.at 4 1 rfl rfl
       have c_b40 := bs.at 5 0 rfl rfl
       have c_b41 := bs.at 5 1 rfl rfl
       go_wp2_with fail
       clear c_r0 c_r1 c_b30 c_b31 c_b40 c_b41
       go_ret
       exact ⟨rfl, q⟩
     ·have fE3 : (E3 == 0) = false := by simp [eE3]
      by_cases eE4 : E4 = 0
      ·subst eE4
       have c_r0 := bs.at 0 0 rfl rfl
       have c_r1 := bs.at 0 1 rfl rfl
       have c_b30 := bs.at 4 0 rfl rfl
       have c_b31 := bs.at 4 1 rfl rfl
       have c_b40 := bs.at 5 0 rfl rfl
       have c_b41 := bs.at 5 1 rfl rfl
       go_wp2_with fail
       refine (l21_turns (.slice a0 L0 cap0) (.slice a4 S4.length c4) ver V4 M K4 t p4 false wc (HV.out.ret q) o_m.own.items (HM.out.ret q) HSM.out (Sm.im (TTh.out trivial).2 HK4.out) (by rw [HK4.out]; exact (TTh.out trivial).1)).mono ?_
       rintro e w61 ⟨rfl, hb⟩
       clear c_r0 c_r1 c_b30 c_b31 c_b40 c_b41
       replace o_s := o_s.ret hb
       replace o_d := o_d.ret hb
       replace o_n := o_n.ret hb
       replace o_m := o_m.ret hb
       replace bs := bs.ret hb
       replace q := bs.q
       clear hb
       go_wp2_with fail
       go_ret
       exact ⟨rfl, q⟩
      ·have fE4 : (E4 == 0) = false := by simp [eE4]
       have c_r0 := bs.at 0 0 rfl rfl
       have c_r1 := bs.at 0 1 rfl rfl
       have c_b30 := bs.at 4 0 rfl rfl
       have c_b31 := bs.at 4 1 rfl rfl
       have c_b40 := bs.at 5 0 rfl rfl
       have c_b41 := bs.at 5 1 rfl rfl
       go_wp2_with fail
       clear c_r0 c_r1 c_b30 c_b31 c_b40 c_b41
       go_ret
       exact ⟨rfl, q⟩
end Go.Proofs.YtfonkblbgadhmaaGreatDoor
