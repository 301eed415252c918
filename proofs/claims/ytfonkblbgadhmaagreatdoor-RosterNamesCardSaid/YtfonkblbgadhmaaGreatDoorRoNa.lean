/- law21: RosterNames. PRINTED BY PROGRAM (gen_rona.py). -/
import Derived.Test.YtfonkblbgadhmaaGreatDoorRoAl
namespace Go.Proofs.YtfonkblbgadhmaaGreatDoor
open Go.RowKit Go.Lib

theorem conv_1 {P : Program} (w : World) (src dst e : TypeId) (c : UInt8) (v : Int) (hv : v = (c.toNat : Int)) (hs : P.underlying src = some (.slice e)) (he : P.underlying e = some (.int .u8)) (hd : P.underlying dst = some .string) :
  (convert src dst (.slice (some ⟨w.heap.size, 0, none⟩) 1 1)).run P (w.alloc (.cells #[.int .u8 v] e)) = .ok (.string ⟨#[c]⟩) (w.alloc (.cells #[.int .u8 v] e)) :=
 run_convert_bytes_back (P := P) (w.alloc (.cells #[.int .u8 v] e)) src dst e ⟨w.heap.size, 0, none⟩ 1 [c] hs he hd (fun j hj => by
  obtain rfl : j = 0 := by simp at hj; omega
  subst hv
  simp [Addr.add])
def nmI (k : Nat) : It := ([UInt8.ofNat (112 - k), 64, 97], [], [], (false, false, false, false), true)
def nmL : Nat → List It
 | 0 => []
 | k + 1 => nmI k :: nmL k
theorem nmL_len : ∀ k, (nmL k).length = k
 | 0 => rfl
 | k + 1 => by rw [nmL, List.length_cons, nmL_len k]
theorem na_step : ∀ k, k < 16 → (setP (nmL k) k [UInt8.ofNat (112 - k), 64, 97] [] [] = (nmL (k + 1), ((k : Int) + 1)) ∧ setC (nmL k) k [UInt8.ofNat (112 - k), 64, 97] [] [] = 0) := by decide +kernel
theorem na_small : ∀ k, k < 17 → smallB (nmL k) = true := by decide +kernel
def RosN (w : World) (L : List It) (n : Nat) (ver code : Int) (e : Ending) (w' : World) : Prop := ∃ a c, e = .returned (.tuple #[.agg #[.slice a n c, .int .i64 ver], .int .i64 code]) ∧ OwnR w L (.slice a n c) w'
theorem set_lit {L S : List It} {ver V E : Int} {t n : List UInt8} {g : List (List UInt8)} (N : Nat) (hs : smallB L = true) (zt : t.length ≤ 10000) (zn : n.length ≤ 10000) (zg : g.length ≤ 1000) (zx : ∀ x ∈ g, x.length ≤ 10000) (h : setP L ver t n g = (S, V) ∧ setC L ver t n g = E) (hN : S.length = N)
  (v : Value) (M : List Im) (vg : Value) (W : World) (hv : IsItems v M W) (hM : M.map Prod.fst = L) (hm : ML W) (hg : IsGrp vg g W) :
  Calls Tryz.prog 22 #[.agg #[v, .int .i64 ver], .string ⟨t.toArray⟩, .string ⟨n.toArray⟩, vg] W (RosN W S N V E) := by
 have c := ro_Set v ver M t n vg g W hv (small_map hM hs) hm hg zt zn zg zx
 rw [hM, h.1, h.2] at c
 subst hN
 exact c
theorem drop_lit {L S : List It} {ver V E : Int} {t : List UInt8} {X : It} (N : Nat) (hs : smallB L = true) (zt : t.length ≤ 10000) (h : dropP L ver t = (S, V, X) ∧ dropC L ver t = E) (hN : S.length = N)
  (v : Value) (M : List Im) (W : World) (hv : IsItems v M W) (hM : M.map Prod.fst = L) (hm : ML W) :
  Calls Tryz.prog 24 #[.agg #[v, .int .i64 ver], .string ⟨t.toArray⟩] W (fun e w' => ∃ a c p, e = .returned (.tuple #[.agg #[.slice a N c, .int .i64 V], itA p, .int .i64 E]) ∧ p.1 = X ∧ OwnR W S (.slice a N c) w') := by
 have c := ro_Drop v ver M t W hv (small_map hM hs) hm zt
 rw [hM, h.1, h.2] at c
 subst hN
 refine c.mono ?_
 rintro e w' ⟨a, c, p, h1, h2, -, h3⟩
 exact ⟨a, c, p, h1, h2, h3⟩
theorem send_lit {L S : List It} {ver V E : Int} {t : List UInt8} {k : Int} {a b : Bool} (N : Nat) (hs : smallB L = true) (zt : t.length ≤ 10000) (hk0 : 0 ≤ k) (hk1 : k ≤ 255) (h : sendP L ver t k = (S, V, a, b) ∧ sendC L ver t k = E) (hN : S.length = N)
  (v : Value) (M : List Im) (W : World) (hv : IsItems v M W) (hM : M.map Prod.fst = L) (hm : ML W) :
  Calls Tryz.prog 23 #[.agg #[v, .int .i64 ver], .string ⟨t.toArray⟩, .int .u8 k] W (fun e w' => ∃ x c, e = .returned (.tuple #[.agg #[.slice x N c, .int .i64 V], .bool a, .bool b, .int .i64 E]) ∧ OwnR W S (.slice x N c) w') := by
 have c := ro_Send v ver M t k W hv (small_map hM hs) hm zt hk0 hk1
 rw [hM, h.1, h.2] at c
 subst hN
 exact c
theorem take_lit {L S : List It} {ver V E : Int} {t : List UInt8} {k b : Int} {a c : Bool} (N : Nat) (hs : smallB L = true) (zt : t.length ≤ 10000) (hk0 : 0 ≤ k) (hk1 : k ≤ 255) (h : takeP L ver t k = (S, V, a, b, c) ∧ takeC L ver t k = E) (hN : S.length = N)
  (v : Value) (M : List Im) (W : World) (hv : IsItems v M W) (hM : M.map Prod.fst = L) (hm : ML W) :
  Calls Tryz.prog 25 #[.agg #[v, .int .i64 ver], .string ⟨t.toArray⟩, .int .u8 k] W (fun e w' => ∃ x y, e = .returned (.tuple #[.agg #[.slice x N y, .int .i64 V], .bool a, .int .u8 b, .bool c, .int .i64 E]) ∧ OwnR W S (.slice x N y) w') := by
 have c := ro_Take v ver M t k W hv (small_map hM hs) hm zt hk0 hk1
 rw [hM, h.1, h.2] at c
 subst hN
 exact c
theorem nm_1 : setP (nmL 16) 16 [122, 64, 97] [] [] = ([], 0) ∧ setC (nmL 16) 16 [122, 64, 97] [] [] = 9 := by decide +kernel
theorem nm_2 : sendP (nmL 16) 16 [122, 64, 97] 1 = ([], 0, false, false) ∧ sendC (nmL 16) 16 [122, 64, 97] 1 = 9 := by decide +kernel
theorem nm_3 : sendP (nmL 16) 16 [122, 64, 97] 3 = (nmL 16, 16, true, false) ∧ sendC (nmL 16) 16 [122, 64, 97] 3 = 0 := by decide +kernel
theorem nm_4 : setP (nmL 16) 16 [85, 64, 97] [] [] = ([], 0) ∧ setC (nmL 16) 16 [85, 64, 97] [] [] = 2 := by decide +kernel
theorem nm_5 : setP (nmL 16) 16 [117, 64, 97, 47, 114] [] [] = ([], 0) ∧ setC (nmL 16) 16 [117, 64, 97, 47, 114] [] [] = 2 := by decide +kernel
theorem nm_6 : setP (nmL 16) 16 [97, 64, 97] [] [[120], [120]] = ([], 0) ∧ setC (nmL 16) 16 [97, 64, 97] [] [[120], [120]] = 2 := by decide +kernel
theorem nm_7 : dropP (nmL 16) 16 [122, 64, 97] = ([], 0, it0) ∧ dropC (nmL 16) 16 [122, 64, 97] = 6 := by decide +kernel
theorem nm_8 : sendP (nmL 16) 16 [97, 64, 97] 5 = ([], 0, false, false) ∧ sendC (nmL 16) 16 [97, 64, 97] 5 = 2 := by decide +kernel
theorem nm_9 : dropP [itV0] 0 [118, 64, 97] = ([], 0, it0) ∧ dropC [itV0] 0 [118, 64, 97] = 6 := by decide +kernel
theorem nm_10 : takeP [itV0] 0 [118, 64, 97] 3 = ([], 0, true, 0, false) ∧ takeC [itV0] 0 [118, 64, 97] 3 = 0 := by decide +kernel
theorem nm_m : mayR [] 0 = true := by decide +kernel
theorem nm_bad : mayR [([117, 64, 97], [], [], (false, false, false, false), false)] 0 = false := by decide +kernel
theorem na_join (c : UInt8) : (⟨#[c]⟩ : ByteArray) ++ ⟨#[64, 97]⟩ = ⟨#[c, 64, 97]⟩ := by
 apply ByteArray.ext
 simp
theorem na_set (k : Nat) (hk : k < 16) (c : UInt8) (hc : UInt8.ofNat (112 - k) = c) (v : Value) (M : List Im) (W : World) (hv : IsItems v M W) (hM : M.map Prod.fst = nmL k) (hm : ML W) :
  Calls Tryz.prog 22 #[.agg #[v, .int .i64 k], .string (⟨#[c]⟩ ++ ⟨#[64, 97]⟩), .string ⟨#[]⟩, .slice none 0 0] W (RosN W (nmL (k + 1)) (k + 1) (k + 1) 0) := by
 subst hc
 rw [na_join]
 exact set_lit (k + 1) (na_small k (by omega)) (by simp) (by simp) (by simp) (fun x hx => by cases hx) (na_step k hk) (nmL_len _) v M (.slice none 0 0) W hv hM hm (IsGrp.nil W)
set_option maxHeartbeats 8000000 in
set_option maxRecDepth 100000 in
theorem names21 (w : World) (hm : ML w) : Calls Tryz.prog 4 #[] w (Ret w (.bool true)) := by
 have HM := Lib.hid hm
 clear hm
 have bs0 := Sx.start w
 obtain ⟨w0, hw0, y0, bs⟩ := Sx.start1 w [.slice none 0 0, .int .i64 0] 24
 have q := bs.q
 clear bs0
 go_enter Tryz.func4, Tryz.ntmps4
 go_wp2_with fail
 go_loopw [2] (fun i wx => ∃ (k : Nat) (a : Option Addr) (c : Nat) (K : List Im), k ≤ 16 ∧ i = .int .i64 k ∧ K.map Prod.fst = nmL k ∧ OwnX w [w.heap.size] (.slice a k c) K wx ∧ Sx w [(w.heap.size, [.slice a k c, .int .i64 k])] wx) (fun i _ => 16 - (intOf i).toNat)
 case atStart => exact ⟨0, none, 0, [], Nat.zero_le _, rfl, rfl, ⟨⟨World.ownsRow_nil _ _ _ _, fun g hg => by cases hg⟩, fun p hp => by cases hp⟩, bs⟩
 case round =>
  clear bs q hw0 y0
  obtain ⟨k, a, c, K, hk, rfl, hK, o_m, bs⟩ := hrel
  have q := bs.q
  have HK := Lib.hid hK
  clear hK
  by_cases hlt : k < 16
  ·have wk : (k : Int) < 16 := by omega
   obtain ⟨b, hb⟩ : ∃ b, UInt8.ofNat (112 - k) = b := ⟨_, rfl⟩
   have hb2 : 112 - (k : Int) = (b.toNat : Int) := by
    rw [← hb]
    have e : (UInt8.ofNat (112 - k)).toNat = 112 - k := by rw [UInt8.toNat_ofNat']; omega
    omega
   have hcv := conv_1 (P := Tryz.prog) wr 48 9 5 b (112 - (k : Int)) hb2 Tryz.underlying48 Tryz.underlying5 Tryz.underlying9
   have HB := Lib.hid hb
   clear hb hb2
   have c_r0 := bs.at 0 0 rfl rfl
   have c_r1 := bs.at 0 1 rfl rfl
   go_wp2_with fail
   clear c_r0 c_r1
   obtain ⟨w11, hw11, y11, al, bs⟩ := bs.alloc (wr.heap.size) rfl [.int .u8 (112 - (k : Int))] 5
   replace o_m := o_m.alloc (wr.heap.size) rfl al
   clear al
   replace q := bs.q
   rw [hw11]
   refine (na_set k hlt b HB.out _ K w11 o_m.own.items HK.out (HM.out.ret q)).mono ?_
   rintro e w12 ⟨a1, c1, rfl, K1, hK1, hown, hb⟩
   have o_x := OwnX.mk' bs hown
   replace o_m := o_m.ret hb
   replace bs := bs.ret hb
   replace q := bs.q
   clear hb
   clear hown o_m hcv
   have d0 := (bs.lit (w12.heap.size) rfl [.slice a1 (k + 1) c1, .int .i64 (k + 1)] 24)
   have c0_r0 := d0.at 0 0 rfl rfl
   have f0_r0 := d0.fz 0 0 rfl rfl
   have c0_r1 := d0.at 0 1 rfl rfl
   have f0_r1 := d0.fz 0 1 rfl rfl
   have c0_n00 := d0.at 2 0 rfl rfl
   have c0_n01 := d0.at 2 1 rfl rfl
   go_wp2_with fail
   clear d0 c0_r0 f0_r0 c0_r1 f0_r1 c0_n00 c0_n01
   obtain ⟨w13, hw13, y13, al, bs⟩ := bs.alloc (w12.heap.size) rfl [.slice a1 (k + 1) c1, .int .i64 (k + 1)] 24
   replace o_x := o_x.alloc (w12.heap.size) rfl al
   clear al
   obtain ⟨w14, hw14, y14, bs⟩ := bs.sets 0 0 [.slice a1 (k + 1) c1, .int .i64 (k + 1)] rfl (Nat.le_of_ble_eq_true rfl)
   replace o_x := o_x.sets 0 rfl hw14
   replace q := bs.q
   rw [hw13]
   simp only [World.setCells, Nat.reduceAdd] at hw14
   rw [hw14]
   go_roundw
   case rel => exact ⟨k + 1, a1, c1, K1, by omega, by go_num, hK1, o_x.sub (by simp), bs.pre 1⟩
   case measure => simp [intOf]; omega
  ·obtain rfl : k = 16 := by omega
   have hK16 : K.length = 16 := by have := congrArg List.length HK.out; rw [List.length_map, nmL_len] at this; exact this
   obtain ⟨g0, rfl, -, hgB, hgl⟩ := own_some o_m.1.1 (by omega)
   obtain ⟨p0, hp0⟩ : ∃ p, K[0]? = some p := ⟨K[0], List.getElem?_eq_getElem (by omega)⟩
   have hj0 := (own_cellsB o_m.1.1 hK16 0 (by omega) p0 hp0).1
   have hp1 : p0.1 = nmI 15 := by
    have h := congrArg (fun l => l[0]?) HK.out
    simp only [List.getElem?_map, hp0, Option.map_some] at h
    exact Option.some.inj (h.trans (show (nmL 16)[0]? = some (nmI 15) from rfl))
   rw [hp1] at hj0
   have hj1 : wr.cell? ⟨g0, 0, none⟩ = some (.string ⟨#[97, 64, 97]⟩) := hj0
   clear hj0 hp0 hp1
   have c_r0 := bs.at 0 0 rfl rfl
   have c_r1 := bs.at 0 1 rfl rfl
   go_wp2_with fail
   clear c_r0 c_r1
   clear hj1
   refine (set_lit 0 (na_small 16 (by omega)) (by simp) (by simp) (by simp) (by simp) nm_1 rfl _ K _ wr o_m.own.items HK.out (HM.out.ret q) (IsGrp.nil _)).mono ?_
   rintro e w31 ⟨a1, c1, rfl, K1, hK1, hown, hb⟩
   replace o_m := o_m.ret hb
   replace bs := bs.ret hb
   replace q := bs.q
   clear hb
   clear hown hK1 K1
   have d0 := (bs.lit (w31.heap.size) rfl [.slice a1 0 c1, .int .i64 0] 24)
   have c0_r0 := d0.at 0 0 rfl rfl
   have c0_r1 := d0.at 0 1 rfl rfl
   go_wp2_with fail
   clear d0 c0_r0 c0_r1
   obtain ⟨w32, hw32, y32, al, bs⟩ := bs.alloc (w31.heap.size) rfl [.slice a1 0 c1, .int .i64 0] 24
   replace o_m := o_m.alloc (w31.heap.size) rfl al
   clear al
   replace q := bs.q
   rw [hw32]
   refine (send_lit 0 (na_small 16 (by omega)) (by simp) (by decide) (by decide) nm_2 rfl _ K w32 o_m.own.items HK.out (HM.out.ret q)).mono ?_
   rintro e w33 ⟨a2, c2, rfl, K2, hK2, hown, hb⟩
   replace o_m := o_m.ret hb
   replace bs := bs.ret hb
   replace q := bs.q
   clear hb
   clear hown hK2 K2
   have d0 := (bs.lit (w33.heap.size) rfl [.slice a2 0 c2, .int .i64 0] 24)
   have c0_r0 := d0.at 0 0 rfl rfl
   have c0_r1 := d0.at 0 1 rfl rfl
   go_wp2_with fail
   clear d0 c0_r0 c0_r1
   obtain ⟨w34, hw34, y34, al, bs⟩ := bs.alloc (w33.heap.size) rfl [.slice a2 0 c2, .int .i64 0] 24
   replace o_m := o_m.alloc (w33.heap.size) rfl al
   clear al
   replace q := bs.q
   rw [hw34]
   refine (send_lit 16 (na_small 16 (by omega)) (by simp) (by decide) (by decide) nm_3 (nmL_len 16) _ K w34 o_m.own.items HK.out (HM.out.ret q)).mono ?_
   rintro e w35 ⟨a3, c3, rfl, K3, hK3, hown, hb⟩
   replace o_m := o_m.ret hb
   replace bs := bs.ret hb
   replace q := bs.q
   clear hb
   clear hown hK3 K3
   have d0 := (bs.lit (w35.heap.size) rfl [.slice a3 16 c3, .int .i64 16] 24)
   have c0_r0 := d0.at 0 0 rfl rfl
   have c0_r1 := d0.at 0 1 rfl rfl
   go_wp2_with fail
   clear d0 c0_r0 c0_r1
   obtain ⟨w36, hw36, y36, al, bs⟩ := bs.alloc (w35.heap.size) rfl [.slice a3 16 c3, .int .i64 16] 24
   replace o_m := o_m.alloc (w35.heap.size) rfl al
   clear al
   replace q := bs.q
   rw [hw36]
   refine (set_lit 0 (na_small 16 (by omega)) (by simp) (by simp) (by simp) (by simp) nm_4 rfl _ K _ w36 o_m.own.items HK.out (HM.out.ret q) (IsGrp.nil _)).mono ?_
   rintro e w37 ⟨a4, c4, rfl, K4, hK4, hown, hb⟩
   replace o_m := o_m.ret hb
   replace bs := bs.ret hb
   replace q := bs.q
   clear hb
   clear hown hK4 K4
   have d0 := (bs.lit (w37.heap.size) rfl [.slice a4 0 c4, .int .i64 0] 24)
   have c0_r0 := d0.at 0 0 rfl rfl
   have c0_r1 := d0.at 0 1 rfl rfl
   go_wp2_with fail
   clear d0 c0_r0 c0_r1
   obtain ⟨w38, hw38, y38, al, bs⟩ := bs.alloc (w37.heap.size) rfl [.slice a4 0 c4, .int .i64 0] 24
   replace o_m := o_m.alloc (w37.heap.size) rfl al
   clear al
   replace q := bs.q
   rw [hw38]
   refine (set_lit 0 (na_small 16 (by omega)) (by simp) (by simp) (by simp) (by simp) nm_5 rfl _ K _ w38 o_m.own.items HK.out (HM.out.ret q) (IsGrp.nil _)).mono ?_
   rintro e w39 ⟨a5, c5, rfl, K5, hK5, hown, hb⟩
   replace o_m := o_m.ret hb
   replace bs := bs.ret hb
   replace q := bs.q
   clear hb
   clear hown hK5 K5
   have d0 := (bs.lit (w39.heap.size) rfl [.slice a5 0 c5, .int .i64 0] 24)
   have c0_r0 := d0.at 0 0 rfl rfl
   have c0_r1 := d0.at 0 1 rfl rfl
   go_wp2_with fail
   clear d0 c0_r0 c0_r1
   obtain ⟨w40, hw40, y40, al, bs⟩ := bs.alloc (w39.heap.size) rfl [.slice a5 0 c5, .int .i64 0] 24
   replace o_m := o_m.alloc (w39.heap.size) rfl al
   clear al
   replace q := bs.q
   obtain ⟨w41, hw41, y41, al, bs⟩ := bs.alloc (w39.heap.size + 1) (by omega) [.string ⟨#[120]⟩, .string ⟨#[120]⟩] 9
   replace o_m := o_m.alloc (w39.heap.size + 1) (by omega) al
   clear al
   replace q := bs.q
   rw [hw40]
   rw [hw41]
   refine (set_lit 0 (na_small 16 (by omega)) (by simp) (by simp) (by simp) (by simp) nm_6 rfl _ K _ w41 o_m.own.items HK.out (HM.out.ret q) (grp_box (bs.box 6 rfl) 2 (by decide))).mono ?_
   rintro e w42 ⟨a6, c6, rfl, K6, hK6, hown, hb⟩
   replace o_m := o_m.ret hb
   replace bs := bs.ret hb
   replace q := bs.q
   clear hb
   clear hown hK6 K6
   have d0 := (bs.lit (w42.heap.size) rfl [.slice a6 0 c6, .int .i64 0] 24)
   have c0_r0 := d0.at 0 0 rfl rfl
   have c0_r1 := d0.at 0 1 rfl rfl
   go_wp2_with fail
   clear d0 c0_r0 c0_r1
   obtain ⟨w43, hw43, y43, al, bs⟩ := bs.alloc (w42.heap.size) rfl [.slice a6 0 c6, .int .i64 0] 24
   replace o_m := o_m.alloc (w42.heap.size) rfl al
   clear al
   replace q := bs.q
   rw [hw43]
   refine (drop_lit 0 (na_small 16 (by omega)) (by simp) nm_7 rfl _ K w43 o_m.own.items HK.out (HM.out.ret q)).mono ?_
   rintro e w44 ⟨a7, c7, p7, rfl, hp7, K7, hK7, hown, hb⟩
   replace o_m := o_m.ret hb
   replace bs := bs.ret hb
   replace q := bs.q
   clear hb
   clear hown hK7 K7
   clear hp7
   have d0 := ((bs.lit (w44.heap.size) rfl [.slice a7 0 c7, .int .i64 0] 24).lit (w44.heap.size + 1) (by simp; try omega) [.string ⟨p7.1.j.toArray⟩, .string ⟨p7.1.n.toArray⟩, gvI p7, .bool p7.1.s.1, .bool p7.1.s.2.1, .bool p7.1.s.2.2.1, .bool p7.1.s.2.2.2, .bool p7.1.k] 31)
   have c0_r0 := d0.at 0 0 rfl rfl
   have c0_r1 := d0.at 0 1 rfl rfl
   go_wp2_with fail
   clear d0 c0_r0 c0_r1
   obtain ⟨w45, hw45, y45, al, bs⟩ := bs.alloc (w44.heap.size) rfl [.slice a7 0 c7, .int .i64 0] 24
   replace o_m := o_m.alloc (w44.heap.size) rfl al
   clear al
   obtain ⟨w46, hw46, y46, al, bs⟩ := bs.alloc (w44.heap.size + 1) (by omega) [.string ⟨p7.1.j.toArray⟩, .string ⟨p7.1.n.toArray⟩, gvI p7, .bool p7.1.s.1, .bool p7.1.s.2.1, .bool p7.1.s.2.2.1, .bool p7.1.s.2.2.2, .bool p7.1.k] 31
   replace o_m := o_m.alloc (w44.heap.size + 1) (by omega) al
   clear al
   replace q := bs.q
   rw [hw45]
   rw [hw46]
   refine (send_lit 0 (na_small 16 (by omega)) (by simp) (by decide) (by decide) nm_8 rfl _ K w46 o_m.own.items HK.out (HM.out.ret q)).mono ?_
   rintro e w47 ⟨a8, c8, rfl, K8, hK8, hown, hb⟩
   replace o_m := o_m.ret hb
   replace bs := bs.ret hb
   replace q := bs.q
   clear hb
   clear hown hK8 K8
   have d0 := (bs.lit (w47.heap.size) rfl [.slice a8 0 c8, .int .i64 0] 24)
   have c0_r0 := d0.at 0 0 rfl rfl
   have c0_r1 := d0.at 0 1 rfl rfl
   go_wp2_with fail
   clear d0 c0_r0 c0_r1
   obtain ⟨w48, hw48, y48, al, bs⟩ := bs.alloc (w47.heap.size) rfl [.slice a8 0 c8, .int .i64 0] 24
   replace o_m := o_m.alloc (w47.heap.size) rfl al
   clear al
   replace q := bs.q
   rw [hw48]
   refine (al_take w48 (HM.out.ret q)).mono ?_
   rintro e w49 ⟨a9, c9, rfl, K9, hK9, hown, hb⟩
   have o_b := OwnX.mk' bs hown
   replace o_m := o_m.ret hb
   replace bs := bs.ret hb
   replace q := bs.q
   clear hb
   clear hown
   have d0 := (bs.lit (w49.heap.size) rfl [.slice a9 1 c9, .int .i64 0] 24)
   have c0_n00 := d0.at 11 0 rfl rfl
   have c0_n01 := d0.at 11 1 rfl rfl
   go_wp2_with fail
   clear d0 c0_n00 c0_n01
   obtain ⟨w50, hw50, y50, al, bs⟩ := bs.alloc (w49.heap.size) rfl [.slice a9 1 c9, .int .i64 0] 24
   replace o_m := o_m.alloc (w49.heap.size) rfl al
   replace o_b := o_b.alloc (w49.heap.size) rfl al
   clear al
   replace q := bs.q
   rw [hw50]
   refine (drop_lit 0 (by decide) (by simp) nm_9 rfl _ K9 w50 o_b.own.items hK9 (HM.out.ret q)).mono ?_
   rintro e w51 ⟨a10, c10, p10, rfl, hp10, K10, hK10, hown, hb⟩
   replace o_m := o_m.ret hb
   replace o_b := o_b.ret hb
   replace bs := bs.ret hb
   replace q := bs.q
   clear hb
   clear hown hK10 K10
   clear hp10
   have d0 := ((bs.lit (w51.heap.size) rfl [.slice a10 0 c10, .int .i64 0] 24).lit (w51.heap.size + 1) (by simp; try omega) [.string ⟨p10.1.j.toArray⟩, .string ⟨p10.1.n.toArray⟩, gvI p10, .bool p10.1.s.1, .bool p10.1.s.2.1, .bool p10.1.s.2.2.1, .bool p10.1.s.2.2.2, .bool p10.1.k] 31)
   have c0_b00 := d0.at 11 0 rfl rfl
   have c0_b01 := d0.at 11 1 rfl rfl
   go_wp2_with fail
   clear d0 c0_b00 c0_b01
   obtain ⟨w52, hw52, y52, al, bs⟩ := bs.alloc (w51.heap.size) rfl [.slice a10 0 c10, .int .i64 0] 24
   replace o_m := o_m.alloc (w51.heap.size) rfl al
   replace o_b := o_b.alloc (w51.heap.size) rfl al
   clear al
   obtain ⟨w53, hw53, y53, al, bs⟩ := bs.alloc (w51.heap.size + 1) (by omega) [.string ⟨p10.1.j.toArray⟩, .string ⟨p10.1.n.toArray⟩, gvI p10, .bool p10.1.s.1, .bool p10.1.s.2.1, .bool p10.1.s.2.2.1, .bool p10.1.s.2.2.2, .bool p10.1.k] 31
   replace o_m := o_m.alloc (w51.heap.size + 1) (by omega) al
   replace o_b := o_b.alloc (w51.heap.size + 1) (by omega) al
   clear al
   replace q := bs.q
   rw [hw52]
   rw [hw53]
   refine (take_lit 0 (by decide) (by simp) (by decide) (by decide) nm_10 rfl _ K9 w53 o_b.own.items hK9 (HM.out.ret q)).mono ?_
   rintro e w54 ⟨a11, c11, rfl, K11, hK11, hown, hb⟩
   have o_o := OwnX.mk' bs hown
   replace o_m := o_m.ret hb
   replace o_b := o_b.ret hb
   replace bs := bs.ret hb
   replace q := bs.q
   clear hb
   clear hown
   have d0 := (bs.lit (w54.heap.size) rfl [.slice a11 0 c11, .int .i64 0] 24)
   have c0_b00 := d0.at 11 0 rfl rfl
   have c0_b01 := d0.at 11 1 rfl rfl
   go_wp2_with fail
   clear d0 c0_b00 c0_b01
   obtain ⟨w55, hw55, y55, al, bs⟩ := bs.alloc (w54.heap.size) rfl [.slice a11 0 c11, .int .i64 0] 24
   replace o_m := o_m.alloc (w54.heap.size) rfl al
   replace o_b := o_b.alloc (w54.heap.size) rfl al
   replace o_o := o_o.alloc (w54.heap.size) rfl al
   clear al
   replace q := bs.q
   rw [hw55]
   refine (alive21 w55 (HM.out.ret q)).mono ?_
   rintro e w56 ⟨rfl, hb⟩
   replace o_m := o_m.ret hb
   replace o_b := o_b.ret hb
   replace o_o := o_o.ret hb
   replace bs := bs.ret hb
   replace q := bs.q
   clear hb
   have c_o00 := bs.at 14 0 rfl rfl
   have c_o01 := bs.at 14 1 rfl rfl
   go_wp2_with fail
   clear c_o00 c_o01
   refine (l21_has (.slice a11 0 c11) (.slice none 0 0) 0 K11 [] w56 o_o.own.items (IsItems.nil _) (HM.out.ret q) (small_map hK11 (by decide)) (small_map (L := []) rfl (by decide)) (by rw [hK11]; exact nm_m) hK11).mono ?_
   rintro e w57 ⟨rfl, hb⟩
   replace o_m := o_m.ret hb
   replace o_b := o_b.ret hb
   replace o_o := o_o.ret hb
   replace bs := bs.ret hb
   replace q := bs.q
   clear hb
   go_wp2_with fail
   obtain ⟨w58, hw58, y58, al, bs⟩ := bs.alloc (w57.heap.size) rfl [.string ⟨#[117, 64, 97]⟩, .string ⟨#[]⟩, .slice none 0 0, .bool false, .bool false, .bool false, .bool false, .bool false] 31
   replace o_m := o_m.alloc (w57.heap.size) rfl al
   replace o_b := o_b.alloc (w57.heap.size) rfl al
   replace o_o := o_o.alloc (w57.heap.size) rfl al
   clear al
   replace q := bs.q
   rw [hw58]
   have CB := ro_Check (.slice (some ⟨w57.heap.size, 0, none⟩) 1 1) 0 [(([117, 64, 97], [], [], (false, false, false, false), false), (none, 0))] w58 (items_box (bs.box 15 rfl) (IsGrp.nil _)) (small_map (L := [([117, 64, 97], [], [], (false, false, false, false), false)]) rfl (by decide)) (HM.out.ret q)
   rw [show mayR ([((([117, 64, 97], [], [], (false, false, false, false), false), (none, 0)) : Im)].map Prod.fst) 0 = false from nm_bad] at CB
   simp only [Bool.false_eq_true, if_false] at CB
   refine (CB).mono ?_
   rintro e w59 ⟨rfl, hb⟩
   replace o_m := o_m.ret hb
   replace o_b := o_b.ret hb
   replace o_o := o_o.ret hb
   replace bs := bs.ret hb
   replace q := bs.q
   clear hb
   go_wp2_with fail
   go_ret
   exact ⟨rfl, q⟩
end Go.Proofs.YtfonkblbgadhmaaGreatDoor
