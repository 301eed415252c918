/- GrA, GrB: put together by mergetpl.py. -/
import Derived.Test.YtjgeiieiinmdnaaGreatDoorLo
import Derived.BigRegion
namespace Go.Proofs.YtjgeiieiinmdnaaGreatDoor
open Go.RowKit Go.Lib

/-- a test that lets small things pass alone. -/
def GrIs (P : Prop) (w : World) (e : Ending) (w' : World) : Prop := ∃ b, e = .returned (.bool b) ∧ (b = false → P) ∧ Below w.heap.size w w'
def mn (l : List UInt8) : Nat := min l.length 20000
theorem mn_if {l : List UInt8} {s : ByteArray} (h : ByteArray.mk l.toArray = s) : min (s.size : Int) 20000 = (mn l : Int) := by
 have : s.size = l.length := by rw [← h, ← size_toList]
 rw [this]
 unfold mn
 omega
structure NdB (m : Nat) (n : Nd) : Prop where
 sp : mn n.2.1 ≤ m
 nm : mn n.2.2.1 ≤ m
 tx : mn n.2.2.2.2.1 ≤ m
 al : n.2.2.2.1.length ≤ 30
 at' : ∀ a ∈ n.2.2.2.1, mn a.1 ≤ m ∧ mn a.2.1 ≤ m ∧ mn a.2.2 ≤ m
theorem NdB.mono {m m' : Nat} {n : Nd} (h : NdB m n) (hm : m ≤ m') : NdB m' n := ⟨Nat.le_trans h.sp hm, Nat.le_trans h.nm hm, Nat.le_trans h.tx hm, h.al, fun a ha => by have := h.at' a ha; omega⟩
theorem mn_le {l : List UInt8} (h : mn l ≤ 300) : l.length ≤ 300 := by unfold mn at h; omega
theorem NdB.sm {m : Nat} {n : Nd} (h : NdB m n) (hm : m ≤ 300) : NdSm n :=
 ⟨mn_le (by have := h.sp; omega), mn_le (by have := h.nm; omega), mn_le (by have := h.tx; omega), h.al, fun a ha => by have := h.at' a ha; exact ⟨mn_le (by omega), mn_le (by omega), mn_le (by omega)⟩⟩
set_option maxHeartbeats 4000000 in
set_option maxRecDepth 100000 in
theorem r10_Great (T : List NdI) (va : Option Addr) (L vc : Nat) (w : World) (hv : IsL ndY (.slice va L vc) T w) (hL : T.length = L) : Calls Tryz.prog 102 #[.slice va L vc, .int .i64 20, .int .i64 300] w (GrIs (TrSm (T.map Prod.fst)) w) := by
 have HV := Lib.hid hv
 have HL := Lib.hid hL
 have hml : (T.map Prod.fst).length = L := by rw [List.length_map, hL]
 have HML := Lib.hid hml
 clear hv hL hml
 go_enter Tryz.func102, Tryz.ntmps102
 go_wp2_with fail
 go_loopw [7, 8] (fun n i wx => ∃ m k : Nat, n = .int .i64 m ∧ i = .int .i64 k ∧ k ≤ L ∧ k ≤ 600 ∧ m ≤ 1800300 ∧ (∀ x ∈ T.take k, NdB m x.1) ∧ Below w.heap.size w wx) (fun _ i _ => 600 - (intOf i).toNat)
 case atStart => exact ⟨0, 0, rfl, rfl, Nat.zero_le _, by omega, by omega, (fun x hx => by simp at hx), Below.refl _ _⟩
 case round =>
  obtain ⟨m, k, rfl, rfl, hk, hk6, hm, hB, q⟩ := hrel
  by_cases hlt : k < L
  ·by_cases h6 : k < 600
   ·have hkM : k < T.length := by rw [HL.out]; exact hlt
    obtain ⟨x, hx⟩ : ∃ x, T[k] = x := ⟨_, rfl⟩
    have hkx : T[k]? = some x := by rw [List.getElem?_eq_getElem hkM, hx]
    have hxm : x ∈ T := by rw [← hx]; exact List.getElem_mem hkM
    obtain ⟨b, off, cp, hf, -, hc⟩ := HV.out.cells hkx
    rw [HL.out] at hf
    simp only [Value.slice.injEq, true_and] at hf
    obtain ⟨rfl, rfl⟩ := hf
    have hsn : ∀ m', (∀ y ∈ T.take k, NdB m' y.1) → NdB m' x.1 → ∀ y ∈ T.take (k + 1), NdB m' y.1 := fun m' h1 h2 y hy => by
     rw [List.take_succ_eq_append_getElem hkM, List.mem_append] at hy
     rcases hy with hy | hy
     ·exact h1 y hy
     ·rw [List.mem_singleton.1 hy, hx]
      exact h2
    have hA : IsL atY (ndV x) (ndA x) w := HV.out.2.2 x hxm
    obtain ⟨s1, t1⟩ : ∃ b, ByteArray.mk x.1.2.1.toArray = b := ⟨_, rfl⟩
    obtain ⟨s2, t2⟩ : ∃ b, ByteArray.mk x.1.2.2.1.toArray = b := ⟨_, rfl⟩
    obtain ⟨s3, t3⟩ : ∃ b, ByteArray.mk x.1.2.2.2.2.1.toArray = b := ⟨_, rfl⟩
    have i1 := mn_if t1
    have i2 := mn_if t2
    have i3 := mn_if t3
    obtain ⟨xa, hxa⟩ : ∃ a, x.2.1 = a := ⟨_, rfl⟩
    obtain ⟨xc, hxc⟩ : ∃ a, x.2.2 = a := ⟨_, rfl⟩
    obtain ⟨XA, hXA⟩ : ∃ a, ndA x = a := ⟨_, rfl⟩
    obtain ⟨LA, hLA⟩ : ∃ a, XA.length = a := ⟨_, rfl⟩
    have HC := Lib.hid fun (w' : World) (hb : Below w.heap.size w w') => show w'.cell? ⟨b, off + k * 6 + 1, none⟩ = some (.string s1) ∧ w'.cell? ⟨b, off + k * 6 + 2, none⟩ = some (.string s2) ∧ w'.cell? ⟨b, off + k * 6 + 3, none⟩ = some (.slice xa LA xc) ∧ w'.cell? ⟨b, off + k * 6 + 4, none⟩ = some (.string s3) from
     (by rw [← t1, ← t2, ← t3, ← hxa, ← hLA, ← hxc, ← hXA]; exact ⟨hc w' hb 1 _ rfl, hc w' hb 2 _ rfl, hc w' hb 3 _ rfl, hc w' hb 4 _ rfl⟩)
    have hA2 : IsL atY (.slice xa LA xc) XA w := by rw [← hxa, ← hLA, ← hxc, ← hXA]; exact hA
    obtain ⟨p1, hp1⟩ : ∃ p, mn x.1.2.1 = p := ⟨_, rfl⟩
    obtain ⟨p2, hp2⟩ : ∃ p, mn x.1.2.2.1 = p := ⟨_, rfl⟩
    obtain ⟨p3, hp3⟩ : ∃ p, mn x.1.2.2.2.2.1 = p := ⟨_, rfl⟩
    have r1 : p1 ≤ 20000 := by rw [← hp1]; unfold mn; omega
    have r2 : p2 ≤ 20000 := by rw [← hp2]; unfold mn; omega
    have r3 : p3 ≤ 20000 := by rw [← hp3]; unfold mn; omega
    have hnd : ∀ m', m + p2 + p1 + p3 ≤ m' → LA ≤ 30 → (∀ a ∈ XA, mn a.1 ≤ m' ∧ mn a.2.1 ≤ m' ∧ mn a.2.2 ≤ m') → NdB m' x.1 := fun m' h1 h2 h3 => by
     refine ⟨by omega, by omega, by omega, ?_, ?_⟩
     ·have : (ndA x).length ≤ 30 := by rw [hXA, hLA]; exact h2
      exact this
     ·show ∀ a ∈ ndA x, _
      rw [hXA]
      exact h3
    rw [hp1] at i1
    rw [hp2] at i2
    rw [hp3] at i3
    have HS := Lib.hid hsn
    have HN := Lib.hid hnd
    have HA := Lib.hid hA2
    have HLA := Lib.hid hLA
    have HB := Lib.hid hB
    clear hc hkx hxm hx hkM hsn hnd hA hA2 hp1 hp2 hp3 t1 t2 t3 hxa hxc hXA hLA hB
    obtain ⟨c1, c2, c3, c4⟩ := HC.out wr q
    have wl : (k : Int) < (L : Int) := by omega
    have w6 : (k : Int) < 600 := by omega
    go_wp2_with fail
    go_region
    have q1 : Below w.heap.size w wr.drew := q.trans ((Below.drew (Below.refl _ _)).mono q.size)
    clear c1 c2 c3 c4 q
    clear i1 i2 i3
    obtain ⟨N, hN⟩ : ∃ N, m + p2 + p1 + p3 = N := ⟨_, rfl⟩
    have hN2 : (m : Int) + (p2 : Int) + (p1 : Int) + (p3 : Int) = (N : Int) := by omega
    rw [hN2]
    generalize wr.drew = W1 at q1 ⊢
    obtain ⟨c1, c2, c3, c4⟩ := HC.out W1 q1
    by_cases hA : (30 : Int) < (LA : Int)
    ·go_wp2_with fail
     go_ret
     exact ⟨true, rfl, (fun h => by cases h), q1⟩
    ·by_cases hB : (300 : Int) < (N : Int)
     ·go_wp2_with fail
      go_ret
      exact ⟨true, rfl, (fun h => by cases h), q1⟩
     ·clear c1 c2 c4
      go_wp2_with fail
      clear c3
      go_loopw [7, 9] (fun n i wx => ∃ m' j : Nat, n = .int .i64 m' ∧ i = .int .i64 j ∧ j ≤ LA ∧ N ≤ m' ∧ m' ≤ 300 + 60000 * j ∧ (∀ a ∈ XA.take j, mn a.1 ≤ m' ∧ mn a.2.1 ≤ m' ∧ mn a.2.2 ≤ m') ∧ Below w.heap.size w wx) (fun _ i _ => LA - (intOf i).toNat)
      case atStart => exact ⟨N, 0, rfl, rfl, Nat.zero_le _, Nat.le_refl _, by omega, (fun x hx => by simp at hx), q1⟩
      case round =>
       clear q1
       obtain ⟨m', j, rfl, rfl, hj, hNm, hm', hXA, q⟩ := hrel
       obtain ⟨-, -, c3, -⟩ := HC.out _ q
       by_cases hlj : j < LA
       ·have hjM : j < XA.length := by rw [HLA.out]; exact hlj
        obtain ⟨y, hy⟩ : ∃ y, XA[j] = y := ⟨_, rfl⟩
        have hjy : XA[j]? = some y := by rw [List.getElem?_eq_getElem hjM, hy]
        obtain ⟨b2, off2, cp2, hf, -, hd⟩ := HA.out.cells hjy
        rw [HLA.out] at hf
        simp only [Value.slice.injEq, true_and] at hf
        obtain ⟨rfl, rfl⟩ := hf
        have hsn : ∀ m'', (∀ a ∈ XA.take j, mn a.1 ≤ m'' ∧ mn a.2.1 ≤ m'' ∧ mn a.2.2 ≤ m'') → (mn y.1 ≤ m'' ∧ mn y.2.1 ≤ m'' ∧ mn y.2.2 ≤ m'') → ∀ a ∈ XA.take (j + 1), mn a.1 ≤ m'' ∧ mn a.2.1 ≤ m'' ∧ mn a.2.2 ≤ m'' := fun m'' h1 h2 a ha => by
         rw [List.take_succ_eq_append_getElem hjM, List.mem_append] at ha
         rcases ha with ha | ha
         ·exact h1 a ha
         ·rw [List.mem_singleton.1 ha, hy]
          exact h2
        obtain ⟨z1, t1⟩ : ∃ b, ByteArray.mk y.1.toArray = b := ⟨_, rfl⟩
        obtain ⟨z2, t2⟩ : ∃ b, ByteArray.mk y.2.1.toArray = b := ⟨_, rfl⟩
        obtain ⟨z3, t3⟩ : ∃ b, ByteArray.mk y.2.2.toArray = b := ⟨_, rfl⟩
        have i1 := mn_if t1
        have i2 := mn_if t2
        have i3 := mn_if t3
        obtain ⟨d1, d2, d3⟩ : wr.cell? ⟨b2, off2 + j * 3, none⟩ = some (.string z1) ∧ wr.cell? ⟨b2, off2 + j * 3 + 1, none⟩ = some (.string z2) ∧ wr.cell? ⟨b2, off2 + j * 3 + 2, none⟩ = some (.string z3) :=
         (by rw [← t1, ← t2, ← t3]; exact ⟨hd wr q 0 _ rfl, hd wr q 1 _ rfl, hd wr q 2 _ rfl⟩)
        obtain ⟨r1, hr1⟩ : ∃ p, mn y.1 = p := ⟨_, rfl⟩
        obtain ⟨r2, hr2⟩ : ∃ p, mn y.2.1 = p := ⟨_, rfl⟩
        obtain ⟨r3, hr3⟩ : ∃ p, mn y.2.2 = p := ⟨_, rfl⟩
        have g1 : r1 ≤ 20000 := by rw [← hr1]; unfold mn; omega
        have g2 : r2 ≤ 20000 := by rw [← hr2]; unfold mn; omega
        have g3 : r3 ≤ 20000 := by rw [← hr3]; unfold mn; omega
        rw [hr1] at i1 hsn
        rw [hr2] at i2 hsn
        rw [hr3] at i3 hsn
        have HS2 := Lib.hid hsn
        have HX2 := Lib.hid hXA
        have wj : (j : Int) < (LA : Int) := by omega
        have hLA3 : LA ≤ 30 := by omega
        have q2 := q.trans (((Below.refl wr.heap.size wr).alloc (Nat.le_refl _) (.cells #[.string z1, .string z2, .string z3] 160)).mono q.size)
        clear hd hjy hy hjM hsn t1 t2 t3 hr1 hr2 hr3 hXA
        go_wp2_with fail
        clear i1 i2 i3
        have hn2 : (m' : Int) + (r2 : Int) + (r1 : Int) + (r3 : Int) = ((m' + r2 + r1 + r3 : Nat) : Int) := by omega
        rw [hn2]
        go_roundw
        case rel => exact ⟨m' + r2 + r1 + r3, j + 1, rfl, by go_num, by omega, by omega, by omega, HS2.out _ (fun a ha => by have := HX2.out a ha; omega) ⟨by omega, by omega, by omega⟩, q2⟩
        case measure => simp [intOf]; omega
       ·have e : XA.take j = XA := List.take_of_length_le (by rw [HLA.out]; omega)
        rw [e] at hXA
        have hNB := HN.out m' (by omega) (by omega) hXA
        have HNB := Lib.hid hNB
        clear hXA hNB e
        go_wp2_with fail
        go_roundw
        case rel => exact ⟨m', k + 1, rfl, by go_num, by omega, by omega, by omega, HS.out m' (fun y hy => (HB.out y hy).mono (by omega)) HNB.out, q⟩
        case measure => simp [intOf]; omega
   ·obtain rfl : k = 600 := by omega
    have hL20 : (20 : Int) < (L : Int) := by omega
    have wl : (600 : Int) < (L : Int) := by omega
    clear hB
    go_wp2_with fail
    go_ret
    exact ⟨true, rfl, (fun h => by cases h), q⟩
  ·have wl : ¬ (k : Int) < (L : Int) := by omega
   by_cases h20 : (20 : Int) < (L : Int)
   ·clear hB
    go_wp2_with fail
    go_ret
    exact ⟨true, rfl, (fun h => by cases h), q⟩
   ·by_cases h300 : (300 : Int) < (m : Int)
    ·clear hB
     go_wp2_with fail
     go_ret
     exact ⟨true, rfl, (fun h => by cases h), q⟩
    ·have hP : TrSm (T.map Prod.fst) := by
      have e : T.take k = T := List.take_of_length_le (by rw [HL.out]; omega)
      rw [e] at hB
      refine ⟨by rw [HML.out]; omega, fun n hn => ?_⟩
      obtain ⟨y, hy, rfl⟩ := List.mem_map.1 hn
      exact (hB y hy).sm (by omega)
     have HP := Lib.hid hP
     clear hB hP
     go_wp2_with fail
     go_ret
     exact ⟨false, rfl, (fun _ => HP.out), q⟩
end Go.Proofs.YtjgeiieiinmdnaaGreatDoor
namespace Go.Proofs.YtjgeiieiinmdnaaGreatDoor
open Go.RowKit Go.Lib

theorem grp_cell {a : Option Addr} {n c : Nat} {g : List (List UInt8)} {w : World} (h : IsGrp (.slice a n c) g w) {k : Nat} {s : List UInt8} (hk : g[k]? = some s) : ∃ b off, a = some ⟨b, off, none⟩ ∧ ∀ w', Below w.heap.size w w' → w'.cell? ⟨b, off + k, none⟩ = some (.string ⟨s.toArray⟩) := by
 have hkl : k < g.length := by
  rcases Nat.lt_or_ge k g.length with h1 | h1
  ·exact h1
  ·rw [List.getElem?_eq_none h1] at hk; cases hk
 have hs : g[k] = s := by rw [List.getElem?_eq_getElem hkl] at hk; exact Option.some.inj hk
 obtain ⟨b, off, cp, hf, hb, hc⟩ := vals_cell' h.1 (k := k) (by rw [strV_len]; exact hkl)
 simp only [Value.slice.injEq] at hf
 obtain ⟨rfl, -, -⟩ := hf
 refine ⟨b, off, rfl, fun w' hw => ?_⟩
 rw [(bcell hw).1 _ _ hb, hc k (by rw [strV_len]; exact hkl)]
 simp [strV, hs]
theorem take_sn {α : Type} {P : α → Prop} {l : List α} {k : Nat} {x : α} (hx : l[k]? = some x) (h : ∀ y ∈ l.take k, P y) (h2 : P x) : ∀ y ∈ l.take (k + 1), P y := fun y hy => by
 have hkl : k < l.length := by
  rcases Nat.lt_or_ge k l.length with h1 | h1
  ·exact h1
  ·rw [List.getElem?_eq_none h1] at hx; cases hx
 have hs : l[k] = x := by rw [List.getElem?_eq_getElem hkl] at hx; exact Option.some.inj hx
 rw [List.take_succ_eq_append_getElem hkl, List.mem_append] at hy
 rcases hy with hy | hy
 ·exact h y hy
 ·rw [List.mem_singleton.1 hy, hs]
  exact h2
theorem take_al {α : Type} {P : α → Prop} {l : List α} {k : Nat} (hk : l.length ≤ k) (h : ∀ y ∈ l.take k, P y) : ∀ y ∈ l, P y := by rwa [List.take_of_length_le hk] at h
set_option maxHeartbeats 4000000 in
set_option maxRecDepth 100000 in
theorem r24_greatRes (x : RsI) (w : World) (hs : rsY.sub x w) : Calls Tryz.prog 47 #[x.v] w (GrIs (ReSm x.d) w) := by
 have hL : IsL trY x.lv x.ld w := hs.1
 have hS : IsGrp x.sv x.st w := hs.2
 have hP : x.j.length ≤ 300 → x.ld.length ≤ 18 → x.st.length ≤ 12 → (∀ t ∈ x.ld, TrSm (trD t)) → (∀ s ∈ x.st, s.length ≤ 300) → ReSm x.d := fun h1 h2 h3 h4 h5 =>
  ⟨h1, by show (x.ld.map trD).length ≤ 18; rw [List.length_map]; exact h2, h3, fun t ht => by obtain ⟨y, hy, rfl⟩ := List.mem_map.1 ht; exact h4 y hy, h5⟩
 have CG := fun (t : TrI) (ht : t ∈ x.ld) (W : World) (hb : Below w.heap.size w W) => r10_Great t.1 t.2.1 t.1.length t.2.2 W (IsL.ret (hL.2.2 t ht) hb) rfl
 have CG := Lib.hid CG
 clear hs
 obtain ⟨X, hX⟩ : ∃ X : Prop, X = ReSm x.d := ⟨_, rfl⟩
 rw [← hX] at hP ⊢
 clear hX
 obtain ⟨xj, on1, pr1, xl, ⟨la1, lb1⟩, ask1, xs, ⟨sa1, sb1⟩⟩ := x
 obtain ⟨jb1, hjb⟩ : ∃ b, ByteArray.mk xj.toArray = b := ⟨_, rfl⟩
 have hz : jb1.size = xj.length := by rw [← hjb, ← size_toList]
 obtain ⟨LL1, hLL⟩ : ∃ L, xl.length = L := ⟨_, rfl⟩
 obtain ⟨SL1, hSL⟩ : ∃ L, xs.length = L := ⟨_, rfl⟩
 have hL : IsL trY (.slice la1 xl.length lb1) xl w := hL
 have hS : IsGrp (.slice sa1 xs.length sb1) xs w := hS
 rw [hLL] at hL hP
 rw [hSL] at hS hP
 show Calls _ _ #[.agg #[.string ⟨xj.toArray⟩, .bool on1, .int .i64 pr1, .slice la1 xl.length lb1, .bool ask1, .slice sa1 xs.length sb1]] w _
 rw [hjb, hLL, hSL]
 have HP := Lib.hid hP
 have HLL := Lib.hid hLL
 have HSL := Lib.hid hSL
 have HL := Lib.hid hL
 have HS := Lib.hid hS
 clear hP hjb hLL hSL hL hS
 obtain ⟨W0, hW, y0, bs⟩ := Sx.start1 w [.string jb1, .bool on1, .int .i64 pr1, .slice la1 LL1 lb1, .bool ask1, .slice sa1 SL1 sb1] 38
 have HW := Lib.hid hW
 clear hW
 have q := bs.q
 go_enter Tryz.func47, Tryz.ntmps47
 go_upto_region 1 with fail
 rw [HW.out]
 by_cases h1 : (300 : Int) < (jb1.size : Int)
 ·have h1d : decide ((300 : Int) < (jb1.size : Int)) = true := decide_eq_true h1
  have c_r0 := bs.at 0 0 rfl rfl
  have c_r1 := bs.at 0 1 rfl rfl
  have c_r2 := bs.at 0 2 rfl rfl
  have c_r3 := bs.at 0 3 rfl rfl
  have c_r4 := bs.at 0 4 rfl rfl
  have c_r5 := bs.at 0 5 rfl rfl
  go_wp2_with fail
  clear c_r0 c_r1 c_r2 c_r3 c_r4 c_r5
  go_ret
  exact ⟨true, rfl, (fun h => by cases h), q⟩
 ·have h1d : decide ((300 : Int) < (jb1.size : Int)) = false := decide_eq_false h1
  by_cases h2 : (18 : Int) < (LL1 : Int)
  ·have h2d : decide ((18 : Int) < (LL1 : Int)) = true := decide_eq_true h2
   have c_r0 := bs.at 0 0 rfl rfl
   have c_r1 := bs.at 0 1 rfl rfl
   have c_r2 := bs.at 0 2 rfl rfl
   have c_r3 := bs.at 0 3 rfl rfl
   have c_r4 := bs.at 0 4 rfl rfl
   have c_r5 := bs.at 0 5 rfl rfl
   go_wp2_with fail
   clear c_r0 c_r1 c_r2 c_r3 c_r4 c_r5
   go_ret
   exact ⟨true, rfl, (fun h => by cases h), q⟩
  ·have h2d : decide ((18 : Int) < (LL1 : Int)) = false := decide_eq_false h2
   by_cases h3 : (12 : Int) < (SL1 : Int)
   ·have h3d : decide ((12 : Int) < (SL1 : Int)) = true := decide_eq_true h3
    have c_r0 := bs.at 0 0 rfl rfl
    have c_r1 := bs.at 0 1 rfl rfl
    have c_r2 := bs.at 0 2 rfl rfl
    have c_r3 := bs.at 0 3 rfl rfl
    have c_r4 := bs.at 0 4 rfl rfl
    have c_r5 := bs.at 0 5 rfl rfl
    go_wp2_with fail
    clear c_r0 c_r1 c_r2 c_r3 c_r4 c_r5
    go_ret
    exact ⟨true, rfl, (fun h => by cases h), q⟩
   ·have h3d : decide ((12 : Int) < (SL1 : Int)) = false := decide_eq_false h3
    have c_r0 := bs.at 0 0 rfl rfl
    have c_r1 := bs.at 0 1 rfl rfl
    have c_r2 := bs.at 0 2 rfl rfl
    have c_r3 := bs.at 0 3 rfl rfl
    have c_r4 := bs.at 0 4 rfl rfl
    have c_r5 := bs.at 0 5 rfl rfl
    go_wp2_with fail
    clear c_r0 c_r1 c_r2 c_r3 c_r4 c_r5
    go_loopw [3] (fun i wx => ∃ k : Nat, i = .int .i64 k ∧ k ≤ LL1 ∧ (∀ t ∈ xl.take k, TrSm (trD t)) ∧ Sx w [(w.heap.size, [.string jb1, .bool on1, .int .i64 pr1, .slice la1 LL1 lb1, .bool ask1, .slice sa1 SL1 sb1])] wx) (fun i _ => LL1 - (intOf i).toNat)
    case atStart => exact ⟨0, rfl, Nat.zero_le _, (fun t ht => by simp at ht), bs⟩
    case round =>
     clear bs q
     obtain ⟨k, rfl, hk, hT, bs⟩ := hrel
     have q := bs.q
     by_cases hlt : k < LL1
     ·have hkM : k < xl.length := by rw [HLL.out]; exact hlt
      obtain ⟨t, ht⟩ : ∃ t, xl[k] = t := ⟨_, rfl⟩
      have hkt : xl[k]? = some t := by rw [List.getElem?_eq_getElem hkM, ht]
      have htm : t ∈ xl := by rw [← ht]; exact List.getElem_mem hkM
      obtain ⟨b, off, cp, hf, -, hc⟩ := HL.out.cells hkt
      rw [HLL.out] at hf
      simp only [Value.slice.injEq, true_and] at hf
      obtain ⟨rfl, rfl⟩ := hf
      have CG1 := CG.out t htm
      have HSN := Lib.hid fun h => take_sn (P := fun t => TrSm (trD t)) hkt hT h
      obtain ⟨t0, ta, tc⟩ := t
      obtain ⟨tl, htl⟩ : ∃ l, t0.length = l := ⟨_, rfl⟩
      simp only [htl] at CG1
      have c9 : wr.cell? ⟨b, off + k, none⟩ = some (.slice ta tl tc) := by
       have h := hc wr q 0 _ rfl
       rw [← htl]
       rwa [show off + k * trY.n + 0 = off + k from (by show off + k * 1 + 0 = off + k; omega)] at h
      replace CG1 := Lib.hid CG1
      have wl : (k : Int) < (LL1 : Int) := by omega
      clear ht hkt htm hc htl hT
      have c_r0 := bs.at 0 0 rfl rfl
      have c_r1 := bs.at 0 1 rfl rfl
      have c_r2 := bs.at 0 2 rfl rfl
      have c_r3 := bs.at 0 3 rfl rfl
      have c_r4 := bs.at 0 4 rfl rfl
      have c_r5 := bs.at 0 5 rfl rfl
      go_wp2_with fail
      refine (CG1.out wr q).mono ?_
      rintro e w21 ⟨g, rfl, hg, hb⟩
      clear c_r0 c_r1 c_r2 c_r3 c_r4 c_r5
      replace bs := bs.ret hb
      replace q := bs.q
      clear hb
      clear c9
      cases g with
      | true =>
       go_wp2_with fail
       go_ret
       exact ⟨true, rfl, (fun h => by cases h), q⟩
      | false =>
       have HG := Lib.hid (hg rfl)
       clear hg
       go_wp2_with fail
       go_roundw
       case rel => exact ⟨k + 1, by go_num, by omega, HSN.out HG.out, bs⟩
       case measure => simp [intOf]; omega
     ·have wl : ¬ (k : Int) < (LL1 : Int) := by omega
      have hT2 := take_al (by rw [HLL.out]; omega) hT
      have HT := Lib.hid hT2
      clear hT hT2
      have c_r0 := bs.at 0 0 rfl rfl
      have c_r1 := bs.at 0 1 rfl rfl
      have c_r2 := bs.at 0 2 rfl rfl
      have c_r3 := bs.at 0 3 rfl rfl
      have c_r4 := bs.at 0 4 rfl rfl
      have c_r5 := bs.at 0 5 rfl rfl
      go_wp2_with fail
      clear c_r0 c_r1 c_r2 c_r3 c_r4 c_r5
      go_loopw [4] (fun i wx => ∃ e : Nat, i = .int .i64 e ∧ e ≤ SL1 ∧ (∀ s ∈ xs.take e, s.length ≤ 300) ∧ Sx w [(w.heap.size, [.string jb1, .bool on1, .int .i64 pr1, .slice la1 LL1 lb1, .bool ask1, .slice sa1 SL1 sb1])] wx) (fun i _ => SL1 - (intOf i).toNat)
      case atStart => exact ⟨0, rfl, Nat.zero_le _, (fun t ht => by simp at ht), bs⟩
      case round =>
       clear bs q
       obtain ⟨e, rfl, he, hT, bs⟩ := hrel
       have q := bs.q
       by_cases hle : e < SL1
       ·have hkM : e < xs.length := by rw [HSL.out]; exact hle
        obtain ⟨t, ht⟩ : ∃ t, xs[e] = t := ⟨_, rfl⟩
        have hkt : xs[e]? = some t := by rw [List.getElem?_eq_getElem hkM, ht]
        obtain ⟨b, off, rfl, hc⟩ := grp_cell HS.out hkt
        have HSN := Lib.hid fun h => take_sn (P := fun s : List UInt8 => s.length ≤ 300) hkt hT h
        obtain ⟨tb, htb⟩ : ∃ b, ByteArray.mk t.toArray = b := ⟨_, rfl⟩
        have hz2 : tb.size = t.length := by rw [← htb, ← size_toList]
        have c9 := hc wr q
        rw [htb] at c9
        have HZ2 := Lib.hid hz2
        have wl : (e : Int) < (SL1 : Int) := by omega
        clear ht hkt hc htb hT hz2
        by_cases h9 : (300 : Int) < (tb.size : Int)
        ·have h9d : decide ((300 : Int) < (tb.size : Int)) = true := decide_eq_true h9
         have c_r0 := bs.at 0 0 rfl rfl
         have c_r1 := bs.at 0 1 rfl rfl
         have c_r2 := bs.at 0 2 rfl rfl
         have c_r3 := bs.at 0 3 rfl rfl
         have c_r4 := bs.at 0 4 rfl rfl
         have c_r5 := bs.at 0 5 rfl rfl
         go_wp2_with fail
         clear c_r0 c_r1 c_r2 c_r3 c_r4 c_r5
         go_ret
         exact ⟨true, rfl, (fun h => by cases h), q⟩
        ·have h9d : decide ((300 : Int) < (tb.size : Int)) = false := decide_eq_false h9
         have c_r0 := bs.at 0 0 rfl rfl
         have c_r1 := bs.at 0 1 rfl rfl
         have c_r2 := bs.at 0 2 rfl rfl
         have c_r3 := bs.at 0 3 rfl rfl
         have c_r4 := bs.at 0 4 rfl rfl
         have c_r5 := bs.at 0 5 rfl rfl
         go_wp2_with fail
         clear c_r0 c_r1 c_r2 c_r3 c_r4 c_r5
         go_roundw
         case rel => exact ⟨e + 1, by go_num, by omega, HSN.out (by have := HZ2.out; omega), bs⟩
         case measure => simp [intOf]; omega
       ·have wl : ¬ (e : Int) < (SL1 : Int) := by omega
        have hS2 := take_al (by rw [HSL.out]; omega) hT
        have hX := HP.out (by omega) (by omega) (by omega) HT.out hS2
        have HX := Lib.hid hX
        clear hT hS2 hX
        have c_r0 := bs.at 0 0 rfl rfl
        have c_r1 := bs.at 0 1 rfl rfl
        have c_r2 := bs.at 0 2 rfl rfl
        have c_r3 := bs.at 0 3 rfl rfl
        have c_r4 := bs.at 0 4 rfl rfl
        have c_r5 := bs.at 0 5 rfl rfl
        go_wp2_with fail
        clear c_r0 c_r1 c_r2 c_r3 c_r4 c_r5
        go_ret
        exact ⟨false, rfl, (fun _ => HX.out), q⟩
set_option maxRecDepth 100000 in
theorem r24_GreatRes (c : RsI) (w : World) (hs : rsY.sub c w) : Calls Tryz.prog 35 #[c.v] w (GrIs (ReSm c.d) w) := by
 have CG := fun (W : World) (hb : Below w.heap.size w W) => r24_greatRes c W (rsY.subRet _ _ _ hs hb)
 obtain ⟨X, hX⟩ : ∃ X : Prop, X = ReSm c.d := ⟨_, rfl⟩
 rw [← hX] at CG ⊢
 obtain ⟨on1, hon1⟩ : ∃ x, c.on = x := ⟨_, rfl⟩
 obtain ⟨pr1, hpr1⟩ : ∃ x, c.pr = x := ⟨_, rfl⟩
 obtain ⟨la1, hla1⟩ : ∃ x, c.la.1 = x := ⟨_, rfl⟩
 obtain ⟨lb1, hlb1⟩ : ∃ x, c.la.2 = x := ⟨_, rfl⟩
 obtain ⟨LL1, hLL1⟩ : ∃ x, c.ld.length = x := ⟨_, rfl⟩
 obtain ⟨ask1, hask1⟩ : ∃ x, c.ask = x := ⟨_, rfl⟩
 obtain ⟨sa1, hsa1⟩ : ∃ x, c.sa.1 = x := ⟨_, rfl⟩
 obtain ⟨sb1, hsb1⟩ : ∃ x, c.sa.2 = x := ⟨_, rfl⟩
 obtain ⟨SL1, hSL1⟩ : ∃ x, c.st.length = x := ⟨_, rfl⟩
 obtain ⟨jb1, hjb1⟩ : ∃ b, ByteArray.mk c.j.toArray = b := ⟨_, rfl⟩
 have e_c : c.v = .agg #[.string jb1, .bool on1, .int .i64 pr1, .slice la1 LL1 lb1, .bool ask1, .slice sa1 SL1 sb1] := by rw [← hon1, ← hpr1, ← hla1, ← hlb1, ← hLL1, ← hask1, ← hsa1, ← hsb1, ← hSL1, ← hjb1]
 simp only [e_c] at CG ⊢
 replace CG := Lib.hid CG
 clear hs hX e_c hon1 hpr1 hla1 hlb1 hLL1 hask1 hsa1 hsb1 hSL1 hjb1
 obtain ⟨W0, hW, y0, bs⟩ := Sx.start1 w [.string jb1, .bool on1, .int .i64 pr1, .slice la1 LL1 lb1, .bool ask1, .slice sa1 SL1 sb1] 38
 have HW := Lib.hid hW
 clear hW
 have q := bs.q
 go_enter Tryz.func35, Tryz.ntmps35
 have c_r0 := bs.at 0 0 rfl rfl
 have c_r1 := bs.at 0 1 rfl rfl
 have c_r2 := bs.at 0 2 rfl rfl
 have c_r3 := bs.at 0 3 rfl rfl
 have c_r4 := bs.at 0 4 rfl rfl
 have c_r5 := bs.at 0 5 rfl rfl
 go_wp2_with fail
 rw [HW.out]
 refine (CG.out W0 q).mono ?_
 rintro e w1 ⟨g, rfl, hg, hb⟩
 clear c_r0 c_r1 c_r2 c_r3 c_r4 c_r5
 replace bs := bs.ret hb
 replace q := bs.q
 clear hb
 have c_r0 := bs.at 0 0 rfl rfl
 have c_r1 := bs.at 0 1 rfl rfl
 have c_r2 := bs.at 0 2 rfl rfl
 have c_r3 := bs.at 0 3 rfl rfl
 have c_r4 := bs.at 0 4 rfl rfl
 have c_r5 := bs.at 0 5 rfl rfl
 go_wp2_with fail
 clear c_r0 c_r1 c_r2 c_r3 c_r4 c_r5
 go_ret
 exact ⟨g, rfl, hg, q⟩
set_option maxHeartbeats 4000000 in
set_option maxRecDepth 100000 in
theorem r24_Great (c : CoI) (w : World) (hs : c.sub w) : Calls Tryz.prog 9 #[c.v] w (GrIs (CoSm c.d) w) := by
 obtain ⟨A, ⟨a1, b1⟩, R, ⟨r1, s1⟩, m1⟩ := c
 have hA : IsL acY (.slice a1 A.length b1) A w := hs.1
 have hR : IsL rsY (.slice r1 R.length s1) R w := hs.2
 have hP : A.length ≤ 10 → R.length ≤ 18 → (∀ a ∈ A, AcSm a.d) → (∀ r ∈ R, ReSm r.d) → CoSm (CoI.d ⟨A, (a1, b1), R, (r1, s1), m1⟩) := fun h1 h2 h3 h4 =>
  ⟨by show (A.map AcI.d).length ≤ 10; rw [List.length_map]; exact h1, by show (R.map RsI.d).length ≤ 18; rw [List.length_map]; exact h2, fun a ha => by obtain ⟨y, hy, rfl⟩ := List.mem_map.1 ha; exact h3 y hy, fun r hr => by obtain ⟨y, hy, rfl⟩ := List.mem_map.1 hr; exact h4 y hy⟩
 obtain ⟨X, hX⟩ : ∃ X : Prop, X = CoSm (CoI.d ⟨A, (a1, b1), R, (r1, s1), m1⟩) := ⟨_, rfl⟩
 rw [← hX] at hP ⊢
 show Calls _ _ #[.agg #[.slice a1 A.length b1, .slice r1 R.length s1, .int .i64 m1]] w _
 have CR := fun (r : RsI) (hr : r ∈ R) (W : World) (hb : Below w.heap.size w W) => r24_greatRes r W (rsY.subRet _ _ _ (hR.2.2 r hr) hb)
 have CA := fun (a : AcI) (ha : a ∈ A) (W : World) (hb : Below w.heap.size w W) => r21_Great a.iv a.ver a.it W (IsItems.ret (hA.2.2 a ha) hb)
 obtain ⟨LA1, hLA⟩ : ∃ L, A.length = L := ⟨_, rfl⟩
 obtain ⟨LR1, hLR⟩ : ∃ L, R.length = L := ⟨_, rfl⟩
 rw [hLA] at hA hP ⊢
 rw [hLR] at hR hP ⊢
 have HA := Lib.hid hA
 have HR := Lib.hid hR
 have HP := Lib.hid hP
 have HLA := Lib.hid hLA
 have HLR := Lib.hid hLR
 have CR := Lib.hid CR
 have CA := Lib.hid CA
 clear hs hA hR hP hX hLA hLR
 obtain ⟨W0, hW, y0, bs⟩ := Sx.start1 w [.slice a1 LA1 b1, .slice r1 LR1 s1, .int .i64 m1] 25
 have HW := Lib.hid hW
 clear hW
 have q := bs.q
 go_enter Tryz.func9, Tryz.ntmps9
 go_wp2_with fail
 rw [HW.out]
 go_loopw [3] (fun i wx => ∃ k : Nat, i = .int .i64 k ∧ k ≤ LA1 ∧ k ≤ 12 ∧ (∀ a ∈ A.take k, AcSm a.d) ∧ Sx w [(w.heap.size, [.slice a1 LA1 b1, .slice r1 LR1 s1, .int .i64 m1])] wx) (fun i _ => 12 - (intOf i).toNat)
 case atStart => exact ⟨0, rfl, Nat.zero_le _, by omega, (fun t ht => by simp at ht), bs⟩
 case round =>
  clear bs q
  obtain ⟨k, rfl, hk, hk12, hT, bs⟩ := hrel
  have q := bs.q
  by_cases hlt : k < LA1
  ·have wl : (k : Int) < (LA1 : Int) := by omega
   by_cases h12 : k < 12
   ·have wm : (k : Int) < 12 := by omega
    have hkM : k < A.length := by rw [HLA.out]; exact hlt
    obtain ⟨x, hx⟩ : ∃ x, A[k] = x := ⟨_, rfl⟩
    have hkx : A[k]? = some x := by rw [List.getElem?_eq_getElem hkM, hx]
    have hxm : x ∈ A := by rw [← hx]; exact List.getElem_mem hkM
    obtain ⟨b, off, cp, hf, -, hc⟩ := HA.out.cells hkx
    rw [HLA.out] at hf
    simp only [Value.slice.injEq, true_and] at hf
    obtain ⟨rfl, rfl⟩ := hf
    have HSN := Lib.hid fun h => take_sn (P := fun a : AcI => AcSm a.d) hkx hT h
    obtain ⟨xj, xit, ⟨xa, xc⟩, xver⟩ := x
    have CA1 : ∀ W, Below w.heap.size w W → Calls Tryz.prog 36 #[.agg #[.slice xa xit.length xc, .int .i64 xver]] W (Ret W (.bool (greatP (xit.map Prod.fst)))) := CA.out _ hxm
    obtain ⟨xl, hxl⟩ : ∃ l, xit.length = l := ⟨_, rfl⟩
    rw [hxl] at CA1
    obtain ⟨jb, hjb⟩ : ∃ b, ByteArray.mk xj.toArray = b := ⟨_, rfl⟩
    have hz : jb.size = xj.length := by rw [← hjb, ← size_toList]
    obtain ⟨G, hG⟩ : ∃ G, greatP (xit.map Prod.fst) = G := ⟨_, rfl⟩
    rw [hG] at CA1
    replace CA1 := Lib.hid CA1
    obtain ⟨i0, i1, i2⟩ : wr.cell? ⟨b, off + k * 3, none⟩ = some (.string jb) ∧ wr.cell? ⟨b, off + k * 3 + 1, none⟩ = some (.slice xa xl xc) ∧ wr.cell? ⟨b, off + k * 3 + 2, none⟩ = some (.int .i64 xver) := (by rw [← hjb, ← hxl]; exact ⟨hc wr q 0 _ rfl, hc wr q 1 _ rfl, hc wr q 2 _ rfl⟩)
    have HSM := Lib.hid fun (h1 : jb.size ≤ 300) (h2 : G = false) => (⟨(by show xj.length ≤ 300; omega), hG.trans h2⟩ : AcSm (AcI.d ⟨xj, xit, (xa, xc), xver⟩))
    clear hx hkx hxm hkM hc hxl hjb hz hG hT
    by_cases h9 : (300 : Int) < (jb.size : Int)
    ·have h9d : decide ((300 : Int) < (jb.size : Int)) = true := decide_eq_true h9
     have c_c0 := bs.at 0 0 rfl rfl
     have c_c1 := bs.at 0 1 rfl rfl
     have c_c2 := bs.at 0 2 rfl rfl
     go_wp2_with fail
     clear c_c0 c_c1 c_c2
     go_ret
     exact ⟨true, rfl, (fun h => by cases h), q⟩
    ·have h9d : decide ((300 : Int) < (jb.size : Int)) = false := decide_eq_false h9
     have c_c0 := bs.at 0 0 rfl rfl
     have c_c1 := bs.at 0 1 rfl rfl
     have c_c2 := bs.at 0 2 rfl rfl
     go_wp2_with fail
     refine (CA1.out wr q).mono ?_
     rintro e w21 ⟨rfl, hb⟩
     clear c_c0 c_c1 c_c2
     replace bs := bs.ret hb
     replace q := bs.q
     clear hb
     clear i0 i1 i2
     cases G with
     | true =>
      go_wp2_with fail
      go_ret
      exact ⟨true, rfl, (fun h => by cases h), q⟩
     | false =>
      go_wp2_with fail
      go_roundw
      case rel => exact ⟨k + 1, by go_num, by omega, by omega, HSN.out (HSM.out (by omega) (by trivial)), bs⟩
      case measure => simp [intOf]; omega
   ·have wm : ¬ (k : Int) < 12 := by omega
    have hT2 : LA1 ≤ 10 → ∀ a ∈ A, AcSm a.d := fun h => absurd h (by omega)
    have HT := Lib.hid hT2
    clear hT hT2
    have hk0 := hk
    skip
    have c_c0 := bs.at 0 0 rfl rfl
    have c_c1 := bs.at 0 1 rfl rfl
    have c_c2 := bs.at 0 2 rfl rfl
    go_wp2_with fail
    clear c_c0 c_c1 c_c2
    go_loopw [4] (fun i wx => ∃ k : Nat, i = .int .i64 k ∧ k ≤ LR1 ∧ k ≤ 20 ∧ (∀ r ∈ R.take k, ReSm r.d) ∧ Sx w [(w.heap.size, [.slice a1 LA1 b1, .slice r1 LR1 s1, .int .i64 m1])] wx) (fun i _ => 20 - (intOf i).toNat)
    case atStart => exact ⟨0, rfl, Nat.zero_le _, by omega, (fun t ht => by simp at ht), bs⟩
    case round =>
     clear bs q
     obtain ⟨k, rfl, hk, hk12, hT, bs⟩ := hrel
     have q := bs.q
     by_cases hlt : k < LR1
     ·have wl : (k : Int) < (LR1 : Int) := by omega
      by_cases h12 : k < 20
      ·have wm : (k : Int) < 20 := by omega
       have hkM : k < R.length := by rw [HLR.out]; exact hlt
       obtain ⟨x, hx⟩ : ∃ x, R[k] = x := ⟨_, rfl⟩
       have hkx : R[k]? = some x := by rw [List.getElem?_eq_getElem hkM, hx]
       have hxm : x ∈ R := by rw [← hx]; exact List.getElem_mem hkM
       obtain ⟨b, off, cp, hf, -, hc⟩ := HR.out.cells hkx
       rw [HLR.out] at hf
       simp only [Value.slice.injEq, true_and] at hf
       obtain ⟨rfl, rfl⟩ := hf
       have HSN := Lib.hid fun h => take_sn (P := fun r : RsI => ReSm r.d) hkx hT h
       obtain ⟨G, hG⟩ : ∃ G : Prop, G = ReSm x.d := ⟨_, rfl⟩
       have CR0 := CR.out x hxm
       rw [← hG] at CR0 HSN
       obtain ⟨xj, on1, pr1, xl, ⟨la1, lb1⟩, ask1, xs, ⟨sa1, sb1⟩⟩ := x
       obtain ⟨ll, hll⟩ : ∃ l, xl.length = l := ⟨_, rfl⟩
       obtain ⟨sl, hsl⟩ : ∃ l, xs.length = l := ⟨_, rfl⟩
       obtain ⟨jb, hjb⟩ : ∃ b, ByteArray.mk xj.toArray = b := ⟨_, rfl⟩
       have CR1 : ∀ W, Below w.heap.size w W → Calls Tryz.prog 47 #[.agg #[.string ⟨xj.toArray⟩, .bool on1, .int .i64 pr1, .slice la1 xl.length lb1, .bool ask1, .slice sa1 xs.length sb1]] W (GrIs G W) := CR0
       rw [hll, hsl, hjb] at CR1
       replace CR1 := Lib.hid CR1
       clear CR0
       obtain ⟨i0, i1, i2, i3, i4, i5⟩ : wr.cell? ⟨b, off + k * 6, none⟩ = some (.string jb) ∧ wr.cell? ⟨b, off + k * 6 + 1, none⟩ = some (.bool on1) ∧ wr.cell? ⟨b, off + k * 6 + 2, none⟩ = some (.int .i64 pr1) ∧ wr.cell? ⟨b, off + k * 6 + 3, none⟩ = some (.slice la1 ll lb1) ∧ wr.cell? ⟨b, off + k * 6 + 4, none⟩ = some (.bool ask1) ∧ wr.cell? ⟨b, off + k * 6 + 5, none⟩ = some (.slice sa1 sl sb1) := (by rw [← hjb, ← hll, ← hsl]; exact ⟨hc wr q 0 _ rfl, hc wr q 1 _ rfl, hc wr q 2 _ rfl, hc wr q 3 _ rfl, hc wr q 4 _ rfl, hc wr q 5 _ rfl⟩)
       clear hx hkx hxm hkM hc hll hsl hjb hG hT
       have c_c0 := bs.at 0 0 rfl rfl
       have c_c1 := bs.at 0 1 rfl rfl
       have c_c2 := bs.at 0 2 rfl rfl
       go_wp2_with fail
       refine (CR1.out wr q).mono ?_
       rintro e w21 ⟨g, rfl, hg, hb⟩
       clear c_c0 c_c1 c_c2
       replace bs := bs.ret hb
       replace q := bs.q
       clear hb
       clear i0 i1 i2 i3 i4 i5
       cases g with
       | true =>
        go_wp2_with fail
        go_ret
        exact ⟨true, rfl, (fun h => by cases h), q⟩
       | false =>
        have HG := Lib.hid (hg rfl)
        clear hg
        go_wp2_with fail
        go_roundw
        case rel => exact ⟨k + 1, by go_num, by omega, by omega, HSN.out HG.out, bs⟩
        case measure => simp [intOf]; omega
      ·have wm : ¬ (k : Int) < 20 := by omega
       have g1 : (18 : Int) < (LR1 : Int) := by omega
       have g1d : decide ((18 : Int) < (LR1 : Int)) = true := decide_eq_true g1
       clear hT g1
       by_cases g2 : (10 : Int) < (LA1 : Int)
       ·have g2d : decide ((10 : Int) < (LA1 : Int)) = true := decide_eq_true g2
        have Hg2 := Lib.hid g2
        clear g2
        have c_c0 := bs.at 0 0 rfl rfl
        have c_c1 := bs.at 0 1 rfl rfl
        have c_c2 := bs.at 0 2 rfl rfl
        go_wp2_with fail
        clear c_c0 c_c1 c_c2
        go_ret
        exact ⟨true, rfl, (fun h => by cases h), q⟩
       ·have g2d : decide ((10 : Int) < (LA1 : Int)) = false := decide_eq_false g2
        have Hg2 := Lib.hid g2
        clear g2
        have c_c0 := bs.at 0 0 rfl rfl
        have c_c1 := bs.at 0 1 rfl rfl
        have c_c2 := bs.at 0 2 rfl rfl
        go_wp2_with fail
        clear c_c0 c_c1 c_c2
        go_ret
        exact ⟨true, rfl, (fun h => by cases h), q⟩
     ·have wl : ¬ (k : Int) < (LR1 : Int) := by omega
      have hR2 := take_al (by rw [HLR.out]; omega) hT
      have HR2 := Lib.hid hR2
      clear hT hR2
      by_cases g2 : (10 : Int) < (LA1 : Int)
      ·have g2d : decide ((10 : Int) < (LA1 : Int)) = true := decide_eq_true g2
       have Hg2 := Lib.hid g2
       clear g2
       have c_c0 := bs.at 0 0 rfl rfl
       have c_c1 := bs.at 0 1 rfl rfl
       have c_c2 := bs.at 0 2 rfl rfl
       go_wp2_with fail
       clear c_c0 c_c1 c_c2
       go_ret
       exact ⟨true, rfl, (fun h => by cases h), q⟩
      ·have g2d : decide ((10 : Int) < (LA1 : Int)) = false := decide_eq_false g2
       have Hg2 := Lib.hid g2
       clear g2
       by_cases g1 : (18 : Int) < (LR1 : Int)
       ·have g1d : decide ((18 : Int) < (LR1 : Int)) = true := decide_eq_true g1
        have Hg1 := Lib.hid g1
        clear g1
        have c_c0 := bs.at 0 0 rfl rfl
        have c_c1 := bs.at 0 1 rfl rfl
        have c_c2 := bs.at 0 2 rfl rfl
        go_wp2_with fail
        clear c_c0 c_c1 c_c2
        go_ret
        exact ⟨true, rfl, (fun h => by cases h), q⟩
       ·have g1d : decide ((18 : Int) < (LR1 : Int)) = false := decide_eq_false g1
        have Hg1 := Lib.hid g1
        clear g1
        have c_c0 := bs.at 0 0 rfl rfl
        have c_c1 := bs.at 0 1 rfl rfl
        have c_c2 := bs.at 0 2 rfl rfl
        go_wp2_with fail
        clear c_c0 c_c1 c_c2
        go_ret
        exact ⟨false, rfl, (fun _ => HP.out (by have := Hg2.out; omega) (by have := Hg1.out; omega) (HT.out (by have := Hg2.out; omega)) HR2.out), q⟩
  ·have wl : ¬ (k : Int) < (LA1 : Int) := by omega
   have hT2 : LA1 ≤ 10 → ∀ a ∈ A, AcSm a.d := fun _ => take_al (by rw [HLA.out]; omega) hT
   have HT := Lib.hid hT2
   clear hT hT2
   have hk0 := hk
   skip
   have c_c0 := bs.at 0 0 rfl rfl
   have c_c1 := bs.at 0 1 rfl rfl
   have c_c2 := bs.at 0 2 rfl rfl
   go_wp2_with fail
   clear c_c0 c_c1 c_c2
   go_loopw [4] (fun i wx => ∃ k : Nat, i = .int .i64 k ∧ k ≤ LR1 ∧ k ≤ 20 ∧ (∀ r ∈ R.take k, ReSm r.d) ∧ Sx w [(w.heap.size, [.slice a1 LA1 b1, .slice r1 LR1 s1, .int .i64 m1])] wx) (fun i _ => 20 - (intOf i).toNat)
   case atStart => exact ⟨0, rfl, Nat.zero_le _, by omega, (fun t ht => by simp at ht), bs⟩
   case round =>
    clear bs q
    obtain ⟨k, rfl, hk, hk12, hT, bs⟩ := hrel
    have q := bs.q
    by_cases hlt : k < LR1
    ·have wl : (k : Int) < (LR1 : Int) := by omega
     by_cases h12 : k < 20
     ·have wm : (k : Int) < 20 := by omega
      have hkM : k < R.length := by rw [HLR.out]; exact hlt
      obtain ⟨x, hx⟩ : ∃ x, R[k] = x := ⟨_, rfl⟩
      have hkx : R[k]? = some x := by rw [List.getElem?_eq_getElem hkM, hx]
      have hxm : x ∈ R := by rw [← hx]; exact List.getElem_mem hkM
      obtain ⟨b, off, cp, hf, -, hc⟩ := HR.out.cells hkx
      rw [HLR.out] at hf
      simp only [Value.slice.injEq, true_and] at hf
      obtain ⟨rfl, rfl⟩ := hf
      have HSN := Lib.hid fun h => take_sn (P := fun r : RsI => ReSm r.d) hkx hT h
      obtain ⟨G, hG⟩ : ∃ G : Prop, G = ReSm x.d := ⟨_, rfl⟩
      have CR0 := CR.out x hxm
      rw [← hG] at CR0 HSN
      obtain ⟨xj, on1, pr1, xl, ⟨la1, lb1⟩, ask1, xs, ⟨sa1, sb1⟩⟩ := x
      obtain ⟨ll, hll⟩ : ∃ l, xl.length = l := ⟨_, rfl⟩
      obtain ⟨sl, hsl⟩ : ∃ l, xs.length = l := ⟨_, rfl⟩
      obtain ⟨jb, hjb⟩ : ∃ b, ByteArray.mk xj.toArray = b := ⟨_, rfl⟩
      have CR1 : ∀ W, Below w.heap.size w W → Calls Tryz.prog 47 #[.agg #[.string ⟨xj.toArray⟩, .bool on1, .int .i64 pr1, .slice la1 xl.length lb1, .bool ask1, .slice sa1 xs.length sb1]] W (GrIs G W) := CR0
      rw [hll, hsl, hjb] at CR1
      replace CR1 := Lib.hid CR1
      clear CR0
      obtain ⟨i0, i1, i2, i3, i4, i5⟩ : wr.cell? ⟨b, off + k * 6, none⟩ = some (.string jb) ∧ wr.cell? ⟨b, off + k * 6 + 1, none⟩ = some (.bool on1) ∧ wr.cell? ⟨b, off + k * 6 + 2, none⟩ = some (.int .i64 pr1) ∧ wr.cell? ⟨b, off + k * 6 + 3, none⟩ = some (.slice la1 ll lb1) ∧ wr.cell? ⟨b, off + k * 6 + 4, none⟩ = some (.bool ask1) ∧ wr.cell? ⟨b, off + k * 6 + 5, none⟩ = some (.slice sa1 sl sb1) := (by rw [← hjb, ← hll, ← hsl]; exact ⟨hc wr q 0 _ rfl, hc wr q 1 _ rfl, hc wr q 2 _ rfl, hc wr q 3 _ rfl, hc wr q 4 _ rfl, hc wr q 5 _ rfl⟩)
      clear hx hkx hxm hkM hc hll hsl hjb hG hT
      have c_c0 := bs.at 0 0 rfl rfl
      have c_c1 := bs.at 0 1 rfl rfl
      have c_c2 := bs.at 0 2 rfl rfl
      go_wp2_with fail
      refine (CR1.out wr q).mono ?_
      rintro e w21 ⟨g, rfl, hg, hb⟩
      clear c_c0 c_c1 c_c2
      replace bs := bs.ret hb
      replace q := bs.q
      clear hb
      clear i0 i1 i2 i3 i4 i5
      cases g with
      | true =>
       go_wp2_with fail
       go_ret
       exact ⟨true, rfl, (fun h => by cases h), q⟩
      | false =>
       have HG := Lib.hid (hg rfl)
       clear hg
       go_wp2_with fail
       go_roundw
       case rel => exact ⟨k + 1, by go_num, by omega, by omega, HSN.out HG.out, bs⟩
       case measure => simp [intOf]; omega
     ·have wm : ¬ (k : Int) < 20 := by omega
      have g1 : (18 : Int) < (LR1 : Int) := by omega
      have g1d : decide ((18 : Int) < (LR1 : Int)) = true := decide_eq_true g1
      clear hT g1
      by_cases g2 : (10 : Int) < (LA1 : Int)
      ·have g2d : decide ((10 : Int) < (LA1 : Int)) = true := decide_eq_true g2
       have Hg2 := Lib.hid g2
       clear g2
       have c_c0 := bs.at 0 0 rfl rfl
       have c_c1 := bs.at 0 1 rfl rfl
       have c_c2 := bs.at 0 2 rfl rfl
       go_wp2_with fail
       clear c_c0 c_c1 c_c2
       go_ret
       exact ⟨true, rfl, (fun h => by cases h), q⟩
      ·have g2d : decide ((10 : Int) < (LA1 : Int)) = false := decide_eq_false g2
       have Hg2 := Lib.hid g2
       clear g2
       have c_c0 := bs.at 0 0 rfl rfl
       have c_c1 := bs.at 0 1 rfl rfl
       have c_c2 := bs.at 0 2 rfl rfl
       go_wp2_with fail
       clear c_c0 c_c1 c_c2
       go_ret
       exact ⟨true, rfl, (fun h => by cases h), q⟩
    ·have wl : ¬ (k : Int) < (LR1 : Int) := by omega
     have hR2 := take_al (by rw [HLR.out]; omega) hT
     have HR2 := Lib.hid hR2
     clear hT hR2
     by_cases g2 : (10 : Int) < (LA1 : Int)
     ·have g2d : decide ((10 : Int) < (LA1 : Int)) = true := decide_eq_true g2
      have Hg2 := Lib.hid g2
      clear g2
      have c_c0 := bs.at 0 0 rfl rfl
      have c_c1 := bs.at 0 1 rfl rfl
      have c_c2 := bs.at 0 2 rfl rfl
      go_wp2_with fail
      clear c_c0 c_c1 c_c2
      go_ret
      exact ⟨true, rfl, (fun h => by cases h), q⟩
     ·have g2d : decide ((10 : Int) < (LA1 : Int)) = false := decide_eq_false g2
      have Hg2 := Lib.hid g2
      clear g2
      by_cases g1 : (18 : Int) < (LR1 : Int)
      ·have g1d : decide ((18 : Int) < (LR1 : Int)) = true := decide_eq_true g1
       have Hg1 := Lib.hid g1
       clear g1
       have c_c0 := bs.at 0 0 rfl rfl
       have c_c1 := bs.at 0 1 rfl rfl
       have c_c2 := bs.at 0 2 rfl rfl
       go_wp2_with fail
       clear c_c0 c_c1 c_c2
       go_ret
       exact ⟨true, rfl, (fun h => by cases h), q⟩
      ·have g1d : decide ((18 : Int) < (LR1 : Int)) = false := decide_eq_false g1
       have Hg1 := Lib.hid g1
       clear g1
       have c_c0 := bs.at 0 0 rfl rfl
       have c_c1 := bs.at 0 1 rfl rfl
       have c_c2 := bs.at 0 2 rfl rfl
       go_wp2_with fail
       clear c_c0 c_c1 c_c2
       go_ret
       exact ⟨false, rfl, (fun _ => HP.out (by have := Hg2.out; omega) (by have := Hg1.out; omega) (HT.out (by have := Hg2.out; omega)) HR2.out), q⟩
end Go.Proofs.YtjgeiieiinmdnaaGreatDoor
