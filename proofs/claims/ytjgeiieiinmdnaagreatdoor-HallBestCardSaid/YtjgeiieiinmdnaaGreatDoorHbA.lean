/- law 24's HallBest. PRINTED BY PROGRAM (gen_hba.py). -/
import Derived.Test.YtjgeiieiinmdnaaGreatDoorLp
import Derived.Test.YtjgeiieiinmdnaaGreatDoorLh
import Derived.Test.YtjgeiieiinmdnaaGreatDoorLh
import Derived.Test.YtjgeiieiinmdnaaGreatDoorLl
namespace Go.Proofs.YtjgeiieiinmdnaaGreatDoor
open Go.RowKit Go.Lib

theorem row_some {w : World} {B n c : Nat} {e : TypeId} {a : Option Addr} {xs : List Value} (h : w.ownsRow B e 1 (.slice a n c) n xs) (hn : 0 < n) : ∃ b, a = some ⟨b, 0, none⟩ := by
 rcases h.2 with ⟨h1, h2⟩ | ⟨g, cap, cur, e1, _⟩
 ·omega
 ·simp only [Value.slice.injEq] at e1
  exact ⟨g, e1.1⟩
theorem row_at {w : World} {B n c b k : Nat} {e : TypeId} {xs : List Value} {v : Value} (h : w.ownsRow B e 1 (.slice (some ⟨b, 0, none⟩) n c) n xs) (hk : xs[k]? = some v) : w.cell? ⟨b, k, none⟩ = some v := by
 rw [← Nat.zero_add k]
 obtain ⟨hl, a, c', he, -, hc⟩ := own_row h
 simp only [Value.slice.injEq] at he
 obtain ⟨rfl, -, -⟩ := he
 have hkl : k < xs.length := by
  rcases Nat.lt_or_ge k xs.length with h1 | h1
  ·exact h1
  ·rw [List.getElem?_eq_none h1] at hk; cases hk
 rcases hc with h0 | ⟨b2, off, h4, _, h5⟩
 ·rw [hl, h0] at hkl
  simp at hkl
 ·simp only [Option.some.injEq, Addr.mk.injEq, and_true] at h4
  obtain ⟨rfl, rfl⟩ := h4
  rw [h5 k hkl, ← List.getElem?_eq_getElem hkl]
  exact hk
set_option maxHeartbeats 4000000 in
set_option maxRecDepth 100000 in
theorem l24_best (c : CoI) (J : ByteArray) (w : World) (hs : c.sub w) (hq : ∀ r ∈ c.R, QR r) (hm : ML w) (ht : Tab w) : Calls Tryz.prog 4 #[c.v, .string J] w (Ret w (.bool true)) := by
 have AL := fun (W : World) (hb : Below w.heap.size w W) => l24_alive W (hm.ret hb) (ht.ret hb)
 have CG := fun (W : World) (hb : Below w.heap.size w W) => r24_Great c W (hs.ret hb)
 have FT := fun (h : CoSm c.d) => h.fit hq
 have CK := fun (W : World) (hb : Below w.heap.size w W) (hf : CoFitD c.d) => ha_Check spaceF c W (hf.fit (hs.ret hb)) (hm.ret hb)
 have CN := fun (W : World) (hb : Below w.heap.size w W) (hf : CoFitD c.d) => ha_On c J.data.toList W (hs.ret hb).2 hf.zR' (fun r hr => (hf.rs' r hr).j) (hm.ret hb)
 have CB := fun (W : World) (hb : Below w.heap.size w W) (hf : CoFitD c.d) => ha_Best c J.data.toList W (hs.ret hb).2 hf.zR' (fun r hr => (hf.rs' r hr).j) (hm.ret hb)
 have CW := fun (W : World) (hb : Below w.heap.size w W) (hf : CoFitD c.d) (s : List UInt8) => ha_Who c s W (hs.ret hb).2 hf.zR' (fun r hr => (hf.rs' r hr).tw)
 have ej : (⟨J.data.toList.toArray⟩ : ByteArray) = J := str_ext (by simp)
 simp only [ej] at CN CB
 obtain ⟨D, hD⟩ : ∃ D, c.d = D := ⟨_, rfl⟩
 have e1 : c.R.map RsI.d = D.2.1 := by rw [← hD]
 simp only [e1] at CN CB CW
 obtain ⟨a1, ha1⟩ : ∃ x, c.aa.1 = x := ⟨_, rfl⟩
 obtain ⟨b1, hb1⟩ : ∃ x, c.aa.2 = x := ⟨_, rfl⟩
 obtain ⟨LA1, hLA1⟩ : ∃ x, c.A.length = x := ⟨_, rfl⟩
 obtain ⟨r1, hr1⟩ : ∃ x, c.ra.1 = x := ⟨_, rfl⟩
 obtain ⟨s1, hs1⟩ : ∃ x, c.ra.2 = x := ⟨_, rfl⟩
 obtain ⟨LR1, hLR1⟩ : ∃ x, c.R.length = x := ⟨_, rfl⟩
 obtain ⟨m1, hm1⟩ : ∃ x, c.m = x := ⟨_, rfl⟩
 have e_c : c.v = .agg #[.slice a1 LA1 b1, .slice r1 LR1 s1, .int .i64 m1] := by rw [← ha1, ← hb1, ← hLA1, ← hr1, ← hs1, ← hLR1, ← hm1]
 simp only [e_c] at CG CK CN CB CW ⊢
 rw [hD] at CG FT CK CN CB CW
 have hLD : D.2.1.length = LR1 := by rw [← e1, ← hLR1, List.length_map]
 clear hs hq hm ht ej e1 e_c hD ha1 hb1 hLA1 hr1 hs1 hLR1 hm1
 replace AL := Lib.hid AL
 replace CG := Lib.hid CG
 replace FT := Lib.hid FT
 replace CK := Lib.hid CK
 replace CN := Lib.hid CN
 replace CB := Lib.hid CB
 replace CW := Lib.hid CW
 replace hLD := Lib.hid hLD
 obtain ⟨W0, hW, y0, bs⟩ := Sx.start1 w [.slice a1 LA1 b1, .slice r1 LR1 s1, .int .i64 m1] 25
 have HW := Lib.hid hW
 clear hW
 have q := bs.q
 go_enter Tryz.func4, Tryz.ntmps4
 go_wp2_with fail
 rw [HW.out]
 refine (AL.out W0 q).mono ?_
 rintro e w1 ⟨rfl, hb⟩
 replace bs := bs.ret hb
 replace q := bs.q
 clear hb
 have CG1 := Lib.hid (CG.out w1 q)
 have c_c0 := bs.at 0 0 rfl rfl
 have c_c1 := bs.at 0 1 rfl rfl
 have c_c2 := bs.at 0 2 rfl rfl
 go_wp2_with fail
 refine (CG1.out).mono ?_
 rintro e w2 ⟨g, rfl, hg, hb⟩
 clear c_c0 c_c1 c_c2
 replace bs := bs.ret hb
 replace q := bs.q
 clear hb
 clear CG1
 cases g with
 | true =>
  have c_c0 := bs.at 0 0 rfl rfl
  have c_c1 := bs.at 0 1 rfl rfl
  have c_c2 := bs.at 0 2 rfl rfl
  go_wp2_with fail
  clear c_c0 c_c1 c_c2
  go_ret
  exact ⟨rfl, q⟩
 | false =>
  have hf := FT.out (hg rfl)
  have HF := Lib.hid hf
  clear hf hg
  by_cases hj : (300 : Int) < (J.size : Int)
  ·have hj2 : decide ((300 : Int) < (J.size : Int)) = true := decide_eq_true hj
   have c_c0 := bs.at 0 0 rfl rfl
   have c_c1 := bs.at 0 1 rfl rfl
   have c_c2 := bs.at 0 2 rfl rfl
   go_wp2_with fail
   clear c_c0 c_c1 c_c2
   go_ret
   exact ⟨rfl, q⟩
  ·have hj2 : decide ((300 : Int) < (J.size : Int)) = false := decide_eq_false hj
   have CK1 := CK.out w2 q HF.out
   obtain ⟨K, hK⟩ : ∃ K, coreD spaceF D = K := ⟨_, rfl⟩
   rw [hK] at CK1
   have CK1 := Lib.hid CK1
   cases K with
   | false =>
    clear hK
    have c_c0 := bs.at 0 0 rfl rfl
    have c_c1 := bs.at 0 1 rfl rfl
    have c_c2 := bs.at 0 2 rfl rfl
    go_wp2_with fail
    refine (CK1.out).mono ?_
    rintro e w3 ⟨rfl, hb⟩
    clear c_c0 c_c1 c_c2
    replace bs := bs.ret hb
    replace q := bs.q
    clear hb
    have c_c0 := bs.at 0 0 rfl rfl
    have c_c1 := bs.at 0 1 rfl rfl
    have c_c2 := bs.at 0 2 rfl rfl
    go_wp2_with fail
    clear c_c0 c_c1 c_c2
    go_ret
    exact ⟨rfl, q⟩
   | true =>
    have c_c0 := bs.at 0 0 rfl rfl
    have c_c1 := bs.at 0 1 rfl rfl
    have c_c2 := bs.at 0 2 rfl rfl
    go_wp2_with fail
    refine (CK1.out).mono ?_
    rintro e w3 ⟨rfl, hb⟩
    clear c_c0 c_c1 c_c2
    replace bs := bs.ret hb
    replace q := bs.q
    clear hb
    clear CK1
    have hch := (co_facts hK).2.2.2.2.2.2.2
    clear hK
    obtain ⟨onl, honl⟩ : ∃ l, onL D.2.1 J.data.toList = l := ⟨_, rfl⟩
    obtain ⟨bl, hbl⟩ : ∃ l, onl.filter (bestQ onl) = l := ⟨_, rfl⟩
    have hON := onF_eq D.2.1 J.data.toList
    have hBE := bestF_eq D.2.1 J.data.toList
    rw [honl] at hON
    rw [honl, hbl] at hBE
    have hsl : ∀ r ∈ onl, fiG reN D.2.1 (reN r) = some r := fun r hr => find_self hch (by rw [← honl] at hr; exact (List.mem_filter.1 hr).1)
    have hon : ∀ r ∈ onl, r.on = true := fun r hr => by
     rw [← honl] at hr
     have := (List.mem_filter.1 hr).2
     simp only [Bool.and_eq_true] at this
     exact this.2.2
    have hzl : onl.length ≤ 1000 := by
     have h1 : onl.length ≤ D.2.1.length := by rw [← honl]; exact List.length_filter_le _ _
     have h2 := HF.out.zR
     omega
    have hzb : bl.length ≤ onl.length := by rw [← hbl]; exact List.length_filter_le _ _
    have CN1 := fun (W : World) (hb : Below w.heap.size w W) => CN.out W hb HF.out
    have CB1 := fun (W : World) (hb : Below w.heap.size w W) => CB.out W hb HF.out
    have CW1 := fun (W : World) (hb : Below w.heap.size w W) => CW.out W hb HF.out
    simp only [hON] at CN1
    simp only [hBE] at CB1
    replace CN1 := Lib.hid CN1
    replace CB1 := Lib.hid CB1
    replace CW1 := Lib.hid CW1
    replace hsl := Lib.hid hsl
    replace hon := Lib.hid hon
    replace hbl := Lib.hid hbl
    clear honl hON hBE hch CN CB CW CK CG FT AL
    obtain ⟨n, hn⟩ : ∃ n, onl.length = n := ⟨_, rfl⟩
    obtain ⟨nb, hnb⟩ : ∃ n, bl.length = n := ⟨_, rfl⟩
    rw [hn] at hzl hzb
    rw [hnb] at hzb
    have HN := Lib.hid hn
    have HNB := Lib.hid hnb
    clear hn hnb
    have c_c0 := bs.at 0 0 rfl rfl
    have c_c1 := bs.at 0 1 rfl rfl
    have c_c2 := bs.at 0 2 rfl rfl
    go_wp2_with fail
    clear c_c0 c_c1 c_c2
    go_cut [6, 7] (fun s6 s7 wx => ∃ (v1 : Option Addr) (c1 : Nat) (v2 : Option Addr) (c2 : Nat), s6 = .slice v1 n c1 ∧ s7 = .slice v2 nb c2 ∧ OwX w [w.heap.size] 9 1 (.slice v1 n c1) n (strV (onl.map reN)) wx ∧ OwX w [w.heap.size] 9 1 (.slice v2 nb c2) nb (strV (bl.map reN)) wx ∧ Sx w [(w.heap.size, [.slice a1 LA1 b1, .slice r1 LR1 s1, .int .i64 m1])] wx)
    case first =>
     have c_c0 := bs.at 0 0 rfl rfl
     have c_c1 := bs.at 0 1 rfl rfl
     have c_c2 := bs.at 0 2 rfl rfl
     go_wp2_with fail
     clear c_c0 c_c1 c_c2
     replace bs := bs.ret (Below.drew (Below.refl _ _))
     replace q := bs.q
     have y4 : w3.drew.heap.size = w3.heap.size := rfl
     refine wp_region_held_drew (S := fun w' => w'.cell? ⟨w.heap.size, 0, none⟩ = some (.slice a1 LA1 b1) ∧ w'.cell? ⟨w.heap.size, 1, none⟩ = some (.slice r1 LR1 s1) ∧ w'.cell? ⟨w.heap.size, 2, none⟩ = some (.int .i64 m1)) (by kernel_rfl) ⟨bs.at 0 0 rfl rfl, bs.at 0 1 rfl rfl, bs.at 0 2 rfl rfl⟩ (fun hHeld => ?_)
     generalize w3.drew = w4 at bs q y4 hHeld ⊢
     refine tk_start [(0, some 34), (1, some 35), (3, some 37), (4, some 38)] ?_
     iterate 4
      refine tk_step (v := ?_) (by kernel_rfl) (by kernel_rfl) (fun _ _ _ h => h) (by assumption) (fun o ho w' hSw => ?_) ?_
      rotate_left
      ·simp only [List.getElem?_toArray, List.getElem?_cons_succ, List.getElem?_cons_zero, Option.some.injEq] at ho; subst ho; (try dsimp only at hSw); go_simp; try with_reducible rfl
      simp only [Act.put, List.setIfInBounds_toArray, List.set_cons_zero, List.set_cons_succ]
     refine tk_end ?_
     refine tk_call (i := 2) (by kernel_rfl) (by kernel_rfl) (fun o ho K hK => ?_)
     simp only [List.getElem?_toArray, List.getElem?_cons_succ, List.getElem?_cons_zero, Option.some.injEq] at ho
     subst ho
     go_simp
     refine (CN1.out w4 q).mono ?_
     rintro e w5 ⟨v1, rfl, hown, hb⟩
     have o_n := OwX.mk' bs (OwS.owns hown (fun _ h => h))
     replace bs := bs.ret hb
     replace q := bs.q
     clear hb
     rw [List.length_map, HN.out] at o_n
     obtain ⟨v1a, c1, rfl, -⟩ := row_form o_n.1
     go_simp
     clear hHeld
     refine hK.out _ _ ⟨bs.at 0 0 rfl rfl, bs.at 0 1 rfl rfl, bs.at 0 2 rfl rfl⟩ (fun hHeld => ?_)
     clear hK K
     refine tk_call (i := 5) (by kernel_rfl) (by kernel_rfl) (fun o ho K hK => ?_)
     simp only [List.getElem?_toArray, List.getElem?_cons_succ, List.getElem?_cons_zero, Option.some.injEq] at ho
     subst ho
     go_simp
     refine (CB1.out w5 q).mono ?_
     rintro e w6 ⟨v2, rfl, hown2, hb⟩
     have o_b := OwX.mk' bs (OwS.owns hown2 (fun _ h => h))
     replace o_n := o_n.ret hb
     replace bs := bs.ret hb
     replace q := bs.q
     clear hb
     rw [List.length_map, HNB.out] at o_b
     obtain ⟨v2a, c2, rfl, -⟩ := row_form o_b.1
     go_simp
     clear hHeld
     refine hK.out _ _ ⟨bs.at 0 0 rfl rfl, bs.at 0 1 rfl rfl, bs.at 0 2 rfl rfl⟩ (fun hHeld => ?_)
     clear hK K
     refine tk_start [(6, some 6), (7, some 7)] ?_
     iterate 2
      refine tk_step (v := ?_) (by kernel_rfl) (by kernel_rfl) (fun _ _ _ h => h) (by assumption) (fun o ho w' hSw => ?_) ?_
      rotate_left
      ·simp only [List.getElem?_toArray, List.getElem?_cons_succ, List.getElem?_cons_zero, Option.some.injEq] at ho; subst ho; (try dsimp only at hSw); go_simp; try with_reducible rfl
      simp only [Act.put, List.setIfInBounds_toArray, List.set_cons_zero, List.set_cons_succ]
     refine tk_end ?_
     refine wpAnyH_done (by kernel_rfl) ?_ _
     clear hHeld
     go_wp2_with fail
     go_meet
     exact ⟨v1a, c1, v2a, c2, rfl, rfl, o_n, o_b, bs⟩
    case rest =>
     obtain ⟨v1, c1, v2, c2, rfl, rfl, o_n, o_b, bs1⟩ := hcut
     clear bs q
     have bs := bs1
     clear bs1
     have q := bs.q
     have c_c0 := bs.at 0 0 rfl rfl
     have c_c1 := bs.at 0 1 rfl rfl
     have c_c2 := bs.at 0 2 rfl rfl
     go_wp2_with fail
     clear c_c0 c_c1 c_c2
     go_loopw [8, 9] (fun t i wx => ∃ k : Nat, i = .int .i64 k ∧ k ≤ n ∧ t = .int .i64 (topW (onl.take k)) ∧ OwX w [w.heap.size] 9 1 (.slice v1 n c1) n (strV (onl.map reN)) wx ∧ OwX w [w.heap.size] 9 1 (.slice v2 nb c2) nb (strV (bl.map reN)) wx ∧ Sx w [(w.heap.size, [.slice a1 LA1 b1, .slice r1 LR1 s1, .int .i64 m1])] wx) (fun _ i _ => n - (intOf i).toNat)
     case atStart => exact ⟨0, rfl, Nat.zero_le _, rfl, o_n, o_b, bs⟩
     case round =>
      clear o_n o_b bs q
      obtain ⟨k, rfl, hk, rfl, o_n, o_b, bs⟩ := hrel
      have q := bs.q
      by_cases hlt : k < n
      ·have hkM : k < onl.length := by rw [HN.out]; exact hlt
       obtain ⟨x, hx⟩ : ∃ x, onl[k] = x := ⟨_, rfl⟩
       have hkx : onl[k]? = some x := by rw [List.getElem?_eq_getElem hkM, hx]
       have hxm : x ∈ onl := by rw [← hx]; exact List.getElem_mem hkM
       have hfx : fiG reN D.2.1 x.1 = some x := hsl.out x hxm
       have hox : x.2.1 = true := hon.out x hxm
       obtain ⟨bn, rfl⟩ := row_some o_n.1 (by omega)
       obtain ⟨jx, hjx⟩ : ∃ b, ByteArray.mk x.1.toArray = b := ⟨_, rfl⟩
       have hkn : (strV (onl.map reN))[k]? = some (.string jx) := by rw [← hjx]; simp [strV, hkx]
       have CW2 : ∀ (W : World), Below w.heap.size w W → Calls Tryz.prog 13 #[.agg #[.slice a1 LA1 b1, .slice r1 LR1 s1, .int .i64 m1], .string jx] W (fun e w' => ∃ r : RsI, e = .returned (.tuple #[r.v, .bool true]) ∧ r.d = x ∧ Below W.heap.size W w') := fun W hb => by
        have h := CW1.out W hb x.1
        rw [hjx] at h
        refine h.mono fun e w' ⟨r, h1, h2, _, h4⟩ => ⟨r, ?_, ?_, h4⟩
        ·rw [h1, hfx]
         rfl
        ·rw [h2, hfx]
         rfl
       replace CW2 := Lib.hid CW2
       have HKX := Lib.hid hkx
       have HOX := Lib.hid hox
       have HJX := Lib.hid hjx
       have HKN := Lib.hid hkn
       have wl : (k : Int) < (n : Int) := by omega
       clear hx hkx hxm hfx hox hkM hjx hkn
       go_wp2_with fail
       go_cut [10, 11] (fun z1 z2 wx => ∃ (Lb LL lb SL sb : Nat) (la sa : Option Addr), z1 = .pointer (some ⟨Lb, 0, none⟩) ∧ z2 = .bool true ∧ Sx w [(w.heap.size, [.slice a1 LA1 b1, .slice r1 LR1 s1, .int .i64 m1]), (Lb, [.string jx, .bool true, .int .i64 x.2.2.1, .slice la LL lb, .bool x.2.2.2.2.1, .slice sa SL sb])] wx ∧ OwX w [w.heap.size, Lb] 9 1 (.slice (some ⟨bn, 0, none⟩) n c1) n (strV (onl.map reN)) wx ∧ OwX w [w.heap.size, Lb] 9 1 (.slice v2 nb c2) nb (strV (bl.map reN)) wx)
       case first =>
        replace o_n := o_n.ret (Below.drew (Below.refl _ _))
        replace o_b := o_b.ret (Below.drew (Below.refl _ _))
        replace bs := bs.ret (Below.drew (Below.refl _ _))
        replace q := bs.q
        have y101 : wr.drew.heap.size = wr.heap.size := rfl
        refine wp_region_held_drew (S := fun w' => w'.cell? ⟨w.heap.size, 0, none⟩ = some (.slice a1 LA1 b1) ∧ w'.cell? ⟨w.heap.size, 1, none⟩ = some (.slice r1 LR1 s1) ∧ w'.cell? ⟨w.heap.size, 2, none⟩ = some (.int .i64 m1) ∧ w'.cell? ⟨bn, k, none⟩ = some (.string jx)) (by kernel_rfl) ⟨bs.at 0 0 rfl rfl, bs.at 0 1 rfl rfl, bs.at 0 2 rfl rfl, (row_at o_n.1 HKN.out)⟩ (fun hHeld => ?_)
        generalize wr.drew = w101 at bs o_n o_b q y101 hHeld ⊢
        refine tk_start [(0, some 47), (1, some 48), (2, some 49), (3, some 50), (4, some 51)] ?_
        iterate 5
         refine tk_step (v := ?_) (by kernel_rfl) (by kernel_rfl) (fun _ _ _ h => h) (by assumption) (fun o ho w' hSw => ?_) ?_
         rotate_left
         ·simp only [List.getElem?_toArray, List.getElem?_cons_succ, List.getElem?_cons_zero, Option.some.injEq] at ho; subst ho; (try dsimp only at hSw); go_simp; try with_reducible rfl
         simp only [Act.put, List.setIfInBounds_toArray, List.set_cons_zero, List.set_cons_succ]
        refine tk_end ?_
        refine wpAnyH_ready (rs := [5, 9]) (by kernel_rfl) (by simp) ?_
        refine tk_cons (by kernel_rfl) (fun o ho K hK => ?_) ?_
        ·simp only [List.getElem?_toArray, List.getElem?_cons_succ, List.getElem?_cons_zero, Option.some.injEq] at ho
         subst ho
         go_simp
         refine (CW2.out w101 q).mono ?_
         rintro e w102 ⟨⟨jy, oy, py, ly, ⟨la, lb⟩, ay, sy, ⟨sa, sb⟩⟩, rfl, hd, hb⟩
         replace o_n := o_n.ret hb
         replace o_b := o_b.ret hb
         replace bs := bs.ret hb
         replace q := bs.q
         clear hb
         have g1 : jy = x.1 := congrArg (fun r : Re => r.1) hd
         have g2 : oy = x.2.1 := congrArg (fun r : Re => r.2.1) hd
         have g3 : py = x.2.2.1 := congrArg (fun r : Re => r.2.2.1) hd
         have g5 : ay = x.2.2.2.2.1 := congrArg (fun r : Re => r.2.2.2.2.1) hd
         clear hd
         rw [HOX.out] at g2
         subst g1 g2 g3 g5
         obtain ⟨LL, hLL⟩ : ∃ L, ly.length = L := ⟨_, rfl⟩
         obtain ⟨SL, hSL⟩ : ∃ L, sy.length = L := ⟨_, rfl⟩
         simp only [RsI.v, RsI.lv, RsI.sv]
         rw [hLL, hSL, HJX.out]
         clear hLL hSL
         go_simp
         clear hHeld
         refine hK.out _ _ ⟨bs.at 0 0 rfl rfl, bs.at 0 1 rfl rfl, bs.at 0 2 rfl rfl, (row_at o_n.1 HKN.out)⟩ (fun hHeld => ?_)
         clear hK K
         refine tk_start [(6, some 46), (7, some 53), (8, some 54)] ?_
         iterate 3
          refine tk_step (v := ?_) (by kernel_rfl) (by kernel_rfl) (fun _ _ _ h => h) (by assumption) (fun o ho w' hSw => ?_) ?_
          rotate_left
          ·simp only [List.getElem?_toArray, List.getElem?_cons_succ, List.getElem?_cons_zero, Option.some.injEq] at ho; subst ho; (try dsimp only at hSw); go_simp; try with_reducible rfl
          simp only [Act.put, List.setIfInBounds_toArray, List.set_cons_zero, List.set_cons_succ]
         refine tk_end ?_
         refine tk_call (i := 9) (by kernel_rfl) (by kernel_rfl) (fun o ho K hK => ?_)
         simp only [List.getElem?_toArray, List.getElem?_cons_succ, List.getElem?_cons_zero, Option.some.injEq] at ho
         subst ho
         go_simp
         obtain ⟨w103, hw103, y103, al, bs⟩ := bs.alloc (w102.heap.size) rfl [.string ⟨#[]⟩, .bool false, .int .i64 0, .slice none 0 0, .bool false, .slice none 0 0] 38
         replace o_n := o_n.alloc (w102.heap.size) rfl al
         replace o_b := o_b.alloc (w102.heap.size) rfl al
         clear al
         replace q := bs.q
         rw [hw103]
         clear hHeld
         refine hK.out _ _ ⟨bs.at 0 0 rfl rfl, bs.at 0 1 rfl rfl, bs.at 0 2 rfl rfl, (row_at o_n.1 HKN.out)⟩ (fun hHeld => ?_)
         clear hK K
         refine tk_call (i := 10) (by kernel_rfl) (by kernel_rfl) (fun o ho K hK => ?_)
         simp only [List.getElem?_toArray, List.getElem?_cons_succ, List.getElem?_cons_zero, Option.some.injEq] at ho
         subst ho
         have c_y0 := bs.at 1 0 rfl rfl
         have f_y0 := bs.fz 1 0 rfl rfl
         have c_y1 := bs.at 1 1 rfl rfl
         have f_y1 := bs.fz 1 1 rfl rfl
         have c_y2 := bs.at 1 2 rfl rfl
         have f_y2 := bs.fz 1 2 rfl rfl
         have c_y3 := bs.at 1 3 rfl rfl
         have f_y3 := bs.fz 1 3 rfl rfl
         have c_y4 := bs.at 1 4 rfl rfl
         have f_y4 := bs.fz 1 4 rfl rfl
         have c_y5 := bs.at 1 5 rfl rfl
         have f_y5 := bs.fz 1 5 rfl rfl
         go_simp
         clear c_y0 f_y0 c_y1 f_y1 c_y2 f_y2 c_y3 f_y3 c_y4 f_y4 c_y5 f_y5
         obtain ⟨w104, hw104, y104, bs⟩ := bs.sets 1 0 [.string jx, .bool true, .int .i64 x.2.2.1, .slice la LL lb, .bool x.2.2.2.2.1, .slice sa SL sb] rfl (Nat.le_of_ble_eq_true rfl)
         replace o_n := o_n.sets 1 rfl hw104
         replace o_b := o_b.sets 1 rfl hw104
         replace q := bs.q
         simp only [World.setCells, Nat.reduceAdd] at hw104
         rw [hw104]
         clear hHeld
         refine hK.out _ _ ⟨bs.at 0 0 rfl rfl, bs.at 0 1 rfl rfl, bs.at 0 2 rfl rfl, (row_at o_n.1 HKN.out)⟩ (fun hHeld => ?_)
         clear hK K
         refine tk_on (i := 11) (some 11) (v := ?_) (by kernel_rfl) (by kernel_rfl) (by kernel_rfl) (by kernel_rfl) (fun _ _ _ h => h) (by assumption) (fun o ho w' hSw => ?_) ?_
         rotate_left
         ·(simp only [List.getElem?_toArray, List.getElem?_cons_succ, List.getElem?_cons_zero, Option.some.injEq] at ho; subst ho; (try dsimp only at hSw); go_simp; try with_reducible rfl)
         simp only [Act.put, List.setIfInBounds_toArray, List.set_cons_zero, List.set_cons_succ]
         refine wpAnyH_done (by kernel_rfl) ?_ _
         clear hHeld
         go_wp2_with fail
         go_meet
         exact ⟨_, LL, lb, SL, sb, la, sa, rfl, rfl, bs, o_n, o_b⟩
        refine tk_cons (by kernel_rfl) (fun o ho K hK => ?_) ?_
        ·simp only [List.getElem?_toArray, List.getElem?_cons_succ, List.getElem?_cons_zero, Option.some.injEq] at ho
         subst ho
         go_simp
         obtain ⟨w102, hw102, y102, al, bs⟩ := bs.alloc (wr.heap.size) (by omega) [.string ⟨#[]⟩, .bool false, .int .i64 0, .slice none 0 0, .bool false, .slice none 0 0] 38
         replace o_n := o_n.alloc (wr.heap.size) (by omega) al
         replace o_b := o_b.alloc (wr.heap.size) (by omega) al
         clear al
         replace q := bs.q
         rw [hw102]
         clear hHeld
         refine hK.out _ _ ⟨bs.at 0 0 rfl rfl, bs.at 0 1 rfl rfl, bs.at 0 2 rfl rfl, (row_at o_n.1 HKN.out)⟩ (fun hHeld => ?_)
         clear hK K
         refine tk_call (i := 5) (by kernel_rfl) (by kernel_rfl) (fun o ho K hK => ?_)
         simp only [List.getElem?_toArray, List.getElem?_cons_succ, List.getElem?_cons_zero, Option.some.injEq] at ho
         subst ho
         go_simp
         refine (CW2.out w102 q).mono ?_
         rintro e w103 ⟨⟨jy, oy, py, ly, ⟨la, lb⟩, ay, sy, ⟨sa, sb⟩⟩, rfl, hd, hb⟩
         replace o_n := o_n.ret hb
         replace o_b := o_b.ret hb
         replace bs := bs.ret hb
         replace q := bs.q
         clear hb
         have g1 : jy = x.1 := congrArg (fun r : Re => r.1) hd
         have g2 : oy = x.2.1 := congrArg (fun r : Re => r.2.1) hd
         have g3 : py = x.2.2.1 := congrArg (fun r : Re => r.2.2.1) hd
         have g5 : ay = x.2.2.2.2.1 := congrArg (fun r : Re => r.2.2.2.2.1) hd
         clear hd
         rw [HOX.out] at g2
         subst g1 g2 g3 g5
         obtain ⟨LL, hLL⟩ : ∃ L, ly.length = L := ⟨_, rfl⟩
         obtain ⟨SL, hSL⟩ : ∃ L, sy.length = L := ⟨_, rfl⟩
         simp only [RsI.v, RsI.lv, RsI.sv]
         rw [hLL, hSL, HJX.out]
         clear hLL hSL
         go_simp
         clear hHeld
         refine hK.out _ _ ⟨bs.at 0 0 rfl rfl, bs.at 0 1 rfl rfl, bs.at 0 2 rfl rfl, (row_at o_n.1 HKN.out)⟩ (fun hHeld => ?_)
         clear hK K
         refine tk_start [(6, some 46), (7, some 53), (8, some 54)] ?_
         iterate 3
          refine tk_step (v := ?_) (by kernel_rfl) (by kernel_rfl) (fun _ _ _ h => h) (by assumption) (fun o ho w' hSw => ?_) ?_
          rotate_left
          ·simp only [List.getElem?_toArray, List.getElem?_cons_succ, List.getElem?_cons_zero, Option.some.injEq] at ho; subst ho; (try dsimp only at hSw); go_simp; try with_reducible rfl
          simp only [Act.put, List.setIfInBounds_toArray, List.set_cons_zero, List.set_cons_succ]
         refine tk_end ?_
         refine tk_call (i := 10) (by kernel_rfl) (by kernel_rfl) (fun o ho K hK => ?_)
         simp only [List.getElem?_toArray, List.getElem?_cons_succ, List.getElem?_cons_zero, Option.some.injEq] at ho
         subst ho
         have c_y0 := bs.at 1 0 rfl rfl
         have f_y0 := bs.fz 1 0 rfl rfl
         have c_y1 := bs.at 1 1 rfl rfl
         have f_y1 := bs.fz 1 1 rfl rfl
         have c_y2 := bs.at 1 2 rfl rfl
         have f_y2 := bs.fz 1 2 rfl rfl
         have c_y3 := bs.at 1 3 rfl rfl
         have f_y3 := bs.fz 1 3 rfl rfl
         have c_y4 := bs.at 1 4 rfl rfl
         have f_y4 := bs.fz 1 4 rfl rfl
         have c_y5 := bs.at 1 5 rfl rfl
         have f_y5 := bs.fz 1 5 rfl rfl
         go_simp
         clear c_y0 f_y0 c_y1 f_y1 c_y2 f_y2 c_y3 f_y3 c_y4 f_y4 c_y5 f_y5
         obtain ⟨w104, hw104, y104, bs⟩ := bs.sets 1 0 [.string jx, .bool true, .int .i64 x.2.2.1, .slice la LL lb, .bool x.2.2.2.2.1, .slice sa SL sb] rfl (Nat.le_of_ble_eq_true rfl)
         replace o_n := o_n.sets 1 rfl hw104
         replace o_b := o_b.sets 1 rfl hw104
         replace q := bs.q
         simp only [World.setCells, Nat.reduceAdd] at hw104
         rw [hw104]
         clear hHeld
         refine hK.out _ _ ⟨bs.at 0 0 rfl rfl, bs.at 0 1 rfl rfl, bs.at 0 2 rfl rfl, (row_at o_n.1 HKN.out)⟩ (fun hHeld => ?_)
         clear hK K
         refine tk_on (i := 11) (some 11) (v := ?_) (by kernel_rfl) (by kernel_rfl) (by kernel_rfl) (by kernel_rfl) (fun _ _ _ h => h) (by assumption) (fun o ho w' hSw => ?_) ?_
         rotate_left
         ·(simp only [List.getElem?_toArray, List.getElem?_cons_succ, List.getElem?_cons_zero, Option.some.injEq] at ho; subst ho; (try dsimp only at hSw); go_simp; try with_reducible rfl)
         simp only [Act.put, List.setIfInBounds_toArray, List.set_cons_zero, List.set_cons_succ]
         refine wpAnyH_done (by kernel_rfl) ?_ _
         clear hHeld
         go_wp2_with fail
         go_meet
         exact ⟨_, LL, lb, SL, sb, la, sa, rfl, rfl, bs, o_n, o_b⟩
        exact AllReadyH.nil
       case rest =>
        obtain ⟨Lb, LL, lb, SL, sb, la, sa, rfl, rfl, bs1, o_n1, o_b1⟩ := hcut
        clear bs q o_n o_b
        have bs := bs1
        have o_n := o_n1
        have o_b := o_b1
        clear bs1 o_n1 o_b1
        have q := bs.q
        have c_y0 := bs.at 1 0 rfl rfl
        have c_y1 := bs.at 1 1 rfl rfl
        have c_y2 := bs.at 1 2 rfl rfl
        have c_y3 := bs.at 1 3 rfl rfl
        have c_y4 := bs.at 1 4 rfl rfl
        have c_y5 := bs.at 1 5 rfl rfl
        go_wp2_with fail
        clear c_y0 c_y1 c_y2 c_y3 c_y4 c_y5
        have htw := topW_take onl k x HKX.out
        go_roundw
        case rel => exact ⟨k + 1, by go_num, by omega, by rw [htw], ⟨o_n.1, fun g hg hm => o_n.2 g hg (List.mem_append_left [Lb] hm)⟩, ⟨o_b.1, fun g hg hm => o_b.2 g hg (List.mem_append_left [Lb] hm)⟩, bs.some 1⟩
        case measure => simp [intOf]; omega
      ·obtain rfl : k = n := by omega
       have htk : onl.take k = onl := List.take_of_length_le (by rw [HN.out]; exact Nat.le_refl _)
       rw [htk]
       obtain ⟨TT, hTT⟩ : ∃ T, topW onl = T := ⟨_, rfl⟩
       rw [hTT]
       have HTT := Lib.hid hTT
       have wl : ¬ (k : Int) < (k : Int) := by omega
       clear htk hTT
       have c_c0 := bs.at 0 0 rfl rfl
       have c_c1 := bs.at 0 1 rfl rfl
       have c_c2 := bs.at 0 2 rfl rfl
       go_wp2_with fail
       clear c_c0 c_c1 c_c2
       go_loopw [12, 13] (fun t i wx => ∃ j : Nat, i = .int .i64 j ∧ j ≤ k ∧ t = .int .i64 (((onl.take j).filter (bestQ onl)).length : Nat) ∧ OwX w [w.heap.size] 9 1 (.slice v1 k c1) k (strV (onl.map reN)) wx ∧ OwX w [w.heap.size] 9 1 (.slice v2 nb c2) nb (strV (bl.map reN)) wx ∧ Sx w [(w.heap.size, [.slice a1 LA1 b1, .slice r1 LR1 s1, .int .i64 m1])] wx) (fun _ i _ => k - (intOf i).toNat)
       case atStart => exact ⟨0, rfl, Nat.zero_le _, rfl, o_n, o_b, bs⟩
       case round =>
        clear o_n o_b bs q hk
        obtain ⟨j, rfl, hj, rfl, o_n, o_b, bs⟩ := hrel
        have q := bs.q
        by_cases hlt2 : j < k
        ·have hkM : j < onl.length := by rw [HN.out]; exact hlt2
         obtain ⟨x, hx⟩ : ∃ x, onl[j] = x := ⟨_, rfl⟩
         have hkx : onl[j]? = some x := by rw [List.getElem?_eq_getElem hkM, hx]
         have hxm : x ∈ onl := by rw [← hx]; exact List.getElem_mem hkM
         have hfx : fiG reN D.2.1 x.1 = some x := hsl.out x hxm
         have hox : x.2.1 = true := hon.out x hxm
         obtain ⟨bn, rfl⟩ := row_some o_n.1 (by omega)
         obtain ⟨jx, hjx⟩ : ∃ b, ByteArray.mk x.1.toArray = b := ⟨_, rfl⟩
         have hkn : (strV (onl.map reN))[j]? = some (.string jx) := by rw [← hjx]; simp [strV, hkx]
         have CW2 : ∀ (W : World), Below w.heap.size w W → Calls Tryz.prog 13 #[.agg #[.slice a1 LA1 b1, .slice r1 LR1 s1, .int .i64 m1], .string jx] W (fun e w' => ∃ r : RsI, e = .returned (.tuple #[r.v, .bool true]) ∧ r.d = x ∧ Below W.heap.size W w') := fun W hb => by
          have h := CW1.out W hb x.1
          rw [hjx] at h
          refine h.mono fun e w' ⟨r, h1, h2, _, h4⟩ => ⟨r, ?_, ?_, h4⟩
          ·rw [h1, hfx]
           rfl
          ·rw [h2, hfx]
           rfl
         replace CW2 := Lib.hid CW2
         have HKX := Lib.hid hkx
         have HOX := Lib.hid hox
         have HJX := Lib.hid hjx
         have HKN := Lib.hid hkn
         have wl : (j : Int) < (k : Int) := by omega
         clear hx hkx hxm hfx hox hkM hjx hkn
         go_wp2_with fail
         go_cut [14, 15] (fun z1 z2 wx => ∃ (Lb LL lb SL sb : Nat) (la sa : Option Addr), z1 = .pointer (some ⟨Lb, 0, none⟩) ∧ z2 = .bool true ∧ Sx w [(w.heap.size, [.slice a1 LA1 b1, .slice r1 LR1 s1, .int .i64 m1]), (Lb, [.string jx, .bool true, .int .i64 x.2.2.1, .slice la LL lb, .bool x.2.2.2.2.1, .slice sa SL sb])] wx ∧ OwX w [w.heap.size, Lb] 9 1 (.slice (some ⟨bn, 0, none⟩) k c1) k (strV (onl.map reN)) wx ∧ OwX w [w.heap.size, Lb] 9 1 (.slice v2 nb c2) nb (strV (bl.map reN)) wx)
         case first =>
          replace o_n := o_n.ret (Below.drew (Below.refl _ _))
          replace o_b := o_b.ret (Below.drew (Below.refl _ _))
          replace bs := bs.ret (Below.drew (Below.refl _ _))
          replace q := bs.q
          have y401 : wr.drew.heap.size = wr.heap.size := rfl
          refine wp_region_held_drew (S := fun w' => w'.cell? ⟨w.heap.size, 0, none⟩ = some (.slice a1 LA1 b1) ∧ w'.cell? ⟨w.heap.size, 1, none⟩ = some (.slice r1 LR1 s1) ∧ w'.cell? ⟨w.heap.size, 2, none⟩ = some (.int .i64 m1) ∧ w'.cell? ⟨bn, j, none⟩ = some (.string jx)) (by kernel_rfl) ⟨bs.at 0 0 rfl rfl, bs.at 0 1 rfl rfl, bs.at 0 2 rfl rfl, (row_at o_n.1 HKN.out)⟩ (fun hHeld => ?_)
          generalize wr.drew = w401 at bs o_n o_b q y401 hHeld ⊢
          refine tk_start [(0, some 73), (1, some 74), (2, some 75), (3, some 76), (4, some 77)] ?_
          iterate 5
           refine tk_step (v := ?_) (by kernel_rfl) (by kernel_rfl) (fun _ _ _ h => h) (by assumption) (fun o ho w' hSw => ?_) ?_
           rotate_left
           ·simp only [List.getElem?_toArray, List.getElem?_cons_succ, List.getElem?_cons_zero, Option.some.injEq] at ho; subst ho; (try dsimp only at hSw); go_simp; try with_reducible rfl
           simp only [Act.put, List.setIfInBounds_toArray, List.set_cons_zero, List.set_cons_succ]
          refine tk_end ?_
          refine wpAnyH_ready (rs := [5, 9]) (by kernel_rfl) (by simp) ?_
          refine tk_cons (by kernel_rfl) (fun o ho K hK => ?_) ?_
          ·simp only [List.getElem?_toArray, List.getElem?_cons_succ, List.getElem?_cons_zero, Option.some.injEq] at ho
           subst ho
           go_simp
           refine (CW2.out w401 q).mono ?_
           rintro e w402 ⟨⟨jy, oy, py, ly, ⟨la, lb⟩, ay, sy, ⟨sa, sb⟩⟩, rfl, hd, hb⟩
           replace o_n := o_n.ret hb
           replace o_b := o_b.ret hb
           replace bs := bs.ret hb
           replace q := bs.q
           clear hb
           have g1 : jy = x.1 := congrArg (fun r : Re => r.1) hd
           have g2 : oy = x.2.1 := congrArg (fun r : Re => r.2.1) hd
           have g3 : py = x.2.2.1 := congrArg (fun r : Re => r.2.2.1) hd
           have g5 : ay = x.2.2.2.2.1 := congrArg (fun r : Re => r.2.2.2.2.1) hd
           clear hd
           rw [HOX.out] at g2
           subst g1 g2 g3 g5
           obtain ⟨LL, hLL⟩ : ∃ L, ly.length = L := ⟨_, rfl⟩
           obtain ⟨SL, hSL⟩ : ∃ L, sy.length = L := ⟨_, rfl⟩
           simp only [RsI.v, RsI.lv, RsI.sv]
           rw [hLL, hSL, HJX.out]
           clear hLL hSL
           go_simp
           clear hHeld
           refine hK.out _ _ ⟨bs.at 0 0 rfl rfl, bs.at 0 1 rfl rfl, bs.at 0 2 rfl rfl, (row_at o_n.1 HKN.out)⟩ (fun hHeld => ?_)
           clear hK K
           refine tk_start [(6, some 72), (7, some 79), (8, some 80)] ?_
           iterate 3
            refine tk_step (v := ?_) (by kernel_rfl) (by kernel_rfl) (fun _ _ _ h => h) (by assumption) (fun o ho w' hSw => ?_) ?_
            rotate_left
            ·simp only [List.getElem?_toArray, List.getElem?_cons_succ, List.getElem?_cons_zero, Option.some.injEq] at ho; subst ho; (try dsimp only at hSw); go_simp; try with_reducible rfl
            simp only [Act.put, List.setIfInBounds_toArray, List.set_cons_zero, List.set_cons_succ]
           refine tk_end ?_
           refine tk_call (i := 9) (by kernel_rfl) (by kernel_rfl) (fun o ho K hK => ?_)
           simp only [List.getElem?_toArray, List.getElem?_cons_succ, List.getElem?_cons_zero, Option.some.injEq] at ho
           subst ho
           go_simp
           obtain ⟨w403, hw403, y403, al, bs⟩ := bs.alloc (w402.heap.size) rfl [.string ⟨#[]⟩, .bool false, .int .i64 0, .slice none 0 0, .bool false, .slice none 0 0] 38
           replace o_n := o_n.alloc (w402.heap.size) rfl al
           replace o_b := o_b.alloc (w402.heap.size) rfl al
           clear al
           replace q := bs.q
           rw [hw403]
           clear hHeld
           refine hK.out _ _ ⟨bs.at 0 0 rfl rfl, bs.at 0 1 rfl rfl, bs.at 0 2 rfl rfl, (row_at o_n.1 HKN.out)⟩ (fun hHeld => ?_)
           clear hK K
           refine tk_call (i := 10) (by kernel_rfl) (by kernel_rfl) (fun o ho K hK => ?_)
           simp only [List.getElem?_toArray, List.getElem?_cons_succ, List.getElem?_cons_zero, Option.some.injEq] at ho
           subst ho
           have c_y0 := bs.at 1 0 rfl rfl
           have f_y0 := bs.fz 1 0 rfl rfl
           have c_y1 := bs.at 1 1 rfl rfl
           have f_y1 := bs.fz 1 1 rfl rfl
           have c_y2 := bs.at 1 2 rfl rfl
           have f_y2 := bs.fz 1 2 rfl rfl
           have c_y3 := bs.at 1 3 rfl rfl
           have f_y3 := bs.fz 1 3 rfl rfl
           have c_y4 := bs.at 1 4 rfl rfl
           have f_y4 := bs.fz 1 4 rfl rfl
           have c_y5 := bs.at 1 5 rfl rfl
           have f_y5 := bs.fz 1 5 rfl rfl
           go_simp
           clear c_y0 f_y0 c_y1 f_y1 c_y2 f_y2 c_y3 f_y3 c_y4 f_y4 c_y5 f_y5
           obtain ⟨w404, hw404, y404, bs⟩ := bs.sets 1 0 [.string jx, .bool true, .int .i64 x.2.2.1, .slice la LL lb, .bool x.2.2.2.2.1, .slice sa SL sb] rfl (Nat.le_of_ble_eq_true rfl)
           replace o_n := o_n.sets 1 rfl hw404
           replace o_b := o_b.sets 1 rfl hw404
           replace q := bs.q
           simp only [World.setCells, Nat.reduceAdd] at hw404
           rw [hw404]
           clear hHeld
           refine hK.out _ _ ⟨bs.at 0 0 rfl rfl, bs.at 0 1 rfl rfl, bs.at 0 2 rfl rfl, (row_at o_n.1 HKN.out)⟩ (fun hHeld => ?_)
           clear hK K
           refine tk_on (i := 11) (some 15) (v := ?_) (by kernel_rfl) (by kernel_rfl) (by kernel_rfl) (by kernel_rfl) (fun _ _ _ h => h) (by assumption) (fun o ho w' hSw => ?_) ?_
           rotate_left
           ·(simp only [List.getElem?_toArray, List.getElem?_cons_succ, List.getElem?_cons_zero, Option.some.injEq] at ho; subst ho; (try dsimp only at hSw); go_simp; try with_reducible rfl)
           simp only [Act.put, List.setIfInBounds_toArray, List.set_cons_zero, List.set_cons_succ]
           refine wpAnyH_done (by kernel_rfl) ?_ _
           clear hHeld
           go_wp2_with fail
           go_meet
           exact ⟨_, LL, lb, SL, sb, la, sa, rfl, rfl, bs, o_n, o_b⟩
          refine tk_cons (by kernel_rfl) (fun o ho K hK => ?_) ?_
          ·simp only [List.getElem?_toArray, List.getElem?_cons_succ, List.getElem?_cons_zero, Option.some.injEq] at ho
           subst ho
           go_simp
           obtain ⟨w402, hw402, y402, al, bs⟩ := bs.alloc (wr.heap.size) (by omega) [.string ⟨#[]⟩, .bool false, .int .i64 0, .slice none 0 0, .bool false, .slice none 0 0] 38
           replace o_n := o_n.alloc (wr.heap.size) (by omega) al
           replace o_b := o_b.alloc (wr.heap.size) (by omega) al
           clear al
           replace q := bs.q
           rw [hw402]
           clear hHeld
           refine hK.out _ _ ⟨bs.at 0 0 rfl rfl, bs.at 0 1 rfl rfl, bs.at 0 2 rfl rfl, (row_at o_n.1 HKN.out)⟩ (fun hHeld => ?_)
           clear hK K
           refine tk_call (i := 5) (by kernel_rfl) (by kernel_rfl) (fun o ho K hK => ?_)
           simp only [List.getElem?_toArray, List.getElem?_cons_succ, List.getElem?_cons_zero, Option.some.injEq] at ho
           subst ho
           go_simp
           refine (CW2.out w402 q).mono ?_
           rintro e w403 ⟨⟨jy, oy, py, ly, ⟨la, lb⟩, ay, sy, ⟨sa, sb⟩⟩, rfl, hd, hb⟩
           replace o_n := o_n.ret hb
           replace o_b := o_b.ret hb
           replace bs := bs.ret hb
           replace q := bs.q
           clear hb
           have g1 : jy = x.1 := congrArg (fun r : Re => r.1) hd
           have g2 : oy = x.2.1 := congrArg (fun r : Re => r.2.1) hd
           have g3 : py = x.2.2.1 := congrArg (fun r : Re => r.2.2.1) hd
           have g5 : ay = x.2.2.2.2.1 := congrArg (fun r : Re => r.2.2.2.2.1) hd
           clear hd
           rw [HOX.out] at g2
           subst g1 g2 g3 g5
           obtain ⟨LL, hLL⟩ : ∃ L, ly.length = L := ⟨_, rfl⟩
           obtain ⟨SL, hSL⟩ : ∃ L, sy.length = L := ⟨_, rfl⟩
           simp only [RsI.v, RsI.lv, RsI.sv]
           rw [hLL, hSL, HJX.out]
           clear hLL hSL
           go_simp
           clear hHeld
           refine hK.out _ _ ⟨bs.at 0 0 rfl rfl, bs.at 0 1 rfl rfl, bs.at 0 2 rfl rfl, (row_at o_n.1 HKN.out)⟩ (fun hHeld => ?_)
           clear hK K
           refine tk_start [(6, some 72), (7, some 79), (8, some 80)] ?_
           iterate 3
            refine tk_step (v := ?_) (by kernel_rfl) (by kernel_rfl) (fun _ _ _ h => h) (by assumption) (fun o ho w' hSw => ?_) ?_
            rotate_left
            ·simp only [List.getElem?_toArray, List.getElem?_cons_succ, List.getElem?_cons_zero, Option.some.injEq] at ho; subst ho; (try dsimp only at hSw); go_simp; try with_reducible rfl
            simp only [Act.put, List.setIfInBounds_toArray, List.set_cons_zero, List.set_cons_succ]
           refine tk_end ?_
           refine tk_call (i := 10) (by kernel_rfl) (by kernel_rfl) (fun o ho K hK => ?_)
           simp only [List.getElem?_toArray, List.getElem?_cons_succ, List.getElem?_cons_zero, Option.some.injEq] at ho
           subst ho
           have c_y0 := bs.at 1 0 rfl rfl
           have f_y0 := bs.fz 1 0 rfl rfl
           have c_y1 := bs.at 1 1 rfl rfl
           have f_y1 := bs.fz 1 1 rfl rfl
           have c_y2 := bs.at 1 2 rfl rfl
           have f_y2 := bs.fz 1 2 rfl rfl
           have c_y3 := bs.at 1 3 rfl rfl
           have f_y3 := bs.fz 1 3 rfl rfl
           have c_y4 := bs.at 1 4 rfl rfl
           have f_y4 := bs.fz 1 4 rfl rfl
           have c_y5 := bs.at 1 5 rfl rfl
           have f_y5 := bs.fz 1 5 rfl rfl
           go_simp
           clear c_y0 f_y0 c_y1 f_y1 c_y2 f_y2 c_y3 f_y3 c_y4 f_y4 c_y5 f_y5
           obtain ⟨w404, hw404, y404, bs⟩ := bs.sets 1 0 [.string jx, .bool true, .int .i64 x.2.2.1, .slice la LL lb, .bool x.2.2.2.2.1, .slice sa SL sb] rfl (Nat.le_of_ble_eq_true rfl)
           replace o_n := o_n.sets 1 rfl hw404
           replace o_b := o_b.sets 1 rfl hw404
           replace q := bs.q
           simp only [World.setCells, Nat.reduceAdd] at hw404
           rw [hw404]
           clear hHeld
           refine hK.out _ _ ⟨bs.at 0 0 rfl rfl, bs.at 0 1 rfl rfl, bs.at 0 2 rfl rfl, (row_at o_n.1 HKN.out)⟩ (fun hHeld => ?_)
           clear hK K
           refine tk_on (i := 11) (some 15) (v := ?_) (by kernel_rfl) (by kernel_rfl) (by kernel_rfl) (by kernel_rfl) (fun _ _ _ h => h) (by assumption) (fun o ho w' hSw => ?_) ?_
           rotate_left
           ·(simp only [List.getElem?_toArray, List.getElem?_cons_succ, List.getElem?_cons_zero, Option.some.injEq] at ho; subst ho; (try dsimp only at hSw); go_simp; try with_reducible rfl)
           simp only [Act.put, List.setIfInBounds_toArray, List.set_cons_zero, List.set_cons_succ]
           refine wpAnyH_done (by kernel_rfl) ?_ _
           clear hHeld
           go_wp2_with fail
           go_meet
           exact ⟨_, LL, lb, SL, sb, la, sa, rfl, rfl, bs, o_n, o_b⟩
          exact AllReadyH.nil
         case rest =>
          obtain ⟨Lb, LL, lb, SL, sb, la, sa, rfl, rfl, bs1, o_n1, o_b1⟩ := hcut
          clear bs q o_n o_b
          have bs := bs1
          have o_n := o_n1
          have o_b := o_b1
          clear bs1 o_n1 o_b1
          have q := bs.q
          have hfs := filter_take_succ (bestQ onl) onl j x HKX.out
          have hfa := filter_at (bestQ onl) onl j x HKX.out
          rw [hbl.out] at hfa
          obtain ⟨cn, hcn⟩ : ∃ c, ((onl.take j).filter (bestQ onl)).length = c := ⟨_, rfl⟩
          rw [hcn] at hfs hfa ⊢
          have HFS := Lib.hid hfs
          have hqb : bestQ onl x = ((x.2.2.1 == TT) && decide (0 ≤ TT)) := by unfold bestQ; rw [HTT.out]
          obtain ⟨E1, hE1⟩ : ∃ E, (x.2.2.1 == TT) = E := ⟨_, rfl⟩
          obtain ⟨E2, hE2⟩ : ∃ E, decide (0 ≤ TT) = E := ⟨_, rfl⟩
          rw [hE1, hE2] at hqb
          clear hfs
          cases E1 with
          | false =>
           have hS : ((onl.take (j + 1)).filter (bestQ onl)).length = cn := by rw [HFS.out, hqb]; rfl
           have HS := Lib.hid hS
           clear hqb hfa hS hcn
           have c_y0 := bs.at 1 0 rfl rfl
           have c_y1 := bs.at 1 1 rfl rfl
           have c_y2 := bs.at 1 2 rfl rfl
           have c_y3 := bs.at 1 3 rfl rfl
           have c_y4 := bs.at 1 4 rfl rfl
           have c_y5 := bs.at 1 5 rfl rfl
           go_wp2_with fail
           clear c_y0 c_y1 c_y2 c_y3 c_y4 c_y5
           go_roundw
           case rel => exact ⟨j + 1, by go_num, by omega, by rw [HS.out], ⟨o_n.1, fun g hg hm => o_n.2 g hg (List.mem_append_left [Lb] hm)⟩, ⟨o_b.1, fun g hg hm => o_b.2 g hg (List.mem_append_left [Lb] hm)⟩, bs.some 1⟩
           case measure => simp [intOf]; omega
          | true =>
           cases E2 with
           | false =>
            have hS : ((onl.take (j + 1)).filter (bestQ onl)).length = cn := by rw [HFS.out, hqb]; rfl
            have HS := Lib.hid hS
            clear hqb hfa hS hcn
            have c_y0 := bs.at 1 0 rfl rfl
            have c_y1 := bs.at 1 1 rfl rfl
            have c_y2 := bs.at 1 2 rfl rfl
            have c_y3 := bs.at 1 3 rfl rfl
            have c_y4 := bs.at 1 4 rfl rfl
            have c_y5 := bs.at 1 5 rfl rfl
            go_wp2_with fail
            clear c_y0 c_y1 c_y2 c_y3 c_y4 c_y5
            go_roundw
            case rel => exact ⟨j + 1, by go_num, by omega, by rw [HS.out], ⟨o_n.1, fun g hg hm => o_n.2 g hg (List.mem_append_left [Lb] hm)⟩, ⟨o_b.1, fun g hg hm => o_b.2 g hg (List.mem_append_left [Lb] hm)⟩, bs.some 1⟩
            case measure => simp [intOf]; omega
           | true =>
            have hS : ((onl.take (j + 1)).filter (bestQ onl)).length = cn + 1 := by rw [HFS.out, hqb]; rfl
            have HS := Lib.hid hS
            have hat := hfa hqb
            have hcl : cn < nb := by
             rcases Nat.lt_or_ge cn bl.length with h1 | h1
             ·rw [← HNB.out]; exact h1
             ·rw [List.getElem?_eq_none h1] at hat; cases hat
            have hkb : (strV (bl.map reN))[cn]? = some (.string jx) := by rw [← HJX.out]; simp [strV, hat]
            obtain ⟨bb, rfl⟩ := row_some o_b.1 (by omega)
            have cb := row_at o_b.1 hkb
            have cn2 := row_at o_n.1 HKN.out
            have gb : decide (nb ≤ cn) = false := decide_eq_false (by omega)
            have wcn : (cn : Int) < (nb : Int) := by omega
            have hne : (jx.toList != jx.toList) = false := by simp
            clear hqb hfa hS hat hkb hcn
            have c_y0 := bs.at 1 0 rfl rfl
            have c_y1 := bs.at 1 1 rfl rfl
            have c_y2 := bs.at 1 2 rfl rfl
            have c_y3 := bs.at 1 3 rfl rfl
            have c_y4 := bs.at 1 4 rfl rfl
            have c_y5 := bs.at 1 5 rfl rfl
            go_wp2_with fail
            go_quiet (fail)
            replace bs := bs.ret (below_drewN wc nq)
            replace o_n := o_n.ret (below_drewN wc nq)
            replace o_b := o_b.ret (below_drewN wc nq)
            go_wp2_with fail
            clear c_y0 c_y1 c_y2 c_y3 c_y4 c_y5
            go_roundw
            case rel => exact ⟨j + 1, by go_num, by omega, by rw [HS.out]; rfl, ⟨o_n.1, fun g hg hm => o_n.2 g hg (List.mem_append_left [Lb] hm)⟩, ⟨o_b.1, fun g hg hm => o_b.2 g hg (List.mem_append_left [Lb] hm)⟩, bs.some 1⟩
            case measure => simp [intOf]; omega
        ·obtain rfl : j = k := by omega
         have htk : onl.take j = onl := List.take_of_length_le (by rw [HN.out]; exact Nat.le_refl _)
         rw [htk, hbl.out, HNB.out]
         have wl2 : ¬ (j : Int) < (j : Int) := by omega
         clear htk
         have c_c0 := bs.at 0 0 rfl rfl
         have c_c1 := bs.at 0 1 rfl rfl
         have c_c2 := bs.at 0 2 rfl rfl
         go_wp2_with fail
         clear c_c0 c_c1 c_c2
         go_ret
         exact ⟨by simp, q⟩
end Go.Proofs.YtjgeiieiinmdnaaGreatDoor
