/- roster.asked, Send, Take. PRINTED BY PROGRAM (gen_ropa.py). -/
import Derived.Test.YtfonkblbgadhmaaGreatDoorRoPa
namespace Go.Proofs.YtfonkblbgadhmaaGreatDoor
open Go.RowKit Go.Lib

theorem sub_Send_G (s : Sb) (k : Int) (w : World) (ho : subMay s = true) (h1 : 1 ≤ k) (h2 : k ≤ 4) :
  Calls Tryz.prog 33 #[.agg #[.bool s.1, .bool s.2.1, .bool s.2.2.1, .bool s.2.2.2], .int .u8 k] w (Ret w (.tuple #[.agg #[.bool (subSend s k).1.1, .bool (subSend s k).1.2.1, .bool (subSend s k).1.2.2.1, .bool (subSend s k).1.2.2.2], .bool (subSend s k).2, .int .i64 0])) :=
 sub_Send_F s.1 s.2.1 s.2.2.1 s.2.2.2 k (subMay_ho ho) h1 h2 w
theorem sub_Take_G (s : Sb) (k : Int) (w : World) (ho : subMay s = true) (h1 : 1 ≤ k) (h2 : k ≤ 4) :
  Calls Tryz.prog 34 #[.agg #[.bool s.1, .bool s.2.1, .bool s.2.2.1, .bool s.2.2.2], .int .u8 k] w (Ret w (.tuple #[.agg #[.bool (subTake s k).1.1, .bool (subTake s k).1.2.1, .bool (subTake s k).1.2.2.1, .bool (subTake s k).1.2.2.2], .bool (subTake s k).2.1, .int .u8 (subTake s k).2.2, .int .i64 0])) := by
 obtain ⟨a, b, c, d⟩ := s
 have ho := subMay_ho ho
 by_cases hk : k = 1 ∧ c = true
 ·obtain ⟨rfl, rfl⟩ := hk
  exact sub_Take1t a b d ho w
 ·have h := sub_Take_F a b c d k ho h1 h2 (fun e => by cases c with | false => rfl | true => exact absurd ⟨e, rfl⟩ hk) w
  have e : (subTake (a, b, c, d) k).2.2 = 0 := by unfold subTake; exact if_neg hk
  rw [e]
  exact h
set_option maxHeartbeats 3000000 in
set_option maxRecDepth 100000 in
theorem ro_asked_bad (v : Value) (ver : Int) (M : List Im) (t : List UInt8) (k : Int) (w : World) (hv : IsItems v M w) (hs : SmallI M) (hm : ML w) (zt : t.length ≤ 10000) (hk0 : 0 ≤ k) (hk1 : k ≤ 255) (ha : askC (M.map Prod.fst) ver t k ≠ 0) :
  Calls Tryz.prog 55 #[.agg #[v, .int .i64 ver], .string ⟨t.toArray⟩, .int .u8 k] w (Ret w (.tuple #[.pointer none, .int .i64 (askC (M.map Prod.fst) ver t k)])) := by
 obtain ⟨a0, cap0, hf, -⟩ := hv.form
 obtain ⟨L0, hL⟩ : ∃ L, M.length = L := ⟨_, rfl⟩
 rw [hL] at hf
 subst hf
 have HM := Lib.hid hm
 unfold askC at ha ⊢
 cases hmay : mayR (M.map Prod.fst) ver with
 | false =>
  have CO := Lib.hid (fun (w' : World) (hb : Below w.heap.size w w') => ro_of_bad (.slice a0 L0 cap0) ver M t w' (hv.ret hb) hs (hm.ret hb) zt hmay)
  simp only [Bool.false_eq_true, if_false]
  clear hv hs hm hmay zt hL ha
  obtain ⟨W0, hW, y0, bs⟩ := Sx.start1 w [.slice a0 L0 cap0, .int .i64 ver] 24
  have HW := Lib.hid hW
  clear hW
  have q := bs.q
  go_enter Tryz.func55, Tryz.ntmps55
  go_wp2_with fail
  rw [HW.out]
  refine (CO.out W0 q).mono ?_
  rintro e w1 ⟨rfl, hb⟩
  replace bs := bs.ret hb
  replace q := bs.q
  clear hb
  go_wp2_with fail
  go_ret2
  exact ⟨rfl, q⟩
 | true =>
  have CO := Lib.hid (fun (w' : World) (hb : Below w.heap.size w w') => ro_of_ok (.slice a0 L0 cap0) ver M t w' (hv.ret hb) hs (hm.ret hb) zt hmay)
  obtain ⟨X, Y, Z, CA⟩ := adr_pr t zt
  have HLL := Lib.hid hL
  have HTH : Hid (thereL (M.map Prod.fst) t = thereL (M.map Prod.fst) t) := Lib.hid rfl
  rw [hmay, if_pos rfl] at ha
  simp only [if_true]
  have hn : ¬ (adrOk t && (decide (1 ≤ k) && decide (k ≤ 4))) = true := fun h => ha (by rw [if_pos h])
  rw [if_neg hn]
  clear hv hs hm hmay zt hL ha
  cases hA : adrOk t with
  | false =>
   rw [hA] at CA
   have CA := Lib.hid CA
   clear hn hA
   obtain ⟨W0, hW, y0, bs⟩ := Sx.start1 w [.slice a0 L0 cap0, .int .i64 ver] 24
   have HW := Lib.hid hW
   clear hW
   have q := bs.q
   go_enter Tryz.func55, Tryz.ntmps55
   go_wp2_with fail
   rw [HW.out]
   refine (CO.out W0 q).mono ?_
   rintro e w1 ⟨hb, U, v1, M1, p, rfl, -, -, -, -⟩
   replace bs := bs.ret hb
   replace q := bs.q
   clear hb
   go_wp2_with fail
   refine (CA.out w1 (HM.out.ret q)).mono ?_
   rintro e w2 ⟨rfl, hb⟩
   replace bs := bs.ret hb
   replace q := bs.q
   clear hb
   go_wp2_with fail
   obtain ⟨w3, hw3, y3, al, bs⟩ := bs.alloc (w2.heap.size) rfl [.string X, .string Y, .string Z] 85
   clear al
   replace q := bs.q
   rw [hw3]
   go_ret2
   exact ⟨rfl, q⟩
  | true =>
   rw [hA] at CA hn
   have CA := Lib.hid CA
   simp only [Bool.true_and, Bool.and_eq_true, decide_eq_true_eq] at hn
   by_cases h1 : 1 ≤ k
   ·have h2 : ¬ k ≤ 4 := fun h => hn ⟨h1, h⟩
    have h3 : ¬ k < 1 := by omega
    have h4 : 4 < k := by omega
    clear hn hA
    obtain ⟨W0, hW, y0, bs⟩ := Sx.start1 w [.slice a0 L0 cap0, .int .i64 ver] 24
    have HW := Lib.hid hW
    clear hW
    have q := bs.q
    go_enter Tryz.func55, Tryz.ntmps55
    go_wp2_with fail
    rw [HW.out]
    refine (CO.out W0 q).mono ?_
    rintro e w1 ⟨hb, U, v1, M1, p, rfl, -, -, -, -⟩
    replace bs := bs.ret hb
    replace q := bs.q
    clear hb
    go_wp2_with fail
    refine (CA.out w1 (HM.out.ret q)).mono ?_
    rintro e w2 ⟨rfl, hb⟩
    replace bs := bs.ret hb
    replace q := bs.q
    clear hb
    go_wp2_with fail
    obtain ⟨w3, hw3, y3, al, bs⟩ := bs.alloc (w2.heap.size) rfl [.string X, .string Y, .string Z] 85
    clear al
    replace q := bs.q
    rw [hw3]
    go_ret2
    exact ⟨rfl, q⟩
   ·have h3 : k < 1 := by omega
    clear hn hA
    obtain ⟨W0, hW, y0, bs⟩ := Sx.start1 w [.slice a0 L0 cap0, .int .i64 ver] 24
    have HW := Lib.hid hW
    clear hW
    have q := bs.q
    go_enter Tryz.func55, Tryz.ntmps55
    go_wp2_with fail
    rw [HW.out]
    refine (CO.out W0 q).mono ?_
    rintro e w1 ⟨hb, U, v1, M1, p, rfl, -, -, -, -⟩
    replace bs := bs.ret hb
    replace q := bs.q
    clear hb
    go_wp2_with fail
    refine (CA.out w1 (HM.out.ret q)).mono ?_
    rintro e w2 ⟨rfl, hb⟩
    replace bs := bs.ret hb
    replace q := bs.q
    clear hb
    go_wp2_with fail
    obtain ⟨w3, hw3, y3, al, bs⟩ := bs.alloc (w2.heap.size) rfl [.string X, .string Y, .string Z] 85
    clear al
    replace q := bs.q
    rw [hw3]
    go_ret2
    exact ⟨rfl, q⟩
set_option maxHeartbeats 3000000 in
set_option maxRecDepth 100000 in
theorem ro_asked_ok (v : Value) (ver : Int) (M : List Im) (t : List UInt8) (k : Int) (w : World) (hv : IsItems v M w) (hs : SmallI M) (hm : ML w) (zt : t.length ≤ 10000) (hmay : mayR (M.map Prod.fst) ver = true) (hA : adrOk t = true) (h1 : 1 ≤ k) (h2 : k ≤ 4) :
  Calls Tryz.prog 55 #[.agg #[v, .int .i64 ver], .string ⟨t.toArray⟩, .int .u8 k] w (OfOk w (M.map Prod.fst) ver t) := by
 obtain ⟨a0, cap0, hf, -⟩ := hv.form
 obtain ⟨L0, hL⟩ : ∃ L, M.length = L := ⟨_, rfl⟩
 rw [hL] at hf
 subst hf
 have HM := Lib.hid hm
 have CO := Lib.hid (fun (w' : World) (hb : Below w.heap.size w w') => ro_of_ok (.slice a0 L0 cap0) ver M t w' (hv.ret hb) hs (hm.ret hb) zt hmay)
 obtain ⟨X, Y, Z, CA⟩ := adr_pr t zt
 have HLL := Lib.hid hL
 have HTH : Hid (thereL (M.map Prod.fst) t = thereL (M.map Prod.fst) t) := Lib.hid rfl
 rw [hA] at CA
 have CA := Lib.hid CA
 have h3 : ¬ k < 1 := by omega
 have h4 : ¬ 4 < k := by omega
 clear hv hs hm hmay zt hL hA
 obtain ⟨W0, hW, y0, bs⟩ := Sx.start1 w [.slice a0 L0 cap0, .int .i64 ver] 24
 have HW := Lib.hid hW
 clear hW
 have q := bs.q
 go_enter Tryz.func55, Tryz.ntmps55
 go_wp2_with fail
 rw [HW.out]
 refine (CO.out W0 q).mono ?_
 rintro e w1 ⟨hb, U, v1, M1, p, rfl, e1, e2, e3, hun⟩
 have hun1 := hun.mono bs.q.size
 have E1 := Lib.hid e1
 have E2 := Lib.hid e2
 have E3 := Lib.hid e3
 clear hun e1 e2 e3
 replace bs := bs.ret hb
 replace q := bs.q
 clear hb
 go_wp2_with fail
 refine (CA.out w1 (HM.out.ret q)).mono ?_
 rintro e w2 ⟨rfl, hb⟩
 replace bs := bs.ret hb
 replace q := bs.q
 have hun2 := hun1.ret hb
 clear hb hun1
 go_wp2_with fail
 obtain ⟨w3, hw3, y3, al, bs⟩ := bs.alloc (w2.heap.size) rfl [.string X, .string Y, .string Z] 85
 have hun3 := hun2.ret al
 replace q := bs.q
 rw [hw3]
 go_ret2
 exact ⟨q, U, v1, M1, p, rfl, E1.out, E2.out, E3.out, hun3⟩
theorem tn_ok {w0 : World} {U : Nat} {v : Value} {M : List Im} {ver : Int} {p : Im} {n : Nat} {th : Bool} {y : Im} {s : Sb} {w w' : World} {e : Ending} (h : TnIs w0 U v M ver p n th y s w e w') (hc : (quitP y.1 s || (th || decide (M.length < 16))) = true) :
  e = .returned (.tuple #[.bool (!quitP y.1 s && pushP p.1 y.1), .int .i64 0]) ∧ ∃ v', Mv w0 U v M v' (tnM M n th y s) w w' ∧
  Ur w0 U v' (tnM M n th y s) (if !quitP y.1 s && pushP p.1 y.1 then nextV ver else ver) p n th w' ∧ ∀ ad, U ∈ ad → (∀ a ∈ ad, a < w.heap.size) → OwnX w0 ad v M w → OwnX w0 ad v' (tnM M n th y s) w' := by
 rcases h with ⟨h1, _⟩ | ⟨_, h2, h3⟩
 ·rw [hc] at h1; cases h1
 ·exact ⟨h2, h3⟩
theorem tn_full {w0 : World} {U : Nat} {v : Value} {M : List Im} {ver : Int} {p : Im} {n : Nat} {th : Bool} {y : Im} {s : Sb} {w w' : World} {e : Ending} (h : TnIs w0 U v M ver p n th y s w e w') (hc : (quitP y.1 s || (th || decide (M.length < 16))) = false) :
  e = .returned (.tuple #[.bool false, .int .i64 9]) ∧ Below w.heap.size w w' := by
 rcases h with ⟨_, h2, h3⟩ | ⟨h1, _⟩
 ·exact ⟨h2, h3⟩
 ·rw [hc] at h1; cases h1
/-- what Send answers: a roster in memory of the call's own, what comes of it, and the error. -/
def SendC (w : World) (L : List It) (ver : Int) (goes : Bool) (push : Bool) (code : Int) (e : Ending) (w' : World) : Prop := ∃ a c, e = .returned (.tuple #[.agg #[.slice a L.length c, .int .i64 ver], .bool goes, .bool push, .int .i64 code]) ∧ OwnR w L (.slice a L.length c) w'
theorem SendC.zero {w w' : World} {code : Int} (hb : Below w.heap.size w w') : SendC w [] 0 false false code (.returned (.tuple #[.agg #[.slice none 0 0, .int .i64 0], .bool false, .bool false, .int .i64 code])) w' := ⟨none, 0, rfl, [], rfl, OwnItems.nil _ _, hb⟩
set_option maxHeartbeats 3000000 in
set_option maxRecDepth 100000 in
theorem ro_Send (v : Value) (ver : Int) (M : List Im) (t : List UInt8) (k : Int) (w : World) (hv : IsItems v M w) (hs : SmallI M) (hm : ML w) (zt : t.length ≤ 10000) (hk0 : 0 ≤ k) (hk1 : k ≤ 255) :
  Calls Tryz.prog 23 #[.agg #[v, .int .i64 ver], .string ⟨t.toArray⟩, .int .u8 k] w (SendC w (sendP (M.map Prod.fst) ver t k).1 (sendP (M.map Prod.fst) ver t k).2.1 (sendP (M.map Prod.fst) ver t k).2.2.1 (sendP (M.map Prod.fst) ver t k).2.2.2 (sendC (M.map Prod.fst) ver t k)) := by
 obtain ⟨a0, cap0, hf, -⟩ := hv.form
 obtain ⟨L0, hL⟩ : ∃ L, M.length = L := ⟨_, rfl⟩
 rw [hL] at hf
 subst hf
 have HM := Lib.hid hm
 unfold sendP sendC
 by_cases hask : askC (M.map Prod.fst) ver t k = 0
 ·have hall : mayR (M.map Prod.fst) ver = true ∧ (adrOk t = true ∧ (1 ≤ k ∧ k ≤ 4)) := by
   unfold askC at hask
   split at hask
   ·rename_i h
    split at hask
    ·rename_i h2
     simp only [Bool.and_eq_true, decide_eq_true_eq] at h2
     exact ⟨h, h2⟩
    ·cases hask
   ·cases hask
  obtain ⟨hmay, hA, hk2, hk3⟩ := hall
  rw [if_pos hask]
  have CO := Lib.hid (fun (w' : World) (hb : Below w.heap.size w w') => ro_asked_ok (.slice a0 L0 cap0) ver M t k w' (hv.ret hb) hs (hm.ret hb) zt hmay hA hk2 hk3)
  obtain ⟨hal, hch, hl16, hv0, hv1⟩ := may_facts21 hmay
  rw [List.length_map, hL] at hl16
  have hwm := (was_may (t := t) hmay).1
  have SP := Lib.hid hwm
  have SS := Lib.hid (send_may hwm hk2 hk3)
  have HLL := Lib.hid hL
  have HL16 := Lib.hid hl16
  have HV0 := Lib.hid hv0
  have HV1 := Lib.hid hv1
  have CS := Lib.hid (fun w' => sub_Send_G (wasL (M.map Prod.fst) t).s k w' hwm hk2 hk3)
  obtain ⟨th, hT⟩ : ∃ th, thereL (M.map Prod.fst) t = th := ⟨_, rfl⟩
  have HTH := Lib.hid hT
  have hcode : turnC (M.map Prod.fst) t (subSend (wasL (M.map Prod.fst) t).s k).1 = if quitP (turnI (wasL (M.map Prod.fst) t) t (subSend (wasL (M.map Prod.fst) t).s k).1) (subSend (wasL (M.map Prod.fst) t).s k).1 || (th || decide (L0 < 16)) then 0 else 9 := by unfold turnC; rw [hT, List.length_map, hL]
  have HSF : Hid ((subSend (wasL (M.map Prod.fst) t).s k).1 = (subSend (wasL (M.map Prod.fst) t).s k).1) := Lib.hid rfl
  generalize hsf : subSend (wasL (M.map Prod.fst) t).s k = sf at hcode SS CS ⊢
  obtain ⟨⟨sa, sb, sc, sd⟩, goes⟩ := sf
  have HCODE := Lib.hid hcode
  simp only at SS CS ⊢
  clear hv hs hm hmay zt hL hask hA hal hch hl16 hv0 hv1 hwm hT hcode HSF hsf
  cases hcc : (quitP (turnI (wasL (M.map Prod.fst) t) t (sa, sb, sc, sd)) (sa, sb, sc, sd) || (th || decide (L0 < 16))) with
  | false =>
   have HCC := Lib.hid hcc
   rw [HCODE.out]
   dsimp only
   rw [hcc]
   simp only [Bool.false_eq_true, if_false, if_neg (show ¬ (9 : Int) = 0 by decide)]
   clear hcc HCODE
   obtain ⟨W0, hW, y0, bs⟩ := Sx.start2 w [.slice a0 L0 cap0, .int .i64 ver] 24 [.slice none 0 0, .int .i64 0] 24
   have HW := Lib.hid hW
   clear hW
   have q := bs.q
   go_enter Tryz.func23, Tryz.ntmps23
   go_wp2_with fail
   rw [HW.out]
   refine (CO.out W0 q).mono ?_
   rintro e w1 ⟨hb, U, v1, M1, p, rfl, hM1, hp, hpm, hun⟩
   have o_m := hun.ownX bs
   have bs1 := bs.join hb hun.bx hun.le
   have hUle := Nat.le_trans bs.q.size hun.le
   have HP := Lib.hid hp
   have HM1 := Lib.hid hM1
   have HPM := Lib.hid hpm
   have HUL := Lib.hid hUle
   have hpf := pos_facts (t := t) hM1
   have hml : M1.length = L0 := by have := congrArg List.length hM1; simpa [HLL.out] using this
   clear bs q hb hun hUle hp hM1 hpm
   have bs := bs1
   have q := bs.q
   clear bs1
   obtain ⟨kk, hkk⟩ : ∃ kk, posL (M.map Prod.fst) t = kk := ⟨_, rfl⟩
   rw [hkk] at bs hpf
   have hth := HTH.out
   rw [hth] at bs hpf
   have HPF := Lib.hid hpf
   have HML := Lib.hid hml
   have HKK := Lib.hid hkk
   clear hpf hml hkk hth
   have CSP := Lib.hid (fun w' => by have h := CS.out w'; rw [← HP.out] at h; exact h)
   have c_u0 := bs.at 2 0 rfl rfl
   have c_u1 := bs.at 2 1 rfl rfl
   have c_u2 := bs.at 2 2 rfl rfl
   have c_u3 := bs.at 2 3 rfl rfl
   have c_u4 := bs.at 2 4 rfl rfl
   have c_u5 := bs.at 2 5 rfl rfl
   have c_u6 := bs.at 2 6 rfl rfl
   have c_u7 := bs.at 2 7 rfl rfl
   have c_u8 := bs.at 2 8 rfl rfl
   have c_u9 := bs.at 2 9 rfl rfl
   have c_u10 := bs.at 2 10 rfl rfl
   have c_u11 := bs.at 2 11 rfl rfl
   go_wp2_with fail
   refine (CSP.out _).mono ?_
   rintro e w2 ⟨rfl, hb⟩
   clear c_u0 c_u1 c_u2 c_u3 c_u4 c_u5 c_u6 c_u7 c_u8 c_u9 c_u10 c_u11
   replace o_m := o_m.ret hb
   replace bs := bs.ret hb
   replace q := bs.q
   clear hb
   go_wp2_with fail
   obtain ⟨w3, hw3, y3, al, bs⟩ := bs.alloc (w2.heap.size) rfl [.bool sa, .bool sb, .bool sc, .bool sd] 29
   replace o_m := o_m.alloc (w2.heap.size) rfl al
   clear al
   replace q := bs.q
   rw [hw3]
   have ur : Ur w U v1 M1 ver p kk th w3 := ⟨bs.box 2 rfl, o_m.sub (by simp), HUL.out⟩
   refine (ro_turn w U v1 M1 ver p kk th t sa sb sc sd w3 ur q HPM.out HPF.out.1 HPF.out.2 (by have := HML.out; have := HL16.out; omega) HV0.out HV1.out (by rw [HP.out]; exact SP.out) SS.out).mono ?_
   rintro e w4 htn
   obtain ⟨rfl, hb⟩ := tn_full htn (by rw [tnI_eq, HP.out, HML.out]; exact HCC.out)
   replace o_m := o_m.ret hb
   replace bs := bs.ret hb
   replace q := bs.q
   clear hb htn ur
   have c_z0 := bs.at 1 0 rfl rfl
   have f_z0 := bs.fz 1 0 rfl rfl
   have c_z1 := bs.at 1 1 rfl rfl
   have f_z1 := bs.fz 1 1 rfl rfl
   go_wp2_with fail
   clear c_z0 f_z0 c_z1 f_z1
   obtain ⟨w5, hw5, y5, bs⟩ := bs.sets 1 0 [.slice none 0 0, .int .i64 0] rfl (Nat.le_of_ble_eq_true rfl)
   replace o_m := o_m.sets 1 rfl hw5
   replace q := bs.q
   simp only [World.setCells, Nat.reduceAdd] at hw5
   rw [hw5]
   refine bodyPost_ret (ret_r4 rfl rfl rfl rfl rfl (bs.box 1 rfl)) rfl (SendC.zero q)
  | true =>
   have HCC := Lib.hid hcc
   rw [HCODE.out]
   dsimp only
   rw [hcc]
   simp only [if_true]
   clear hcc HCODE
   obtain ⟨W0, hW, y0, bs⟩ := Sx.start2 w [.slice a0 L0 cap0, .int .i64 ver] 24 [.slice none 0 0, .int .i64 0] 24
   have HW := Lib.hid hW
   clear hW
   have q := bs.q
   go_enter Tryz.func23, Tryz.ntmps23
   go_wp2_with fail
   rw [HW.out]
   refine (CO.out W0 q).mono ?_
   rintro e w1 ⟨hb, U, v1, M1, p, rfl, hM1, hp, hpm, hun⟩
   have o_m := hun.ownX bs
   have bs1 := bs.join hb hun.bx hun.le
   have hUle := Nat.le_trans bs.q.size hun.le
   have HP := Lib.hid hp
   have HM1 := Lib.hid hM1
   have HPM := Lib.hid hpm
   have HUL := Lib.hid hUle
   have hpf := pos_facts (t := t) hM1
   have hml : M1.length = L0 := by have := congrArg List.length hM1; simpa [HLL.out] using this
   clear bs q hb hun hUle hp hM1 hpm
   have bs := bs1
   have q := bs.q
   clear bs1
   obtain ⟨kk, hkk⟩ : ∃ kk, posL (M.map Prod.fst) t = kk := ⟨_, rfl⟩
   rw [hkk] at bs hpf
   have hth := HTH.out
   rw [hth] at bs hpf
   have HPF := Lib.hid hpf
   have HML := Lib.hid hml
   have HKK := Lib.hid hkk
   clear hpf hml hkk hth
   have CSP := Lib.hid (fun w' => by have h := CS.out w'; rw [← HP.out] at h; exact h)
   have c_u0 := bs.at 2 0 rfl rfl
   have c_u1 := bs.at 2 1 rfl rfl
   have c_u2 := bs.at 2 2 rfl rfl
   have c_u3 := bs.at 2 3 rfl rfl
   have c_u4 := bs.at 2 4 rfl rfl
   have c_u5 := bs.at 2 5 rfl rfl
   have c_u6 := bs.at 2 6 rfl rfl
   have c_u7 := bs.at 2 7 rfl rfl
   have c_u8 := bs.at 2 8 rfl rfl
   have c_u9 := bs.at 2 9 rfl rfl
   have c_u10 := bs.at 2 10 rfl rfl
   have c_u11 := bs.at 2 11 rfl rfl
   go_wp2_with fail
   refine (CSP.out _).mono ?_
   rintro e w2 ⟨rfl, hb⟩
   clear c_u0 c_u1 c_u2 c_u3 c_u4 c_u5 c_u6 c_u7 c_u8 c_u9 c_u10 c_u11
   replace o_m := o_m.ret hb
   replace bs := bs.ret hb
   replace q := bs.q
   clear hb
   go_wp2_with fail
   obtain ⟨w3, hw3, y3, al, bs⟩ := bs.alloc (w2.heap.size) rfl [.bool sa, .bool sb, .bool sc, .bool sd] 29
   replace o_m := o_m.alloc (w2.heap.size) rfl al
   clear al
   replace q := bs.q
   rw [hw3]
   have ur : Ur w U v1 M1 ver p kk th w3 := ⟨bs.box 2 rfl, o_m.sub (by simp), HUL.out⟩
   refine ((ro_turn w U v1 M1 ver p kk th t sa sb sc sd w3 ur q HPM.out HPF.out.1 HPF.out.2 (by have := HML.out; have := HL16.out; omega) HV0.out HV1.out (by rw [HP.out]; exact SP.out) SS.out)).mono ?_
   rintro e w4 htn
   obtain ⟨rfl, v2, mv, ur1, cl⟩ := tn_ok htn (by rw [tnI_eq, HP.out, HML.out]; exact HCC.out)
   obtain ⟨MM, hMM⟩ : ∃ MM, tnM M1 kk th (tnI p t (sa, sb, sc, sd)) (sa, sb, sc, sd) = MM := ⟨_, rfl⟩
   obtain ⟨VV, hVV⟩ : ∃ VV, (if !quitP (tnI p t (sa, sb, sc, sd)).1 (sa, sb, sc, sd) && pushP p.1 (tnI p t (sa, sb, sc, sd)).1 then nextV ver else ver) = VV := ⟨_, rfl⟩
   obtain ⟨PP, hPP⟩ : ∃ PP, (!quitP (tnI p t (sa, sb, sc, sd)).1 (sa, sb, sc, sd) && pushP p.1 (tnI p t (sa, sb, sc, sd)).1) = PP := ⟨_, rfl⟩
   rw [hMM] at mv ur1 cl
   rw [hVV] at ur1
   rw [hPP]
   have HMM := Lib.hid hMM
   have HVV := Lib.hid hVV
   have HPP := Lib.hid hPP
   clear hMM hVV hPP
   clear htn ur
   have hof := cl _ (by simp) bs.ltm o_m
   have bs1 := bs.turned 2 rfl mv (fun g hg => o_m.1.2 g hg) ur1.bx
   clear bs o_m q cl ur1 mv
   have bs := bs1
   have q := bs.q
   have o_m := hof
   clear bs1 hof
   obtain ⟨a2, c2, rfl, -⟩ := row_form o_m.1.1
   have c_u0 := bs.at 2 0 rfl rfl
   have c_u1 := bs.at 2 1 rfl rfl
   have c_u2 := bs.at 2 2 rfl rfl
   have c_u3 := bs.at 2 3 rfl rfl
   have c_u4 := bs.at 2 4 rfl rfl
   have c_u5 := bs.at 2 5 rfl rfl
   have c_u6 := bs.at 2 6 rfl rfl
   have c_u7 := bs.at 2 7 rfl rfl
   have c_u8 := bs.at 2 8 rfl rfl
   have c_u9 := bs.at 2 9 rfl rfl
   have c_u10 := bs.at 2 10 rfl rfl
   have c_u11 := bs.at 2 11 rfl rfl
   have c_z0 := bs.at 1 0 rfl rfl
   have f_z0 := bs.fz 1 0 rfl rfl
   have c_z1 := bs.at 1 1 rfl rfl
   have f_z1 := bs.fz 1 1 rfl rfl
   go_wp2_with fail
   clear c_u0 c_u1 c_u2 c_u3 c_u4 c_u5 c_u6 c_u7 c_u8 c_u9 c_u10 c_u11 c_z0 f_z0 c_z1 f_z1
   obtain ⟨w5, hw5, y5, bs⟩ := bs.sets 1 0 [.slice a2 MM.length c2, .int .i64 VV] rfl (Nat.le_of_ble_eq_true rfl)
   replace o_m := o_m.sets 1 rfl hw5
   replace q := bs.q
   have hfin : MM.map Prod.fst = turnL (M.map Prod.fst) t (sa, sb, sc, sd) := by
    rw [← HMM.out]
    unfold tnM turnL
    rw [tnI_eq, HP.out]
    cases quitP (turnI (wasL (M.map Prod.fst) t) t (sa, sb, sc, sd)) (sa, sb, sc, sd) with
    | true =>
     simp only [if_true]
     have h := map_goneI M1 t
     rw [HM1.out, HKK.out, HTH.out] at h
     exact h
    | false =>
     simp only [Bool.false_eq_true, if_false]
     have h := map_putI M1 (tnI p t (sa, sb, sc, sd)) t rfl
     rw [HM1.out, HKK.out, HTH.out] at h
     rw [h, tnI_eq, HP.out]
   have hpv : PP = turnPush (M.map Prod.fst) t (sa, sb, sc, sd) := by rw [← HPP.out]; unfold turnPush; rw [tnI_eq, HP.out]
   have hvv : VV = turnV (M.map Prod.fst) ver t (sa, sb, sc, sd) := by rw [← HVV.out, HPP.out, hpv]; rfl
   have hfl : (turnL (M.map Prod.fst) t (sa, sb, sc, sd)).length = MM.length := by rw [← hfin, List.length_map]
   skip
   simp only [World.setCells, Nat.reduceAdd] at hw5
   rw [hw5]
   refine bodyPost_ret (ret_r4 rfl rfl rfl rfl rfl (bs.box 1 rfl)) rfl ⟨a2, c2, by rw [hfl, ← hpv, ← hvv]; rfl, MM, hfin, by rw [hfl]; exact o_m.own, q⟩
 ·rw [if_neg hask]
  have CO := Lib.hid (fun (w' : World) (hb : Below w.heap.size w w') => ro_asked_bad (.slice a0 L0 cap0) ver M t k w' (hv.ret hb) hs (hm.ret hb) zt hk0 hk1 hask)
  simp only [if_neg hask]
  obtain ⟨code, hcode⟩ : ∃ code, askC (M.map Prod.fst) ver t k = code := ⟨_, rfl⟩
  rw [hcode] at CO hask ⊢
  clear hv hs hm zt hL hcode
  obtain ⟨W0, hW, y0, bs⟩ := Sx.start2 w [.slice a0 L0 cap0, .int .i64 ver] 24 [.slice none 0 0, .int .i64 0] 24
  have HW := Lib.hid hW
  clear hW
  have q := bs.q
  go_enter Tryz.func23, Tryz.ntmps23
  go_wp2_with fail
  rw [HW.out]
  refine (CO.out W0 q).mono ?_
  rintro e w1 ⟨rfl, hb⟩
  replace bs := bs.ret hb
  replace q := bs.q
  clear hb
  have c_z0 := bs.at 1 0 rfl rfl
  have f_z0 := bs.fz 1 0 rfl rfl
  have c_z1 := bs.at 1 1 rfl rfl
  have f_z1 := bs.fz 1 1 rfl rfl
  go_wp2_with fail
  clear c_z0 f_z0 c_z1 f_z1
  obtain ⟨w2, hw2, y2, bs⟩ := bs.sets 1 0 [.slice none 0 0, .int .i64 0] rfl (Nat.le_of_ble_eq_true rfl)
  replace q := bs.q
  simp only [World.setCells, Nat.reduceAdd] at hw2
  rw [hw2]
  refine bodyPost_ret (ret_r4 rfl rfl rfl rfl rfl (bs.box 1 rfl)) rfl (SendC.zero q)
/-- what Take answers: a roster in memory of the call's own, what comes of it, and the error. -/
def TakeC (w : World) (L : List It) (ver : Int) (told : Bool) (back : Int) (push : Bool) (code : Int) (e : Ending) (w' : World) : Prop := ∃ a c, e = .returned (.tuple #[.agg #[.slice a L.length c, .int .i64 ver], .bool told, .int .u8 back, .bool push, .int .i64 code]) ∧ OwnR w L (.slice a L.length c) w'
theorem TakeC.zero {w w' : World} {code : Int} (hb : Below w.heap.size w w') : TakeC w [] 0 false 0 false code (.returned (.tuple #[.agg #[.slice none 0 0, .int .i64 0], .bool false, .int .u8 0, .bool false, .int .i64 code])) w' := ⟨none, 0, rfl, [], rfl, OwnItems.nil _ _, hb⟩
set_option maxHeartbeats 3000000 in
set_option maxRecDepth 100000 in
theorem ro_Take (v : Value) (ver : Int) (M : List Im) (t : List UInt8) (k : Int) (w : World) (hv : IsItems v M w) (hs : SmallI M) (hm : ML w) (zt : t.length ≤ 10000) (hk0 : 0 ≤ k) (hk1 : k ≤ 255) :
  Calls Tryz.prog 25 #[.agg #[v, .int .i64 ver], .string ⟨t.toArray⟩, .int .u8 k] w (TakeC w (takeP (M.map Prod.fst) ver t k).1 (takeP (M.map Prod.fst) ver t k).2.1 (takeP (M.map Prod.fst) ver t k).2.2.1 (takeP (M.map Prod.fst) ver t k).2.2.2.1 (takeP (M.map Prod.fst) ver t k).2.2.2.2 (takeC (M.map Prod.fst) ver t k)) := by
 obtain ⟨a0, cap0, hf, -⟩ := hv.form
 obtain ⟨L0, hL⟩ : ∃ L, M.length = L := ⟨_, rfl⟩
 rw [hL] at hf
 subst hf
 have HM := Lib.hid hm
 unfold takeP takeC
 by_cases hask : askC (M.map Prod.fst) ver t k = 0
 ·have hall : mayR (M.map Prod.fst) ver = true ∧ (adrOk t = true ∧ (1 ≤ k ∧ k ≤ 4)) := by
   unfold askC at hask
   split at hask
   ·rename_i h
    split at hask
    ·rename_i h2
     simp only [Bool.and_eq_true, decide_eq_true_eq] at h2
     exact ⟨h, h2⟩
    ·cases hask
   ·cases hask
  obtain ⟨hmay, hA, hk2, hk3⟩ := hall
  rw [if_pos hask]
  have CO := Lib.hid (fun (w' : World) (hb : Below w.heap.size w w') => ro_asked_ok (.slice a0 L0 cap0) ver M t k w' (hv.ret hb) hs (hm.ret hb) zt hmay hA hk2 hk3)
  obtain ⟨hal, hch, hl16, hv0, hv1⟩ := may_facts21 hmay
  rw [List.length_map, hL] at hl16
  have hwm := (was_may (t := t) hmay).1
  have SP := Lib.hid hwm
  have SS := Lib.hid (take_may hwm hk2 hk3)
  have HLL := Lib.hid hL
  have HL16 := Lib.hid hl16
  have HV0 := Lib.hid hv0
  have HV1 := Lib.hid hv1
  have CS := Lib.hid (fun w' => sub_Take_G (wasL (M.map Prod.fst) t).s k w' hwm hk2 hk3)
  obtain ⟨th, hT⟩ : ∃ th, thereL (M.map Prod.fst) t = th := ⟨_, rfl⟩
  have HTH := Lib.hid hT
  have hcode : turnC (M.map Prod.fst) t (subTake (wasL (M.map Prod.fst) t).s k).1 = if quitP (turnI (wasL (M.map Prod.fst) t) t (subTake (wasL (M.map Prod.fst) t).s k).1) (subTake (wasL (M.map Prod.fst) t).s k).1 || (th || decide (L0 < 16)) then 0 else 9 := by unfold turnC; rw [hT, List.length_map, hL]
  have HSF : Hid ((subTake (wasL (M.map Prod.fst) t).s k).1 = (subTake (wasL (M.map Prod.fst) t).s k).1) := Lib.hid rfl
  generalize hsf : subTake (wasL (M.map Prod.fst) t).s k = sf at hcode SS CS ⊢
  obtain ⟨⟨sa, sb, sc, sd⟩, goes, back⟩ := sf
  have HCODE := Lib.hid hcode
  simp only at SS CS ⊢
  clear hv hs hm hmay zt hL hask hA hal hch hl16 hv0 hv1 hwm hT hcode HSF hsf
  cases hcc : (quitP (turnI (wasL (M.map Prod.fst) t) t (sa, sb, sc, sd)) (sa, sb, sc, sd) || (th || decide (L0 < 16))) with
  | false =>
   have HCC := Lib.hid hcc
   rw [HCODE.out]
   dsimp only
   rw [hcc]
   simp only [Bool.false_eq_true, if_false, if_neg (show ¬ (9 : Int) = 0 by decide)]
   clear hcc HCODE
   obtain ⟨W0, hW, y0, bs⟩ := Sx.start2 w [.slice a0 L0 cap0, .int .i64 ver] 24 [.slice none 0 0, .int .i64 0] 24
   have HW := Lib.hid hW
   clear hW
   have q := bs.q
   go_enter Tryz.func25, Tryz.ntmps25
   go_wp2_with fail
   rw [HW.out]
   refine (CO.out W0 q).mono ?_
   rintro e w1 ⟨hb, U, v1, M1, p, rfl, hM1, hp, hpm, hun⟩
   have o_m := hun.ownX bs
   have bs1 := bs.join hb hun.bx hun.le
   have hUle := Nat.le_trans bs.q.size hun.le
   have HP := Lib.hid hp
   have HM1 := Lib.hid hM1
   have HPM := Lib.hid hpm
   have HUL := Lib.hid hUle
   have hpf := pos_facts (t := t) hM1
   have hml : M1.length = L0 := by have := congrArg List.length hM1; simpa [HLL.out] using this
   clear bs q hb hun hUle hp hM1 hpm
   have bs := bs1
   have q := bs.q
   clear bs1
   obtain ⟨kk, hkk⟩ : ∃ kk, posL (M.map Prod.fst) t = kk := ⟨_, rfl⟩
   rw [hkk] at bs hpf
   have hth := HTH.out
   rw [hth] at bs hpf
   have HPF := Lib.hid hpf
   have HML := Lib.hid hml
   have HKK := Lib.hid hkk
   clear hpf hml hkk hth
   have CSP := Lib.hid (fun w' => by have h := CS.out w'; rw [← HP.out] at h; exact h)
   have c_u0 := bs.at 2 0 rfl rfl
   have c_u1 := bs.at 2 1 rfl rfl
   have c_u2 := bs.at 2 2 rfl rfl
   have c_u3 := bs.at 2 3 rfl rfl
   have c_u4 := bs.at 2 4 rfl rfl
   have c_u5 := bs.at 2 5 rfl rfl
   have c_u6 := bs.at 2 6 rfl rfl
   have c_u7 := bs.at 2 7 rfl rfl
   have c_u8 := bs.at 2 8 rfl rfl
   have c_u9 := bs.at 2 9 rfl rfl
   have c_u10 := bs.at 2 10 rfl rfl
   have c_u11 := bs.at 2 11 rfl rfl
   go_wp2_with fail
   refine (CSP.out _).mono ?_
   rintro e w2 ⟨rfl, hb⟩
   clear c_u0 c_u1 c_u2 c_u3 c_u4 c_u5 c_u6 c_u7 c_u8 c_u9 c_u10 c_u11
   replace o_m := o_m.ret hb
   replace bs := bs.ret hb
   replace q := bs.q
   clear hb
   go_wp2_with fail
   obtain ⟨w3, hw3, y3, al, bs⟩ := bs.alloc (w2.heap.size) rfl [.bool sa, .bool sb, .bool sc, .bool sd] 29
   replace o_m := o_m.alloc (w2.heap.size) rfl al
   clear al
   replace q := bs.q
   rw [hw3]
   have ur : Ur w U v1 M1 ver p kk th w3 := ⟨bs.box 2 rfl, o_m.sub (by simp), HUL.out⟩
   refine (ro_turn w U v1 M1 ver p kk th t sa sb sc sd w3 ur q HPM.out HPF.out.1 HPF.out.2 (by have := HML.out; have := HL16.out; omega) HV0.out HV1.out (by rw [HP.out]; exact SP.out) SS.out).mono ?_
   rintro e w4 htn
   obtain ⟨rfl, hb⟩ := tn_full htn (by rw [tnI_eq, HP.out, HML.out]; exact HCC.out)
   replace o_m := o_m.ret hb
   replace bs := bs.ret hb
   replace q := bs.q
   clear hb htn ur
   have c_z0 := bs.at 1 0 rfl rfl
   have f_z0 := bs.fz 1 0 rfl rfl
   have c_z1 := bs.at 1 1 rfl rfl
   have f_z1 := bs.fz 1 1 rfl rfl
   go_wp2_with fail
   clear c_z0 f_z0 c_z1 f_z1
   obtain ⟨w5, hw5, y5, bs⟩ := bs.sets 1 0 [.slice none 0 0, .int .i64 0] rfl (Nat.le_of_ble_eq_true rfl)
   replace o_m := o_m.sets 1 rfl hw5
   replace q := bs.q
   simp only [World.setCells, Nat.reduceAdd] at hw5
   rw [hw5]
   refine bodyPost_ret (ret_r5 rfl rfl rfl rfl rfl rfl (bs.box 1 rfl)) rfl (TakeC.zero q)
  | true =>
   have HCC := Lib.hid hcc
   rw [HCODE.out]
   dsimp only
   rw [hcc]
   simp only [if_true]
   clear hcc HCODE
   obtain ⟨W0, hW, y0, bs⟩ := Sx.start2 w [.slice a0 L0 cap0, .int .i64 ver] 24 [.slice none 0 0, .int .i64 0] 24
   have HW := Lib.hid hW
   clear hW
   have q := bs.q
   go_enter Tryz.func25, Tryz.ntmps25
   go_wp2_with fail
   rw [HW.out]
   refine (CO.out W0 q).mono ?_
   rintro e w1 ⟨hb, U, v1, M1, p, rfl, hM1, hp, hpm, hun⟩
   have o_m := hun.ownX bs
   have bs1 := bs.join hb hun.bx hun.le
   have hUle := Nat.le_trans bs.q.size hun.le
   have HP := Lib.hid hp
   have HM1 := Lib.hid hM1
   have HPM := Lib.hid hpm
   have HUL := Lib.hid hUle
   have hpf := pos_facts (t := t) hM1
   have hml : M1.length = L0 := by have := congrArg List.length hM1; simpa [HLL.out] using this
   clear bs q hb hun hUle hp hM1 hpm
   have bs := bs1
   have q := bs.q
   clear bs1
   obtain ⟨kk, hkk⟩ : ∃ kk, posL (M.map Prod.fst) t = kk := ⟨_, rfl⟩
   rw [hkk] at bs hpf
   have hth := HTH.out
   rw [hth] at bs hpf
   have HPF := Lib.hid hpf
   have HML := Lib.hid hml
   have HKK := Lib.hid hkk
   clear hpf hml hkk hth
   have CSP := Lib.hid (fun w' => by have h := CS.out w'; rw [← HP.out] at h; exact h)
   have c_u0 := bs.at 2 0 rfl rfl
   have c_u1 := bs.at 2 1 rfl rfl
   have c_u2 := bs.at 2 2 rfl rfl
   have c_u3 := bs.at 2 3 rfl rfl
   have c_u4 := bs.at 2 4 rfl rfl
   have c_u5 := bs.at 2 5 rfl rfl
   have c_u6 := bs.at 2 6 rfl rfl
   have c_u7 := bs.at 2 7 rfl rfl
   have c_u8 := bs.at 2 8 rfl rfl
   have c_u9 := bs.at 2 9 rfl rfl
   have c_u10 := bs.at 2 10 rfl rfl
   have c_u11 := bs.at 2 11 rfl rfl
   go_wp2_with fail
   refine (CSP.out _).mono ?_
   rintro e w2 ⟨rfl, hb⟩
   clear c_u0 c_u1 c_u2 c_u3 c_u4 c_u5 c_u6 c_u7 c_u8 c_u9 c_u10 c_u11
   replace o_m := o_m.ret hb
   replace bs := bs.ret hb
   replace q := bs.q
   clear hb
   go_wp2_with fail
   obtain ⟨w3, hw3, y3, al, bs⟩ := bs.alloc (w2.heap.size) rfl [.bool sa, .bool sb, .bool sc, .bool sd] 29
   replace o_m := o_m.alloc (w2.heap.size) rfl al
   clear al
   replace q := bs.q
   rw [hw3]
   have ur : Ur w U v1 M1 ver p kk th w3 := ⟨bs.box 2 rfl, o_m.sub (by simp), HUL.out⟩
   refine ((ro_turn w U v1 M1 ver p kk th t sa sb sc sd w3 ur q HPM.out HPF.out.1 HPF.out.2 (by have := HML.out; have := HL16.out; omega) HV0.out HV1.out (by rw [HP.out]; exact SP.out) SS.out)).mono ?_
   rintro e w4 htn
   obtain ⟨rfl, v2, mv, ur1, cl⟩ := tn_ok htn (by rw [tnI_eq, HP.out, HML.out]; exact HCC.out)
   obtain ⟨MM, hMM⟩ : ∃ MM, tnM M1 kk th (tnI p t (sa, sb, sc, sd)) (sa, sb, sc, sd) = MM := ⟨_, rfl⟩
   obtain ⟨VV, hVV⟩ : ∃ VV, (if !quitP (tnI p t (sa, sb, sc, sd)).1 (sa, sb, sc, sd) && pushP p.1 (tnI p t (sa, sb, sc, sd)).1 then nextV ver else ver) = VV := ⟨_, rfl⟩
   obtain ⟨PP, hPP⟩ : ∃ PP, (!quitP (tnI p t (sa, sb, sc, sd)).1 (sa, sb, sc, sd) && pushP p.1 (tnI p t (sa, sb, sc, sd)).1) = PP := ⟨_, rfl⟩
   rw [hMM] at mv ur1 cl
   rw [hVV] at ur1
   rw [hPP]
   have HMM := Lib.hid hMM
   have HVV := Lib.hid hVV
   have HPP := Lib.hid hPP
   clear hMM hVV hPP
   clear htn ur
   have hof := cl _ (by simp) bs.ltm o_m
   have bs1 := bs.turned 2 rfl mv (fun g hg => o_m.1.2 g hg) ur1.bx
   clear bs o_m q cl ur1 mv
   have bs := bs1
   have q := bs.q
   have o_m := hof
   clear bs1 hof
   obtain ⟨a2, c2, rfl, -⟩ := row_form o_m.1.1
   have c_u0 := bs.at 2 0 rfl rfl
   have c_u1 := bs.at 2 1 rfl rfl
   have c_u2 := bs.at 2 2 rfl rfl
   have c_u3 := bs.at 2 3 rfl rfl
   have c_u4 := bs.at 2 4 rfl rfl
   have c_u5 := bs.at 2 5 rfl rfl
   have c_u6 := bs.at 2 6 rfl rfl
   have c_u7 := bs.at 2 7 rfl rfl
   have c_u8 := bs.at 2 8 rfl rfl
   have c_u9 := bs.at 2 9 rfl rfl
   have c_u10 := bs.at 2 10 rfl rfl
   have c_u11 := bs.at 2 11 rfl rfl
   have c_z0 := bs.at 1 0 rfl rfl
   have f_z0 := bs.fz 1 0 rfl rfl
   have c_z1 := bs.at 1 1 rfl rfl
   have f_z1 := bs.fz 1 1 rfl rfl
   go_wp2_with fail
   clear c_u0 c_u1 c_u2 c_u3 c_u4 c_u5 c_u6 c_u7 c_u8 c_u9 c_u10 c_u11 c_z0 f_z0 c_z1 f_z1
   obtain ⟨w5, hw5, y5, bs⟩ := bs.sets 1 0 [.slice a2 MM.length c2, .int .i64 VV] rfl (Nat.le_of_ble_eq_true rfl)
   replace o_m := o_m.sets 1 rfl hw5
   replace q := bs.q
   have hfin : MM.map Prod.fst = turnL (M.map Prod.fst) t (sa, sb, sc, sd) := by
    rw [← HMM.out]
    unfold tnM turnL
    rw [tnI_eq, HP.out]
    cases quitP (turnI (wasL (M.map Prod.fst) t) t (sa, sb, sc, sd)) (sa, sb, sc, sd) with
    | true =>
     simp only [if_true]
     have h := map_goneI M1 t
     rw [HM1.out, HKK.out, HTH.out] at h
     exact h
    | false =>
     simp only [Bool.false_eq_true, if_false]
     have h := map_putI M1 (tnI p t (sa, sb, sc, sd)) t rfl
     rw [HM1.out, HKK.out, HTH.out] at h
     rw [h, tnI_eq, HP.out]
   have hpv : PP = turnPush (M.map Prod.fst) t (sa, sb, sc, sd) := by rw [← HPP.out]; unfold turnPush; rw [tnI_eq, HP.out]
   have hvv : VV = turnV (M.map Prod.fst) ver t (sa, sb, sc, sd) := by rw [← HVV.out, HPP.out, hpv]; rfl
   have hfl : (turnL (M.map Prod.fst) t (sa, sb, sc, sd)).length = MM.length := by rw [← hfin, List.length_map]
   skip
   simp only [World.setCells, Nat.reduceAdd] at hw5
   rw [hw5]
   refine bodyPost_ret (ret_r5 rfl rfl rfl rfl rfl rfl (bs.box 1 rfl)) rfl ⟨a2, c2, by rw [hfl, ← hpv, ← hvv]; rfl, MM, hfin, by rw [hfl]; exact o_m.own, q⟩
 ·rw [if_neg hask]
  have CO := Lib.hid (fun (w' : World) (hb : Below w.heap.size w w') => ro_asked_bad (.slice a0 L0 cap0) ver M t k w' (hv.ret hb) hs (hm.ret hb) zt hk0 hk1 hask)
  simp only [if_neg hask]
  obtain ⟨code, hcode⟩ : ∃ code, askC (M.map Prod.fst) ver t k = code := ⟨_, rfl⟩
  rw [hcode] at CO hask ⊢
  clear hv hs hm zt hL hcode
  obtain ⟨W0, hW, y0, bs⟩ := Sx.start2 w [.slice a0 L0 cap0, .int .i64 ver] 24 [.slice none 0 0, .int .i64 0] 24
  have HW := Lib.hid hW
  clear hW
  have q := bs.q
  go_enter Tryz.func25, Tryz.ntmps25
  go_wp2_with fail
  rw [HW.out]
  refine (CO.out W0 q).mono ?_
  rintro e w1 ⟨rfl, hb⟩
  replace bs := bs.ret hb
  replace q := bs.q
  clear hb
  have c_z0 := bs.at 1 0 rfl rfl
  have f_z0 := bs.fz 1 0 rfl rfl
  have c_z1 := bs.at 1 1 rfl rfl
  have f_z1 := bs.fz 1 1 rfl rfl
  go_wp2_with fail
  clear c_z0 f_z0 c_z1 f_z1
  obtain ⟨w2, hw2, y2, bs⟩ := bs.sets 1 0 [.slice none 0 0, .int .i64 0] rfl (Nat.le_of_ble_eq_true rfl)
  replace q := bs.q
  simp only [World.setCells, Nat.reduceAdd] at hw2
  rw [hw2]
  refine bodyPost_ret (ret_r5 rfl rfl rfl rfl rfl rfl (bs.box 1 rfl)) rfl (TakeC.zero q)
end Go.Proofs.YtfonkblbgadhmaaGreatDoor
