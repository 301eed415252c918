/- reply.Write. -/
import Derived.Test.YthgmgmbjjjnhnaaGreatDoorRpB
import Derived.Test.YthgmgmbjjjnhnaaGreatDoorRpQ
import Derived.Test.YthgmgmbjjjnhnaaGreatDoorGh
import Derived.Test.YthgmgmbjjjnhnaaGreatDoorMk
import Derived.Lib.BufferWrite
import Derived.Lib.SlBuf
import Derived.Laws.Tables
import Derived.Laws.CopyOwn
namespace Go.Proofs.YthgmgmbjjjnhnaaGreatDoor
open Go.RowKit

def tot (ps : List ByteArray) : Nat := (ps.map (·.size)).sum
def flat (ps : List ByteArray) : List UInt8 := (ps.map (·.data.toList)).flatten
theorem tot_snoc (ps : List ByteArray) (p : ByteArray) : tot (ps ++ [p]) = tot ps + p.size := by simp [tot]
theorem flat_snoc (ps : List ByteArray) (p : ByteArray) : flat (ps ++ [p]) = flat ps ++ p.data.toList := by simp [flat]
theorem flat_len (ps : List ByteArray) : (flat ps).length = tot ps := by
  induction ps with
  | nil => rfl
  | cons p ps ih =>
    have e1 : flat (p :: ps) = p.data.toList ++ flat ps := by simp [flat]
    have e2 : tot (p :: ps) = p.size + tot ps := by simp [tot]
    rw [e1, e2, List.length_append, ih, size_toList]
theorem tot_app (a b : List ByteArray) : tot (a ++ b) = tot a + tot b := by
  induction a with
  | nil => simp [tot]
  | cons p a ih =>
    have e1 : tot (p :: a ++ b) = p.size + tot (a ++ b) := by simp [tot]
    have e2 : tot (p :: a) = p.size + tot a := by simp [tot]
    omega
theorem tot_take (ps : List ByteArray) (k : Nat) : tot (ps.take k) ≤ tot ps := by
  have h := tot_app (ps.take k) (ps.drop k)
  rw [List.take_append_drop] at h
  omega
theorem hdW_mem {ps : List Pr} {p : Pr} (h : p ∈ ps) : (hdL p).length ≤ (hdW ps).length := by
  induction ps with
  | nil => cases h
  | cons q ps ih =>
    rw [hdW_cons, List.length_append]
    rcases List.mem_cons.1 h with rfl | h
    · omega
    · have := ih h
      omega
theorem zrow_size (n : Nat) : (zrow n).size = n := by unfold zrow madeCells; simp
/-- What a buffer holds while parts are copied into it. -/
structure Fill (G N at_ : Nat) (l : List UInt8) (W : World) : Prop where
  ex : ∃ cur, W.heap[G]? = some (.cells cur 5 (0, 0)) ∧ cur.size = N ∧ cur.toList.take at_ = Lib.byteCells l
theorem Fill.copy {G N at_ : Nat} {l : List UInt8} {W : World} (h : Fill G N at_ l W) (P : ByteArray) (hl : l.length = at_) (hfit : at_ + P.size ≤ N) (ty : TypeId) :
    ∃ W', (Builtin.copy_ #[38, 9] ty #[.slice (some ⟨G, at_, none⟩) (N - at_) (N - at_), .string P]).run Tryz.prog W = .ok (goInt P.size) W' ∧ Fill G N (at_ + P.size) (l ++ P.data.toList) W' ∧ (∀ b, b ≤ G → ∀ w0 : World, Below b w0 W → Below b w0 W') ∧ (∀ k, k ≠ G → W'.heap[k]? = W.heap[k]?) ∧ W'.heap.size = W.heap.size := by
  obtain ⟨cur, h1, h2, h3⟩ := h.ex
  have hr := Lib.run_copy_row_string (P := Tryz.prog) W 38 9 ty 5 G at_ (N - at_) (N - at_) P cur 5 Tryz.underlying38 (by kernel_rfl) h1 (by omega) (by omega)
  refine ⟨_, hr, ⟨_, setRow_heap _ _ _ _ _ _ h1, ?_, ?_⟩, fun b hb w0 hw => below_setRow hw hb _, fun k hk => setRow_other _ _ _ _ hk, setRow_size _ _ _⟩
  · have hp : P.data.toList.length = P.size := size_toList P
    have hcu : cur.toList.length = N := by rw [Array.length_toList, h2]
    rw [List.size_toArray, List.length_append, List.length_append, List.length_take, List.length_drop, Lib.byteCells_length, hp, hcu]
    omega
  · have hcl : (Lib.byteCells P.data.toList).length = P.size := by rw [Lib.byteCells_length, size_toList]
    rw [h3]
    have e : (Lib.byteCells l ++ Lib.byteCells P.data.toList).length = at_ + P.size := by rw [List.length_append, hcl, Lib.byteCells_length, hl]
    rw [← e, List.take_left]
    simp [Lib.byteCells]
def wpW (st : Int) (b : List UInt8) (k : Bool) : Value := if rpMay st b k = true then .tuple #[.string ⟨(rpT st b k).toArray⟩, .int .i64 0] else .tuple #[.string ⟨#[]⟩, .int .i64 8]
set_option maxHeartbeats 8000000 in
set_option maxRecDepth 100000 in
theorem rp_Write (st : Int) (B : ByteArray) (k : Bool) (w : World) (ht : Tab w) (hz : B.size ≤ 9223372036854775807) : Calls Tryz.prog 8 #[rpV st B k] w (Ret w (wpW st B.data.toList k)) := by
  have q0 := (Below.refl w.heap.size w).alloc (Nat.le_refl _) (.cells #[.int .i64 st, .string B, .bool k] 23)
  have a0 := RpAt.new w (.int .i64 st) (.string B) (.bool k)
  have A0 := Lib.hid a0
  obtain ⟨m0, m1, m2, m3, m4, m5, m6⟩ := a0
  have C0 := rp_Check st B k _ (ht.ret q0) hz
  unfold chkE at C0
  unfold wpW
  by_cases hm : rpMay st B.data.toList k = true
  rotate_left
  · rw [if_neg hm] at C0 ⊢
    have C := Lib.hid C0
    clear C0 hm ht
    go_enter Tryz.func8, Tryz.ntmps8
    go_wp2_with fail
    refine C.out.mono ?_
    rintro e w1 ⟨rfl, hb⟩
    have q1 := q0.trans (hb.mono q0.size)
    clear hb
    go_wp2_with fail
    go_ret2
    exact ⟨rfl, q1⟩
  · rw [if_pos hm] at C0 ⊢
    have hB := may_small hm
    rw [size_toList] at hB
    have hc := rpMay_code hm
    have hn : stN st ≠ [] := fun e => by rw [may_no e] at hm; cases hm
    have S0 := fun w ht => ln_Status st w ht
    unfold stV at S0
    rw [if_neg hn] at S0
    have F0 := fun w ht => rp_fields st B k w ht (by omega)
    have hfl := rpF_size (st := st) (b := B.data.toList) (k := k) (by rw [size_toList]; omega)
    have hft := (rpF_may st B.data.toList k).1
    have hlen := (rpF_may st B.data.toList k).2.2
    have hwr := rpF_wr st B.data.toList k
    have hpz : ∀ p ∈ rpF st B.data.toList k, p.1.length ≤ 100000 ∧ p.2.length ≤ 100000 := fun p hp => by
      have := hdW_mem hp
      rw [hdL_len] at this
      omega
    have W0 := fun v w (h : IsPairs v (rpF st B.data.toList k) w) => hd_Write v _ w (by omega) hpz h
    unfold wrT at W0
    rw [hwr.1, hwr.2] at W0
    have htx : rpT st B.data.toList k = stT st ++ (hdW (rpF st B.data.toList k) ++ 13 :: 10 :: B.data.toList) := rfl
    have hst : (stT st).length ≤ 50 := by
      unfold codes at hc
      simp only [List.mem_cons, List.not_mem_nil, or_false] at hc
      rcases hc with rfl | rfl | rfl | rfl | rfl | rfl | rfl <;> decide +kernel
    obtain ⟨F, hF⟩ : ∃ F : ByteArray, ⟨(stT st).toArray⟩ = F := ⟨_, rfl⟩
    have hFl : F.data.toList = stT st := by rw [← hF]
    obtain ⟨ps, hps⟩ : ∃ x, rpF st B.data.toList k = x := ⟨_, rfl⟩
    rw [hps] at F0 W0 hfl htx
    obtain ⟨R, hR⟩ : ∃ R : ByteArray, ⟨(hdW ps).toArray⟩ = R := ⟨_, rfl⟩
    have hRl : R.data.toList = hdW ps := by rw [← hR]
    rw [hF] at S0
    rw [hR] at W0
    rw [← hFl, ← hRl] at htx
    have zF : F.size ≤ 50 := by rw [← size_toList, hFl]; exact hst
    have zR : R.size ≤ 100 := by rw [← size_toList, hRl]; exact hfl
    obtain ⟨qs, hqs⟩ : ∃ x : List ByteArray, [F, R, ⟨#[13, 10]⟩, B] = x := ⟨_, rfl⟩
    have hfx : rpT st B.data.toList k = flat qs := by rw [htx, ← hqs]; simp [flat]
    have hqn : qs.length = 4 := by rw [← hqs]; rfl
    have htq : tot qs ≤ 17000 := by
      rw [← hqs]
      simp only [tot, List.map_cons, List.map_nil, List.sum_cons, List.sum_nil]
      have : (⟨#[13, 10]⟩ : ByteArray).size = 2 := rfl
      omega
    rw [hfx]
    have S := Lib.hid S0
    have FF := Lib.hid F0
    have WW := Lib.hid W0
    have C := Lib.hid C0
    have HT := Lib.hid (ht.ret q0)
    have HQ := Lib.hid hqs
    have HQN := Lib.hid hqn
    clear S0 F0 W0 C0 ht hfl hft hlen hwr hpz htx hst hF hFl hps hR hRl hqs hfx hqn hm hc hn
    go_enter Tryz.func8, Tryz.ntmps8
    go_wp2_with fail
    refine C.out.mono ?_
    rintro e w1 ⟨rfl, hb1⟩
    have q1 := q0.trans (hb1.mono q0.size)
    have A1 := Lib.hid (A0.out.ret hb1)
    have T1 := Lib.hid (HT.out.ret hb1)
    clear hb1 m0 m1 m2 m3 m4 m5 m6
    obtain ⟨m0, m1, m2, m3, m4, m5, m6⟩ := A1.out
    go_wp2_with fail
    refine (S.out _ T1.out).mono ?_
    rintro e w2 ⟨rfl, hb2⟩
    have q2 := q1.trans (hb2.mono q1.size)
    have A2 := Lib.hid (A1.out.ret hb2)
    have T2 := Lib.hid (T1.out.ret hb2)
    clear hb2 m0 m1 m2 m3 m4 m5 m6
    obtain ⟨m0, m1, m2, m3, m4, m5, m6⟩ := A2.out
    go_wp2_with fail
    refine (FF.out _ T2.out).mono ?_
    rintro e w3 ⟨u, rfl, hu, hb3⟩
    have q3 := q2.trans (hb3.mono q2.size)
    have A3 := Lib.hid (A2.out.ret hb3)
    have HU := Lib.hid hu
    clear hb3 hu m0 m1 m2 m3 m4 m5 m6
    go_wp2_with fail
    refine (WW.out u _ HU.out).mono ?_
    rintro e w4 ⟨rfl, hb4⟩
    have q4 := q3.trans (hb4.mono q3.size)
    have A4 := Lib.hid (A3.out.ret hb4)
    clear hb4
    obtain ⟨m0, m1, m2, m3, m4, m5, m6⟩ := A4.out
    go_wp2_with fail
    have hV : VAt w4.heap.size 0 (qs.map Value.string) (w4.alloc (.cells #[.string F, .string R, .string ⟨#[13, 10]⟩, .string B] 9)) := by
      refine ⟨by simp, fun j hj => ?_⟩
      rw [Nat.zero_add, World.cell?_alloc_new]
      rw [List.length_map, HQN.out] at hj
      match j, hj with
      | 0, _ => simp [← HQ.out]
      | 1, _ => simp [← HQ.out]
      | 2, _ => simp [← HQ.out]
      | 3, _ => simp [← HQ.out]
    have q5 := q4.alloc q4.size (.cells #[.string F, .string R, .string ⟨#[13, 10]⟩, .string B] 9)
    obtain ⟨W5, hW5⟩ : ∃ W, w4.alloc (.cells #[.string F, .string R, .string ⟨#[13, 10]⟩, .string B] 9) = W := ⟨_, rfl⟩
    obtain ⟨g, hg⟩ : ∃ g, w4.heap.size = g := ⟨_, rfl⟩
    rw [hW5] at hV q5 ⊢
    rw [hg] at hV ⊢
    have HV := Lib.hid hV
    clear hV hW5 hg m0 m1 m2 m3 m4 m5 m6 A4 A3 A2 A1 A0
    go_loopw [10, 41] (fun s i wr => ∃ j : Nat, j ≤ 4 ∧ s = .int .i64 (tot (qs.take j)) ∧ i = .int .i64 j ∧ wr = W5) (fun _ i _ => 4 - (intOf i).toNat)
    case atStart => exact ⟨0, Nat.zero_le _, rfl, rfl, rfl⟩
    case round =>
      obtain ⟨j, hj, rfl, rfl, hw5⟩ := hrel
      have hw5 := hw5.symm
      subst hw5
      by_cases hlt : j < 4
      · have hx : j < qs.length := by have := HQN.out; omega
        have c1 := HV.out.2 j (by rw [List.length_map]; exact hx)
        rw [Nat.zero_add, List.getElem_map] at c1
        have hsn := tot_snoc (qs.take j) qs[j]
        rw [← List.take_succ_eq_append_getElem hx] at hsn
        have hle := tot_take qs (j + 1)
        obtain ⟨P, hP⟩ : ∃ P, qs[j] = P := ⟨_, rfl⟩
        rw [hP] at c1 hsn
        obtain ⟨t, ht⟩ : ∃ t, tot (qs.take j) = t := ⟨_, rfl⟩
        rw [ht] at hsn ⊢
        rw [hsn] at hle
        have HS := Lib.hid hsn
        have g1 : (j : Int) < 4 := by omega
        clear hsn hP ht hx
        go_wp2_with fail
        go_roundw
        case rel => exact ⟨j + 1, by omega, by rw [HS.out]; go_num, by go_num, by first | rfl | trivial⟩
        case measure => simp [intOf]; omega
      · obtain rfl : j = 4 := by omega
        have hfull : qs.take 4 = qs := List.take_of_length_le (by have := HQN.out; omega)
        rw [hfull]
        obtain ⟨N, hN⟩ : ∃ N, tot qs = N := ⟨_, rfl⟩
        rw [hN] at htq ⊢
        have HN := Lib.hid hN
        have hmk := mk_bytes N (by omega) W5
        have hF0 : Fill W5.heap.size N 0 [] (W5.alloc (.cells (zrow N) 5)) := ⟨zrow N, World.alloc_heap_new _ _, zrow_size N, rfl⟩
        have hV6 := HV.out.ret ((Below.refl _ W5).alloc (Nat.le_refl _) (.cells (zrow N) 5))
        have q6 := q5.alloc q5.size (.cells (zrow N) 5)
        have hgl := HV.out.1
        clear hfull hN
        go_wp2_with fail
        go_loopw [14, 54] (fun a i wr => ∃ j : Nat, j ≤ 4 ∧ a = .int .i64 (tot (qs.take j)) ∧ i = .int .i64 j ∧ Fill W5.heap.size N (tot (qs.take j)) (flat (qs.take j)) wr ∧ VAt g 0 (qs.map Value.string) wr ∧ Below w.heap.size w wr) (fun _ i _ => 4 - (intOf i).toNat)
        case atStart => exact ⟨0, Nat.zero_le _, rfl, rfl, hF0, hV6, q6⟩
        case round =>
          obtain ⟨j, hj, rfl, rfl, hFi, hVv, hBw⟩ := hrel
          by_cases hlt : j < 4
          · have hx : j < qs.length := by have := HQN.out; omega
            have c1 := hVv.2 j (by rw [List.length_map]; exact hx)
            rw [Nat.zero_add, List.getElem_map] at c1
            have hsn := tot_snoc (qs.take j) qs[j]
            have hfn := flat_snoc (qs.take j) qs[j]
            rw [← List.take_succ_eq_append_getElem hx] at hsn hfn
            have hle := tot_take qs (j + 1)
            rw [HN.out] at hle
            obtain ⟨P, hP⟩ : ∃ P, qs[j] = P := ⟨_, rfl⟩
            rw [hP] at c1 hsn hfn
            have hll := flat_len (qs.take j)
            obtain ⟨t, ht⟩ : ∃ t, tot (qs.take j) = t := ⟨_, rfl⟩
            obtain ⟨l, hl⟩ : ∃ l, flat (qs.take j) = l := ⟨_, rfl⟩
            rw [ht] at hsn hll hFi ⊢
            rw [hl] at hfn hll hFi
            rw [hsn] at hle
            obtain ⟨W', hr, hF', hbel, hoth, hsz⟩ := hFi.copy P hll hle 3
            rw [← hsn, ← hfn] at hF'
            have HS := Lib.hid hsn
            have HF' := Lib.hid hF'
            have HR := Lib.hid hr
            have q7 := Lib.hid (hbel w.heap.size (by have := q5.size; omega) w hBw)
            have hV7 : Hid (VAt g 0 (qs.map Value.string) W') := Lib.hid ⟨by rw [hsz]; exact hVv.1, fun i hi => by
              have h1 := hVv.2 i hi
              have hgne : g ≠ W5.heap.size := by omega
              unfold World.cell? at h1 ⊢
              rw [hoth g hgne]
              exact h1⟩
            have g1 : (j : Int) < 4 := by omega
            have g2 : (t : Int) ≤ N := by omega
            have g3 : (0 : Int) ≤ (t : Int) := by omega
            have g4 : t ≤ N := by omega
            have g5 : IntKind.i64.wrap ((t : Int) + P.size) = (t : Int) + P.size := IntWalk.i64_in _ (by omega)
            by_cases hNt : N = t
            · have hP0 : P.size = 0 := by omega
              have he : (Builtin.copy_ #[38, 9] 3 #[.slice (some ⟨W5.heap.size, 0, none⟩) 0 0, .string P]).run Tryz.prog wr = .ok (.int .i64 0) wr := Lib.run_copy_empty_string (P := Tryz.prog) wr 38 9 3 5 (some ⟨W5.heap.size, 0, none⟩) 0 0 P Tryz.underlying38 (by kernel_rfl) hP0
              have hF2 : Fill W5.heap.size N (tot (qs.take (j + 1))) (flat (qs.take (j + 1))) wr := by
                have e1 : tot (qs.take (j + 1)) = t := by rw [hsn, hP0]; rfl
                have e2 : flat (qs.take (j + 1)) = l := by
                  rw [hfn, show P.data.toList = [] from List.eq_nil_of_length_eq_zero (by rw [size_toList]; exact hP0), List.append_nil]
                rw [e1, e2]
                exact hFi
              have HF2 := Lib.hid hF2
              have HV2 := Lib.hid hVv
              have q8 := Lib.hid hBw
              subst hNt
              clear HF' HR q7 hV7 hsn hfn hll hP ht hl hx hr hF' hbel hoth hFi hVv hBw hF2 hsz hw5
              go_wp2_with fail
              go_roundw
              case rel => exact ⟨j + 1, by omega, by rw [HS.out, hP0]; go_num, by go_num, HF2.out, HV2.out, q8.out⟩
              case measure => simp [intOf]; omega
            · have hr' : (Builtin.copy_ #[38, 9] 3 #[.slice (some ⟨W5.heap.size, t, none⟩) (N - t) (N - t), .string P]).run Tryz.prog wr = .ok (.int .i64 P.size) W' := hr
              clear hsn hfn hll hP ht hl hx hr hF' hbel hoth hFi hVv hBw HR hw5
              go_wp2_with fail
              go_roundw
              case rel => exact ⟨j + 1, by omega, by rw [HS.out]; go_num, by go_num, HF'.out, hV7.out, q7.out⟩
              case measure => simp [intOf]; omega
          · obtain rfl : j = 4 := by omega
            have hfull2 : qs.take 4 = qs := List.take_of_length_le (by have := HQN.out; omega)
            rw [hfull2, HN.out] at hFi
            rw [hfull2, HN.out]
            have hll := flat_len qs
            rw [HN.out] at hll
            have hconv : (convert 38 9 (.slice (some ⟨W5.heap.size, 0, none⟩) N N)).run Tryz.prog wr = .ok (.string ⟨(flat qs).toArray⟩) wr := by
              obtain ⟨cur, k1, k2, k3⟩ := hFi.ex
              have h := run_convert_bytes_back (P := Tryz.prog) wr 38 9 5 ⟨W5.heap.size, 0, none⟩ N (flat qs) Tryz.underlying38 Tryz.underlying5 Tryz.underlying9 (fun i hi => by
                rw [add_zero_plain, Lib.cell_of_heap k1]
                have e : (cur.toList.take N)[i]? = (Lib.byteCells (flat qs))[i]? := by rw [k3]
                rw [List.getElem?_take_of_lt (by omega)] at e
                rw [Array.getElem?_toList] at e
                rw [e]
                simp [Lib.byteCells, List.getElem?_eq_getElem hi])
              rw [hll] at h
              exact h
            obtain ⟨z, hz2⟩ : ∃ z : ByteArray, ⟨(flat qs).toArray⟩ = z := ⟨_, rfl⟩
            rw [hz2] at hconv
            have HZ := Lib.hid hz2
            have q8 := Lib.hid hBw
            clear hll hFi hVv hBw hz2 hfull2 hw5
            go_wp2_with fail
            go_ret2
            exact ⟨by rw [HZ.out]; rfl, q8.out⟩
end Go.Proofs.YthgmgmbjjjnhnaaGreatDoor
