/- The document's Fed, Feed. PRINTED BY PROGRAM (gen_wiy.py). -/
import Derived.Test.YthgmgmbjjjnhnaaGreatDoorWiY
namespace Go.Proofs.YthgmgmbjjjnhnaaGreatDoor
open Go.RowKit

theorem cm_four (w : World) (a b c d : Value) : IsRow 4 (.slice (some ⟨w.heap.size, 0, none⟩) 1 1) 1 [a, b, c, d] (w.alloc (.cells #[a, b, c, d] 40)) := by
  refine ⟨rfl, some ⟨w.heap.size, 0, none⟩, 1, rfl, (fun h => by cases h), .inr ⟨w.heap.size, 0, rfl, by simp, fun j hj => ?_⟩⟩
  rw [Nat.zero_add, World.cell?_alloc_new]
  have hj4 : j < 4 := hj
  match j, hj4 with
  | 0, _ => rfl
  | 1, _ => rfl
  | 2, _ => rfl
  | 3, _ => rfl
theorem own_low {W : World} {base q o n size : Nat} {e : TypeId} {v : Value} {xs : List Value} (h : W.ownsRow base e size v n xs) (hq : q < base) (x : Value) : (W.setCell ⟨q, o, none⟩ x).ownsRow base e size v n xs := by
  refine h.kept (grownBy_set W ⟨q, o, none⟩ x) ?_
  rcases h.2 with ⟨rfl, _⟩ | ⟨g, cap, cur, rfl, hgl, _, _⟩
  · exact .inl rfl
  · refine .inr fun e => ?_
    have e' : g = q := by simpa [Value.ownBlock] using e
    omega
def fedT (s : List UInt8) : (List UInt8 × Bool) × List Cm := match (wiR s).2 with
  | none => (([], true), (wiR s).1)
  | some t => ((t, false), (wiR s).1)
set_option maxHeartbeats 16000000 in
set_option maxRecDepth 100000 in
/-- Fed, of a wire that is not off. -/
theorem r17_Fed (X D : ByteArray) (w : World) (hX : X.size ≤ 100000) (hD : D.size ≤ 100000) : Calls Tryz.prog 42 #[.agg #[.string X, .bool false], .string D] w (fun e w' => ∃ v, e = .returned (.tuple #[.agg #[.string ⟨(fedT (X.data.toList ++ D.data.toList)).1.1.toArray⟩, .bool (fedT (X.data.toList ++ D.data.toList)).1.2], v]) ∧ IsCames v (fedT (X.data.toList ++ D.data.toList)).2 w' ∧ Below w.heap.size w w' ∧ ∀ k, v.ownBlock = some k → w.heap.size ≤ k) := by
  obtain ⟨i0, hi, hz0, hz1, hz2⟩ := info_parts vinfo_came
  have q0 := ((Below.refl w.heap.size w).alloc (Nat.le_refl _) (.cells #[.string X, .bool false] 44)).alloc (by simp) (.cells #[.string ⟨#[]⟩, .bool false] 44)
  have A0 := Lib.hid ((WrAt.new w (.string X) (.bool false)).ret' ((Below.refl _ _).alloc (Nat.le_refl _) (.cells #[.string ⟨#[]⟩, .bool false] 44)))
  have W00 := WrAt.new (w.alloc (.cells #[.string X, .bool false] 44)) (.string ⟨#[]⟩) (.bool false)
  rw [World.size_alloc] at W00
  have W0 := Lib.hid W00
  obtain ⟨m, m0, m1, m2, m3⟩ := A0.out
  have zz : (X ++ D).size = X.size + D.size := ByteArray.size_append
  have n1 : ¬ 9223372036854775807 < X.size + D.size := by omega
  rw [← app_data]
  obtain ⟨O, hO⟩ : ∃ O, fedT (X ++ D).data.toList = O := ⟨_, rfl⟩
  rw [hO]
  have HO := Lib.hid hO
  clear W00 hO
  go_enter Tryz.func42, Tryz.ntmps42
  go_wp2_with fail
  obtain ⟨Zs, hZ⟩ : ∃ Z, X ++ D = Z := ⟨_, rfl⟩
  rw [hZ]
  rw [hZ] at HO zz
  go_loopw [6, 7] (fun v z wr => ∃ (pre : List Cm) (r : ByteArray), z = .string r ∧ r.size + pre.length ≤ Zs.size ∧ (wiR Zs.data.toList).1 = pre ++ (wiR r.data.toList).1 ∧ (wiR Zs.data.toList).2 = (wiR r.data.toList).2 ∧ wr.ownsRow (w.heap.size + 1 + 1) 40 4 v pre.length (cmsV pre) ∧ Below w.heap.size w wr ∧ WrAt (w.heap.size + 1) (.string ⟨#[]⟩) (.bool false) wr ∧ w.heap.size + 1 + 1 ≤ wr.heap.size) (fun _ z _ => strLen z)
  case atStart => exact ⟨[], Zs, rfl, by simp, by simp, rfl, World.ownsRow_nil _ _ _ _, q0, W0.out, by simp⟩
  case round =>
    obtain ⟨pre, r, rfl, hn, hr1, hr2, hown, hB, hW, hsz⟩ := hrel
    have O0 := fun w => r17_One r w (by omega)
    have HROW := Lib.hid hown
    have HW := Lib.hid hW
    clear m m0 m1 m2 m3
    cases hx : wiX r.data.toList with
    | none =>
      have hmore : wiO r.data.toList = .more := by
        unfold wiX at hx
        cases ho : wiO r.data.toList with
        | more => rfl
        | bad st => rw [ho] at hx; cases hx
        | done => rw [ho] at hx; cases hx
      rw [wiR_more hmore] at hr1 hr2
      have hO2 := HO.out
      unfold fedT at hO2
      rw [hr1, hr2] at hO2
      simp only [List.append_nil] at hO2
      have HO2 := Lib.hid hO2
      rw [oneV_N hx] at O0
      have OH := Lib.hid O0
      clear O0 hx hr1 hr2 hown hW hO2 hmore
      go_wp2_with fail
      refine (OH.out _).mono ?_
      rintro e w1 ⟨rfl, hb⟩
      have q1 := hB.trans (hb.mono hB.size)
      have HR1 := Lib.hid (own_below HROW.out hb)
      have hlt := (HW.out.ret' hb).lt
      obtain ⟨x, x0, x1, x2, x3⟩ := HW.out.ret' hb
      clear hb
      go_wp2_with fail
      have SR := fun (x : ByteArray) (b : Bool) => own_row ((own_low (o := 1) (own_low (o := 0) HR1.out (Nat.lt_succ_self (w.heap.size + 1)) (.string x)) (Nat.lt_succ_self (w.heap.size + 1)) (.bool b)).alloc (.cells #[.int .i64 0, .string ⟨#[]⟩, .string ⟨#[]⟩, .bool false] 40))
      refine bodyPost_ret (v := .tuple #[.agg #[.string r, .bool false], u6]) (by simp (maxDischargeDepth := 9) [results, Tryz.results42, go_sem, *]) rfl ⟨u6, (by rw [← HO2.out]; try simp only [str_mk]), ?_, ?_, fun k hk => by have := (HROW.out.lt k hk).1; omega⟩
      · rw [← HO2.out]
        exact SR r false
      · repeat (first | with_reducible exact q1 | with_reducible refine Below.alloc ?_ (by first | omega | (simp <;> omega)) _ | with_reducible refine Below.setCell ?_ (by first | omega | (simp <;> omega)) _)
    | some y =>
      obtain ⟨⟨st, ho, bd, kp⟩, n⟩ := y
      have hxn := wiX_lt hx
      rw [size_toList] at hxn
      rw [oneV_X hx] at O0
      simp only [cmV] at O0
      obtain ⟨HH, hHH⟩ : ∃ Y : ByteArray, ⟨ho.toArray⟩ = Y := ⟨_, rfl⟩
      obtain ⟨BB, hBB⟩ : ∃ Y : ByteArray, ⟨bd.toArray⟩ = Y := ⟨_, rfl⟩
      rw [hHH, hBB] at O0
      have hsn := cmsV_snoc pre (st, ho, bd, kp)
      simp only [hHH, hBB] at hsn
      have OH := Lib.hid O0
      have HSN := Lib.hid hsn
      have zp : pre.length ≤ 200000 := by omega
      have i1 : (n : Int) ≤ r.size := by omega
      have i2 : (0 : Int) ≤ (n : Int) := by omega
      have i3 : n ≤ r.size := hxn.2
      by_cases hgo : goes ((st, ho, bd, kp), r.data.toList.drop n) = true
      · obtain ⟨d1, d2⟩ := goes_done hx hgo
        injection d2 with d3 d4
        injection d4 with d4 d5
        injection d5 with d5 d6
        subst d3 d6
        rw [wiR_done d1] at hr1 hr2
        simp only at hr1 hr2
        have hext : (r.extract n r.size).data.toList = r.data.toList.drop n := ext_tail r n
        rw [← hext] at hr1 hr2
        have H1 := Lib.hid hr1
        have H2 := Lib.hid hr2
        clear O0 hr1 hr2 hx hgo d1 hext hown hW hsn hHH hBB
        go_wp2_with fail
        refine (OH.out _).mono ?_
        rintro e w1 ⟨rfl, hb⟩
        have al := hb.alloc hb.size (.cells #[.int .i64 200, .string HH, .string BB, .bool true] 40)
        have q1 := hB.trans (al.mono hB.size)
        have HR1 := Lib.hid (own_below HROW.out al)
        have HW1 := Lib.hid (HW.out.ret' al)
        have hs1 := hb.size
        have hlo : some w1.heap.size ≠ u6.ownBlock := fun e => by have := (HROW.out.lt _ e.symm).2; omega
        have hlo2 : some (w.heap.size + 1) ≠ u6.ownBlock := fun e => by have := (HROW.out.lt _ e.symm).1; omega
        clear hb al
        go_wp2_with (at_builtin; refine Hid.out ?_)
        refine Lib.hid ?_
        refine wpList_app_row rfl _ _ _ rfl (w.heap.size + 1 + 1) 40 i0 _ 4 48 Tryz.underlying45 hi hz0 hz1 hz2 rfl (by omega) _ pre.length (cmsV pre) rfl (HR1.out.alloc _) (.slice (some ⟨w1.heap.size + 1, 0, none⟩) 1 1) (by rfl) 1 [.int .i64 200, .string HH, .string BB, .bool true] (by have h := cm_four (w1.alloc (.cells #[.int .i64 200, .string HH, .string BB, .bool true] 40)) (.int .i64 200) (.string HH) (.string BB) (.bool true); rwa [World.size_alloc] at h) (by simp [Value.oneCell']) (by omega) (by omega) (by simp <;> omega) ?_
        intro v' w2 hown' hgrow
        have q2 := (q1.alloc q1.size (.cells #[.int .i64 200, .string HH, .string BB, .bool true] 40)).grown hgrow (by simp <;> omega) (fun k hk => by have := (HROW.out.lt k hk).1; omega)
        have blk : ∀ k, some k ≠ u6.ownBlock → k < w1.heap.size + 1 → w2.heap[k]? = (w1.alloc (.cells #[.int .i64 200, .string HH, .string BB, .bool true] 40)).heap[k]? := fun k h1 h2 => (hgrow.block k (by simp <;> omega) h1).trans (Below.heap_alloc _ _ _ (by simp <;> omega))
        have kh : w2.heap[w1.heap.size]? = some (.cells #[.int .i64 200, .string HH, .string BB, .bool true] 40 (0, 0)) := (blk _ hlo (by omega)).trans (World.alloc_heap_new _ _)
        have k0 : w2.cell? ⟨w1.heap.size, 0, none⟩ = some (.int .i64 200) := (by rw [Lib.cell_of_heap kh]; rfl)
        have k1 : w2.cell? ⟨w1.heap.size, 1, none⟩ = some (.string HH) := (by rw [Lib.cell_of_heap kh]; rfl)
        have k2 : w2.cell? ⟨w1.heap.size, 2, none⟩ = some (.string BB) := (by rw [Lib.cell_of_heap kh]; rfl)
        have k3 : w2.cell? ⟨w1.heap.size, 3, none⟩ = some (.bool true) := (by rw [Lib.cell_of_heap kh]; rfl)
        have hWl := HW.out.lt
        have bW := blk (w.heap.size + 1) hlo2 (by omega)
        have HW2 : WrAt (w.heap.size + 1) (.string ⟨#[]⟩) (.bool false) w2 := ⟨by have := hgrow.size; simp at this; omega, (World.cell?_of_block bW).trans HW1.out.c0, (World.cell?_of_block bW).trans HW1.out.c1, (World.frozen?_of_block bW).trans HW1.out.f0, (World.frozen?_of_block bW).trans HW1.out.f1⟩
        have HW2H := Lib.hid HW2
        obtain ⟨x, x0, x1, x2, x3⟩ := HW2
        rw [← HSN.out] at hown'
        have HR2 := Lib.hid hown'
        have hs2 := q2.size
        clear hown' hgrow blk kh bW
        go_wp2_with fail
        go_roundw
        case rel => exact ⟨pre ++ [(200, ho, bd, true)], r.extract n r.size, rfl, by rw [List.length_append, ByteArray.size_extract]; simp; omega, by rw [H1.out]; exact List.append_cons .., H2.out, by rw [List.length_append]; exact HR2.out, q2, HW2H.out, by omega⟩
        case measure => simp [strLen]; omega
      · have hgf : goes ((st, ho, bd, kp), r.data.toList.drop n) = false := by simpa using hgo
        have hstop := wiR_stop ((st, ho, bd, kp), r.data.toList.drop n) hgf [] r.data.toList (by rw [wiIt_some hx]; exact ⟨_, rfl⟩) (fun y hy => by cases hy)
        rw [hstop] at hr1 hr2
        have hO2 := HO.out
        unfold fedT at hO2
        rw [hr1, hr2] at hO2
        have HO2 := Lib.hid hO2
        have hcond : st ≠ 200 ∨ (st = 200 ∧ kp = false) := by
          by_cases h2 : st = 200
          · refine .inr ⟨h2, ?_⟩
            cases kp with
            | false => rfl
            | true => rw [h2] at hgf; exact absurd hgf (by unfold goes; simp)
          · exact .inl h2
        clear O0 hr1 hr2 hx hgo hgf hstop hown hW hsn hHH hBB hO2
        rcases hcond with h2 | ⟨rfl, rfl⟩
        · have f1 : (st == 200) = false := by rw [beq_eq_false_iff_ne]; exact h2
          have f2 : (st != 200) = true := by rw [bne_iff_ne]; exact h2
          go_wp2_with fail
          refine (OH.out _).mono ?_
          rintro e w1 ⟨rfl, hb⟩
          have al := hb.alloc hb.size (.cells #[.int .i64 st, .string HH, .string BB, .bool kp] 40)
          have q1 := hB.trans (al.mono hB.size)
          have HR1 := Lib.hid (own_below HROW.out al)
          have HW1 := Lib.hid (HW.out.ret' al)
          have hs1 := hb.size
          have hlo : some w1.heap.size ≠ u6.ownBlock := fun e => by have := (HROW.out.lt _ e.symm).2; omega
          have hlo2 : some (w.heap.size + 1) ≠ u6.ownBlock := fun e => by have := (HROW.out.lt _ e.symm).1; omega
          clear hb al
          go_wp2_with (at_builtin; refine Hid.out ?_)
          refine Lib.hid ?_
          refine wpList_app_row rfl _ _ _ rfl (w.heap.size + 1 + 1) 40 i0 _ 4 48 Tryz.underlying45 hi hz0 hz1 hz2 rfl (by omega) _ pre.length (cmsV pre) rfl (HR1.out.alloc _) (.slice (some ⟨w1.heap.size + 1, 0, none⟩) 1 1) (by rfl) 1 [.int .i64 st, .string HH, .string BB, .bool kp] (by have h := cm_four (w1.alloc (.cells #[.int .i64 st, .string HH, .string BB, .bool kp] 40)) (.int .i64 st) (.string HH) (.string BB) (.bool kp); rwa [World.size_alloc] at h) (by simp [Value.oneCell']) (by omega) (by omega) (by simp <;> omega) ?_
          intro v' w2 hown' hgrow
          have q2 := (q1.alloc q1.size (.cells #[.int .i64 st, .string HH, .string BB, .bool kp] 40)).grown hgrow (by simp <;> omega) (fun k hk => by have := (HROW.out.lt k hk).1; omega)
          have blk : ∀ k, some k ≠ u6.ownBlock → k < w1.heap.size + 1 → w2.heap[k]? = (w1.alloc (.cells #[.int .i64 st, .string HH, .string BB, .bool kp] 40)).heap[k]? := fun k h1 h2 => (hgrow.block k (by simp <;> omega) h1).trans (Below.heap_alloc _ _ _ (by simp <;> omega))
          have kh : w2.heap[w1.heap.size]? = some (.cells #[.int .i64 st, .string HH, .string BB, .bool kp] 40 (0, 0)) := (blk _ hlo (by omega)).trans (World.alloc_heap_new _ _)
          have k0 : w2.cell? ⟨w1.heap.size, 0, none⟩ = some (.int .i64 st) := (by rw [Lib.cell_of_heap kh]; rfl)
          have k1 : w2.cell? ⟨w1.heap.size, 1, none⟩ = some (.string HH) := (by rw [Lib.cell_of_heap kh]; rfl)
          have k2 : w2.cell? ⟨w1.heap.size, 2, none⟩ = some (.string BB) := (by rw [Lib.cell_of_heap kh]; rfl)
          have k3 : w2.cell? ⟨w1.heap.size, 3, none⟩ = some (.bool kp) := (by rw [Lib.cell_of_heap kh]; rfl)
          have hWl := HW.out.lt
          have bW := blk (w.heap.size + 1) hlo2 (by omega)
          have HW2 : WrAt (w.heap.size + 1) (.string ⟨#[]⟩) (.bool false) w2 := ⟨by have := hgrow.size; simp at this; omega, (World.cell?_of_block bW).trans HW1.out.c0, (World.cell?_of_block bW).trans HW1.out.c1, (World.frozen?_of_block bW).trans HW1.out.f0, (World.frozen?_of_block bW).trans HW1.out.f1⟩
          have HW2H := Lib.hid HW2
          obtain ⟨x, x0, x1, x2, x3⟩ := HW2
          rw [← HSN.out] at hown'
          have HR2 := Lib.hid hown'
          have hs2 := q2.size
          clear hown' hgrow blk kh bW
          go_wp2_with fail
          refine bodyPost_ret (v := .tuple #[.agg #[.string ⟨#[]⟩, .bool true], v']) (by simp (maxDischargeDepth := 9) [results, Tryz.results42, go_sem, *]) rfl ⟨v', by rw [← HO2.out], ?_, ?_, fun k hk => by have := (HR2.out.lt k hk).1; omega⟩
          · rw [← HO2.out]
            have h := own_row (own_low (o := 1) (own_low (o := 0) HR2.out (Nat.lt_succ_self (w.heap.size + 1)) (.string ⟨#[]⟩)) (Nat.lt_succ_self (w.heap.size + 1)) (.bool true))
            unfold IsCames
            rw [List.length_append]
            exact h
          · repeat (first | with_reducible exact q2 | with_reducible refine Below.setCell ?_ (by first | omega | (simp <;> omega)) _)
        · skip
          go_wp2_with fail
          refine (OH.out _).mono ?_
          rintro e w1 ⟨rfl, hb⟩
          have al := hb.alloc hb.size (.cells #[.int .i64 200, .string HH, .string BB, .bool false] 40)
          have q1 := hB.trans (al.mono hB.size)
          have HR1 := Lib.hid (own_below HROW.out al)
          have HW1 := Lib.hid (HW.out.ret' al)
          have hs1 := hb.size
          have hlo : some w1.heap.size ≠ u6.ownBlock := fun e => by have := (HROW.out.lt _ e.symm).2; omega
          have hlo2 : some (w.heap.size + 1) ≠ u6.ownBlock := fun e => by have := (HROW.out.lt _ e.symm).1; omega
          clear hb al
          go_wp2_with (at_builtin; refine Hid.out ?_)
          refine Lib.hid ?_
          refine wpList_app_row rfl _ _ _ rfl (w.heap.size + 1 + 1) 40 i0 _ 4 48 Tryz.underlying45 hi hz0 hz1 hz2 rfl (by omega) _ pre.length (cmsV pre) rfl (HR1.out.alloc _) (.slice (some ⟨w1.heap.size + 1, 0, none⟩) 1 1) (by rfl) 1 [.int .i64 200, .string HH, .string BB, .bool false] (by have h := cm_four (w1.alloc (.cells #[.int .i64 200, .string HH, .string BB, .bool false] 40)) (.int .i64 200) (.string HH) (.string BB) (.bool false); rwa [World.size_alloc] at h) (by simp [Value.oneCell']) (by omega) (by omega) (by simp <;> omega) ?_
          intro v' w2 hown' hgrow
          have q2 := (q1.alloc q1.size (.cells #[.int .i64 200, .string HH, .string BB, .bool false] 40)).grown hgrow (by simp <;> omega) (fun k hk => by have := (HROW.out.lt k hk).1; omega)
          have blk : ∀ k, some k ≠ u6.ownBlock → k < w1.heap.size + 1 → w2.heap[k]? = (w1.alloc (.cells #[.int .i64 200, .string HH, .string BB, .bool false] 40)).heap[k]? := fun k h1 h2 => (hgrow.block k (by simp <;> omega) h1).trans (Below.heap_alloc _ _ _ (by simp <;> omega))
          have kh : w2.heap[w1.heap.size]? = some (.cells #[.int .i64 200, .string HH, .string BB, .bool false] 40 (0, 0)) := (blk _ hlo (by omega)).trans (World.alloc_heap_new _ _)
          have k0 : w2.cell? ⟨w1.heap.size, 0, none⟩ = some (.int .i64 200) := (by rw [Lib.cell_of_heap kh]; rfl)
          have k1 : w2.cell? ⟨w1.heap.size, 1, none⟩ = some (.string HH) := (by rw [Lib.cell_of_heap kh]; rfl)
          have k2 : w2.cell? ⟨w1.heap.size, 2, none⟩ = some (.string BB) := (by rw [Lib.cell_of_heap kh]; rfl)
          have k3 : w2.cell? ⟨w1.heap.size, 3, none⟩ = some (.bool false) := (by rw [Lib.cell_of_heap kh]; rfl)
          have hWl := HW.out.lt
          have bW := blk (w.heap.size + 1) hlo2 (by omega)
          have HW2 : WrAt (w.heap.size + 1) (.string ⟨#[]⟩) (.bool false) w2 := ⟨by have := hgrow.size; simp at this; omega, (World.cell?_of_block bW).trans HW1.out.c0, (World.cell?_of_block bW).trans HW1.out.c1, (World.frozen?_of_block bW).trans HW1.out.f0, (World.frozen?_of_block bW).trans HW1.out.f1⟩
          have HW2H := Lib.hid HW2
          obtain ⟨x, x0, x1, x2, x3⟩ := HW2
          rw [← HSN.out] at hown'
          have HR2 := Lib.hid hown'
          have hs2 := q2.size
          clear hown' hgrow blk kh bW
          go_wp2_with fail
          refine bodyPost_ret (v := .tuple #[.agg #[.string ⟨#[]⟩, .bool true], v']) (by simp (maxDischargeDepth := 9) [results, Tryz.results42, go_sem, *]) rfl ⟨v', by rw [← HO2.out], ?_, ?_, fun k hk => by have := (HR2.out.lt k hk).1; omega⟩
          · rw [← HO2.out]
            have h := own_row (own_low (o := 1) (own_low (o := 0) HR2.out (Nat.lt_succ_self (w.heap.size + 1)) (.string ⟨#[]⟩)) (Nat.lt_succ_self (w.heap.size + 1)) (.bool true))
            unfold IsCames
            rw [List.length_append]
            exact h
          · repeat (first | with_reducible exact q2 | with_reducible refine Below.setCell ?_ (by first | omega | (simp <;> omega)) _)
end Go.Proofs.YthgmgmbjjjnhnaaGreatDoor
