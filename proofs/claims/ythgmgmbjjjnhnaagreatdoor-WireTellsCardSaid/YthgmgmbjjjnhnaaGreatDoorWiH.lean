/- wire.Feed. -/
import Derived.Test.YthgmgmbjjjnhnaaGreatDoorWiI
namespace Go.Proofs.YthgmgmbjjjnhnaaGreatDoor
open Go.RowKit

attribute [local go_sem] Oper.semAt_some

theorem vinfo_came : (Tryz.prog.info? 40).map (fun i => (i.zero, i.size, i.bytes)) = some (some (.agg #[.int .i64 0, .string ⟨#[]⟩, .string ⟨#[]⟩, .bool false]), 4, 48) := by kernel_rfl
set_option maxRecDepth 100000 in
set_option maxHeartbeats 16000000 in
theorem wi_Feed_go (X D : ByteArray) (w : World) (hX : X.size ≤ 100000) (hD : D.size ≤ 16384) (hm : ML w) (hck : wiCk X.data.toList false = 0) :
    Calls Tryz.prog 17 #[.agg #[.string X, .bool false], .string D] w (FdIs (fdT X.data.toList false D.data.toList) w) := by
  obtain ⟨i0, hi, hz0, hz1, hz2⟩ := info_parts vinfo_came
  obtain ⟨O, hO⟩ : ∃ O, fdT X.data.toList false D.data.toList = O := ⟨_, rfl⟩
  rw [hO]
  have HO := Lib.hid hO
  have q0 : Below w.heap.size w ((((w.alloc (.cells #[.string X, .bool false] 44)).alloc (.cells #[.string ⟨#[]⟩, .bool false] 44)).alloc (.cells #[.slice none 0 0] 45)).alloc (.cells #[.int .i64 0] 24)) := ((((Below.refl w.heap.size w).alloc (Nat.le_refl _) _).alloc (by simp) _).alloc (by simp <;> omega) _).alloc (by simp <;> omega) _
  have C0 := fun w hm => wi_Check X false w (by omega) hm
  rw [hck] at C0
  have CH := Lib.hid C0
  have RQ := Lib.hid fun s w => wi_requests s w
  have HM := Lib.hid hm
  have zz : (X ++ D).size = X.size + D.size := ByteArray.size_append
  have g1 : ¬ (16384 : Int) < D.size := by omega
  have g2 : decide ((16384 : Int) < D.size) = false := decide_eq_false g1
  have n1 : ¬ 9223372036854775807 < X.size + D.size := by omega
  have HCK := Lib.hid hck
  clear C0 hck hm hO
  refine (callsIn_wide (n := 3)).1 ?_
  refine callsIn_of_wp_marks Tryz.func17 rfl trivial ?_ rfl
  simp only [Tryz.ntmps17, List.size_toArray, List.length_cons, List.length_nil, Nat.reduceAdd, Nat.reduceSub, Array.replicate_succ, Array.replicate_zero, List.push_toArray, List.append_toArray, List.nil_append, List.cons_append]
  gi_wp2_with fail
  refine ⟨trivial, callsIn_wide.2 ((CH.out _ (HM.out.ret q0)).mono ?_)⟩
  rintro e w1 ⟨rfl, hb1⟩
  have al4 : Below (w.heap.size + 1) (w.alloc (.cells #[.string X, .bool false] 44)) ((((w.alloc (.cells #[.string X, .bool false] 44)).alloc (.cells #[.string ⟨#[]⟩, .bool false] 44)).alloc (.cells #[.slice none 0 0] 45)).alloc (.cells #[.int .i64 0] 24)) := (((Below.refl _ _).alloc (by simp) _).alloc (by simp) _).alloc (by simp <;> omega) _
  have hs1 := hb1.size
  simp only [World.size_alloc] at hs1
  have q1 := q0.trans (hb1.mono q0.size)
  obtain ⟨z, z0, z1, z2, z3⟩ := ((WrAt.new w (.string X) (.bool false)).ret2 (Nat.lt_succ_self _) al4).ret' hb1
  have o1 : w1.heap[w.heap.size + 1]? = some (.cells #[.string ⟨#[]⟩, .bool false] 44 (0, 0)) := by
    rw [hb1.block _ (by simp <;> omega), Below.heap_alloc _ _ _ (by simp <;> omega), Below.heap_alloc _ _ _ (by simp)]
    have := World.alloc_heap_new (w.alloc (.cells #[.string X, .bool false] 44)) (.cells #[.string ⟨#[]⟩, .bool false] 44)
    rwa [World.size_alloc] at this
  have r1 : Boxed w1 (w.heap.size + 1 + 1) 45 (.slice none 0 0) := by
    have := (Boxed.new ((w.alloc (.cells #[.string X, .bool false] 44)).alloc (.cells #[.string ⟨#[]⟩, .bool false] 44)) 45 (.slice none 0 0)).alloc (.cells #[.int .i64 0] 24)
    rw [World.size_alloc, World.size_alloc] at this
    exact boxed_below this hb1
  have e1 : Boxed w1 (w.heap.size + 1 + 1 + 1) 24 (.int .i64 0) := by
    have := Boxed.new (((w.alloc (.cells #[.string X, .bool false] 44)).alloc (.cells #[.string ⟨#[]⟩, .bool false] 44)).alloc (.cells #[.slice none 0 0] 45)) 24 (.int .i64 0)
    rw [World.size_alloc, World.size_alloc, World.size_alloc] at this
    exact boxed_below this hb1
  have oc0 : w1.cell? ⟨w.heap.size + 1, 0, none⟩ = some (.string ⟨#[]⟩) := by rw [Lib.cell_of_heap o1]; rfl
  have oc1 : w1.cell? ⟨w.heap.size + 1, 1, none⟩ = some (.bool false) := by rw [Lib.cell_of_heap o1]; rfl
  have of0 : w1.frozen? ⟨w.heap.size + 1, 0, none⟩ = false := Lib.frozen_of_heap o1 0
  have of1 : w1.frozen? ⟨w.heap.size + 1, 1, none⟩ = false := Lib.frozen_of_heap o1 1
  have HR1 := Lib.hid r1
  have HE1 := Lib.hid e1
  have HO1 := Lib.hid o1
  clear al4 hb1 o1 r1 e1
  gi_wp2_with fail
  refine ⟨trivial, callsIn_wide.2 ((RQ.out _ _).mono ?_)⟩
  rintro e w2 ⟨rfl, rfl⟩
  gi_wp2_with fail
  obtain ⟨Z, hZ⟩ : ∃ Z, X ++ D = Z := ⟨_, rfl⟩
  have hZl : Z.data.toList = X.data.toList ++ D.data.toList := by rw [← hZ, app_data]
  have zZ : Z.size ≤ 1000000 := by rw [← hZ]; omega
  rw [hZ]
  have hb4 : w.heap.size + 4 ≤ w1.heap.size := by omega
  have S1 : FdS w.heap.size w1.heap.size w (.slice none 0 0) [] Z false ((w1.setCell ⟨w.heap.size + 1, 0, none⟩ (.string Z)).alloc (.cells #[.string Z] 9)) := by
    have o1 := HO1.out
    refine ⟨?_, ?_, World.ownsRow_nil _ _ _ _, ?_, (q1.setCell (p := ⟨w.heap.size + 1, 0, none⟩) (by show w.heap.size ≤ w.heap.size + 1; omega) _).alloc (by simp [World.setCell]; omega) _, by simp [World.setCell], hb4⟩
    · rw [Below.heap_alloc _ _ _ (by simp [World.setCell]; omega)]
      simp [World.setCell, Array.getElem?_modify, o1]
    · exact (HR1.out.kept (grownBy_set w1 ⟨w.heap.size + 1, 0, none⟩ (.string Z)) (by intro e; simp at e)).alloc _
    · exact (HE1.out.kept (grownBy_set w1 ⟨w.heap.size + 1, 0, none⟩ (.string Z)) (fun e => by have h2 : w.heap.size + 3 = w.heap.size + 1 := Option.some.inj e; omega)).alloc _
  have bS : Boxed ((w1.setCell ⟨w.heap.size + 1, 0, none⟩ (.string Z)).alloc (.cells #[.string Z] 9)) w1.heap.size 9 (.string Z) := by
    have := Boxed.new (w1.setCell ⟨w.heap.size + 1, 0, none⟩ (.string Z)) 9 (.string Z)
    simpa [World.setCell] using this
  have HRES : Hid (fdT X.data.toList false D.data.toList = match (wiR Z.data.toList).2 with
      | none => (([], true), (wiR Z.data.toList).1, 0)
      | some t => ((t, false), (wiR Z.data.toList).1, 0)) := Lib.hid (by
    unfold fdT
    rw [HCK.out, if_neg (by decide), if_neg (by rw [size_toList]; omega), if_neg (by decide), ← hZl]
    cases (wiR Z.data.toList).snd <;> rfl)
  have HN := Lib.hid (wiIt_len Z.data.toList.length Z.data.toList (Nat.le_refl _))
  clear hZ hZl z0 z1 z2 z3 oc0 oc1 of0 of1
  refine range_lawA (gf := 74) (lb := #[.pointer (some ⟨w1.heap.size, 0, none⟩)]) rfl (enters_of Tryz.func74 (by kernel_rfl) rfl) (B := w1.heap.size) (by simp [World.setCell]) (encs := encW) (S := fun xs => xs = wiIt Z.data.toList) (Sp := fun pre => pre <+: wiIt Z.data.toList) (N := (wiIt Z.data.toList).length) (G := ML) (Yp := fun _ => True)
    (requests1_seq w1.heap.size Z _ zZ bS) (fun _ => rfl) (FdI w.heap.size w1.heap.size Z.data.toList w) (FdX w.heap.size w1.heap.size w) (fdI_own rfl (by simp [World.setCell]; omega)) (fdX_own rfl (by simp [World.setCell]; omega)) (fun _ _ ⟨_, _, h, _⟩ => HM.out.ret h.bel) ⟨_, Z, S1, rfl, fun y hy => by cases hy⟩
    (fun x k => { tmps := #[.agg #[.string X, .bool false], .string D, .pointer (some ⟨w.heap.size, 0, none⟩), undef, .pointer (some ⟨w.heap.size + 1, 0, none⟩), .pointer (some ⟨w.heap.size + 1 + 1, 0, none⟩), .pointer (some ⟨w.heap.size + 1 + 1 + 1, 0, none⟩), .int .i64 0, .pointer (some ⟨k, 0, none⟩), .string ⟨x.2.toArray⟩, .agg #[.string X, .bool false], .int .i64 0, .int .i64 0, .bool false, undef, undef, .bool false, .string D, .int .i64 D.size, .bool false, undef, .bool false, .pointer (some ⟨w.heap.size, 1, none⟩), .bool false, undef, .pointer (some ⟨w.heap.size, 0, none⟩), .string X, .string D, .string Z, .pointer (some ⟨w.heap.size + 1, 0, none⟩), .pointer (some ⟨w.heap.size + 1, 0, none⟩), .string Z, .func (.func 74) #[] #[.pointer (some ⟨w1.heap.size, 0, none⟩)], cmV x.1, .string ⟨x.2.toArray⟩, undef, undef, undef, undef, undef, undef, undef, undef, undef, undef, undef, undef, undef, undef, undef, undef, undef, undef], defers := [] })
    (fun x => .cells #[.int .i64 x.1.1, .string ⟨x.1.2.1.toArray⟩, .string ⟨x.1.2.2.1.toArray⟩, .bool x.1.2.2.2] 40) ?assign ?body ?done ?stop
  case assign =>
    intro l x W K hK
    obtain ⟨⟨st, ho, bd, kp⟩, rs⟩ := x
    simp only [cmV] at hK
    obtain ⟨HH, hHH⟩ : ∃ Y : ByteArray, ⟨ho.toArray⟩ = Y := ⟨_, rfl⟩
    obtain ⟨BB, hBB⟩ : ∃ Y : ByteArray, ⟨bd.toArray⟩ = Y := ⟨_, rfl⟩
    obtain ⟨RR, hRR⟩ : ∃ Y : ByteArray, ⟨rs.toArray⟩ = Y := ⟨_, rfl⟩
    rw [hHH, hBB, hRR] at hK
    unfold encW
    simp only [cmV]
    rw [hHH, hBB, hRR]
    gi_wp2_with fail
    exact hK
  case body =>
    rintro l pre ⟨⟨st, ho, bd, kp⟩, rs⟩ W o o' ⟨v, Y0, hS, hY0, hg⟩ hlen _ hl hoc hDl
    have hl0 := lt_of_get hl
    have hDl2 : w1.heap.size + 1 ≤ l := by simpa [World.setCell] using hDl
    have hWl := hS.lt
    have S2 := (hS.alloc rfl (.cells #[.int .i64 st, .string ⟨ho.toArray⟩, .string ⟨bd.toArray⟩, .bool kp] 40)).put rfl o' ((Below.heap_alloc _ _ _ hl0).trans hl) hoc (by omega)
    have kh : ((W.alloc (.cells #[.int .i64 st, .string ⟨ho.toArray⟩, .string ⟨bd.toArray⟩, .bool kp] 40)).putObj l o').heap[W.heap.size]? = some (.cells #[.int .i64 st, .string ⟨ho.toArray⟩, .string ⟨bd.toArray⟩, .bool kp] 40 (0, 0)) := (World.putObj_heap_other (by omega)).trans (World.alloc_heap_new W _)
    have kown : some W.heap.size ≠ v.ownBlock := fun e => by have := (hS.row.lt _ e.symm).2; omega
    simp only [cmV]
    obtain ⟨V, hV⟩ : ∃ V, (W.alloc (.cells #[.int .i64 st, .string ⟨ho.toArray⟩, .string ⟨bd.toArray⟩, .bool kp] 40)).putObj l o' = V := ⟨_, rfl⟩
    rw [hV] at S2 kh ⊢
    obtain ⟨k, hk⟩ : ∃ k, W.heap.size = k := ⟨_, rfl⟩
    rw [hk] at kh kown hWl ⊢
    obtain ⟨HH, hHH⟩ : ∃ Y : ByteArray, ⟨ho.toArray⟩ = Y := ⟨_, rfl⟩
    obtain ⟨BB, hBB⟩ : ∃ Y : ByteArray, ⟨bd.toArray⟩ = Y := ⟨_, rfl⟩
    obtain ⟨RR, hRR⟩ : ∃ Y : ByteArray, ⟨rs.toArray⟩ = Y := ⟨_, rfl⟩
    have hRRl : RR.data.toList = rs := by rw [← hRR]
    rw [hHH, hBB] at kh ⊢
    rw [hRR]
    have hkl : k < V.heap.size := lt_of_get kh
    obtain ⟨y0, y1, y2, y3, y4, y5, y6, y7⟩ := S2.cells
    have k0 : V.cell? ⟨k, 0, none⟩ = some (.int .i64 st) := by rw [Lib.cell_of_heap kh]; rfl
    have k1 : V.cell? ⟨k, 1, none⟩ = some (.string HH) := by rw [Lib.cell_of_heap kh]; rfl
    have k2 : V.cell? ⟨k, 2, none⟩ = some (.string BB) := by rw [Lib.cell_of_heap kh]; rfl
    have k3 : V.cell? ⟨k, 3, none⟩ = some (.bool kp) := by rw [Lib.cell_of_heap kh]; rfl
    have hN := HN.out
    rw [size_toList] at hN
    have hVs := S2.lt
    have hne1 : ¬ k = w.heap.size + 1 := by omega
    have hne2 : ¬ k = w.heap.size + 1 + 1 := by omega
    have hne3 : ¬ k = w.heap.size + 1 + 1 + 1 := by omega
    have hne4 : ¬ w.heap.size + 1 = k := by omega
    have hne5 : ¬ w.heap.size + 1 + 1 = k := by omega
    have hne6 : ¬ w.heap.size + 1 + 1 + 1 = k := by omega
    have HS := Lib.hid S2
    have hrow := S2.row
    rw [List.length_map] at hrow
    have HROW := Lib.hid hrow
    have HKO := Lib.hid kown
    have HKH := Lib.hid kh
    have HHH := Lib.hid hHH
    have HBB := Lib.hid hBB
    have HY0 := Lib.hid hY0
    have HG := Lib.hid hg
    have HRL := Lib.hid hRRl
    clear hS S2 hrow kown kh hHH hBB hRR hRRl hY0 hg hV hk hl hoc hDl hl0 HR1 HE1 HO1 S1 bS
    have hWB : w.heap.size + 4 ≤ w1.heap.size := hb4
    by_cases h2 : st = 200 ∧ kp = true
    · obtain ⟨rfl, rfl⟩ := h2
      gi_wp2_with (gi_at_builtin; refine wpListIn_append_own _ rfl _ _ 45 rfl (w1.heap.size + 1) 40 i0 (.agg #[.int .i64 0, .string ⟨#[]⟩, .string ⟨#[]⟩, .bool false]) 4 48 Tryz.underlying45 hi hz0 hz1 hz2 rfl (by decide) _ _ _ rfl (HROW.out.alloc _) ⟨V.heap.size, 0, none⟩ 1 1 [.int .i64 200, .string HH, .string BB, .bool true] rfl rfl (four_new _ _ _ _ _ _) (by simp [Value.oneCell']) (by unfold maxLen; omega) (by omega) (by simp <;> omega) ?_; intro v' u1 hown' hgrow _; obtain ⟨g', cap', rfl⟩ := ownsRow_succ hown'; have hown2 := hown'; rw [← HHH.out, ← HBB.out] at hown2; obtain ⟨p1, p2, p3, p4, p5⟩ := HS.out.app ((200, ho, bd, true) : Cm) rfl (by rw [List.length_map]; exact hown2) hgrow; have c5 := p1.cell; have f5 := p1.frozen; have o0 : u1.cell? ⟨w.heap.size + 1, 0, none⟩ = some (.string Y0) := (by rw [Lib.cell_of_heap p2]; rfl); have o1 : u1.cell? ⟨w.heap.size + 1, 1, none⟩ = some (.bool false) := (by rw [Lib.cell_of_heap p2]; rfl); have of0 := Lib.frozen_of_heap p2 0; have of1 := Lib.frozen_of_heap p2 1; have kh1 : u1.heap[k]? = _ := ((hgrow.block k (by simp <;> omega) HKO.out).trans (Below.heap_alloc _ _ _ hkl)).trans HKH.out; have k0 : u1.cell? ⟨k, 0, none⟩ = some (.int .i64 200) := (by rw [Lib.cell_of_heap kh1]; rfl); have k1 : u1.cell? ⟨k, 1, none⟩ = some (.string HH) := (by rw [Lib.cell_of_heap kh1]; rfl); have k2 : u1.cell? ⟨k, 2, none⟩ = some (.string BB) := (by rw [Lib.cell_of_heap kh1]; rfl); have k3 : u1.cell? ⟨k, 3, none⟩ = some (.bool true) := (by rw [Lib.cell_of_heap kh1]; rfl))
      have p6 := p3.setOut RR
      have hmap : (pre ++ [(((200, ho, bd, true) : Cm), rs)]).map (·.1) = pre.map (·.1) ++ [((200, ho, bd, true) : Cm)] := by rw [List.map_append]; rfl
      have p7 := p6
      rw [← hmap] at p7
      refine ⟨p4.trans (KeepsOthers.setCell _ _ _), keepV_set p5 ⟨w.heap.size + 1, 0, none⟩ _ (by show w.heap.size + 1 ≠ w1.heap.size; omega), _, RR, p7, ?_, ?_⟩
      · rw [restAt_snoc, HRL.out]
      · intro y hy
        rcases List.mem_append.1 hy with hy | hy
        · exact HG.out y hy
        · rw [List.mem_singleton.1 hy]
          rfl
    · have hgo : goes ((st, ho, bd, kp), rs) = false := by
        unfold goes
        rw [Bool.eq_false_iff]
        intro h
        rw [Bool.and_eq_true, decide_eq_true_eq] at h
        exact h2 h
      have HGO := Lib.hid hgo
      have hlow : some (w.heap.size + 3) ≠ v.ownBlock := fun e => by have := (HROW.out.lt _ e.symm).1; omega
      have HLO := Lib.hid hlow
      clear hgo hlow
      by_cases h3 : st = 200
      · obtain rfl : kp = false := by
          cases kp with
          | false => rfl
          | true => exact absurd ⟨h3, rfl⟩ h2
        subst h3
        clear h2
        gi_wp2_with (gi_at_builtin; refine wpListIn_append_own _ rfl _ _ 45 rfl (w1.heap.size + 1) 40 i0 (.agg #[.int .i64 0, .string ⟨#[]⟩, .string ⟨#[]⟩, .bool false]) 4 48 Tryz.underlying45 hi hz0 hz1 hz2 rfl (by decide) _ _ _ rfl (HROW.out.alloc _) ⟨V.heap.size, 0, none⟩ 1 1 [.int .i64 200, .string HH, .string BB, .bool false] rfl rfl (four_new _ _ _ _ _ _) (by simp [Value.oneCell']) (by unfold maxLen; omega) (by omega) (by simp <;> omega) ?_; intro v' u1 hown' hgrow _; obtain ⟨g', cap', rfl⟩ := ownsRow_succ hown'; have hown2 := hown'; rw [← HHH.out, ← HBB.out] at hown2; obtain ⟨p1, p2, p3, p4, p5⟩ := HS.out.app ((200, ho, bd, false) : Cm) rfl (by rw [List.length_map]; exact hown2) hgrow; have c5 := p1.cell; have f5 := p1.frozen; have o0 : u1.cell? ⟨w.heap.size + 1, 0, none⟩ = some (.string Y0) := (by rw [Lib.cell_of_heap p2]; rfl); have o1 : u1.cell? ⟨w.heap.size + 1, 1, none⟩ = some (.bool false) := (by rw [Lib.cell_of_heap p2]; rfl); have of0 := Lib.frozen_of_heap p2 0; have of1 := Lib.frozen_of_heap p2 1; have kh1 : u1.heap[k]? = _ := ((hgrow.block k (by simp <;> omega) HKO.out).trans (Below.heap_alloc _ _ _ hkl)).trans HKH.out; have k0 : u1.cell? ⟨k, 0, none⟩ = some (.int .i64 200) := (by rw [Lib.cell_of_heap kh1]; rfl); have k1 : u1.cell? ⟨k, 1, none⟩ = some (.string HH) := (by rw [Lib.cell_of_heap kh1]; rfl); have k2 : u1.cell? ⟨k, 2, none⟩ = some (.string BB) := (by rw [Lib.cell_of_heap kh1]; rfl); have k3 : u1.cell? ⟨k, 3, none⟩ = some (.bool false) := (by rw [Lib.cell_of_heap kh1]; rfl); have e9 : Boxed u1 (w.heap.size + 3) 24 (.int .i64 0) := ((hgrow.block _ (by simp <;> omega) HLO.out).trans (Below.heap_alloc _ _ _ (by omega))).trans HS.out.err; have e90 : u1.cell? ⟨w.heap.size + 1 + 1 + 1, 0, none⟩ = some (.int .i64 0) := e9.cell; have e91 : u1.frozen? ⟨w.heap.size + 1 + 1 + 1, 0, none⟩ = false := e9.frozen)
        have hmap : (pre ++ [(((200, ho, bd, false) : Cm), rs)]).map (·.1) = pre.map (·.1) ++ [((200, ho, bd, false) : Cm)] := by rw [List.map_append]; rfl
        have Q0 := p3.setOut RR
        have KO := p4
        clear p1 p2 p3 p5
        gi_region
        all_goals gi_wp2_with fail
        all_goals
          refine ⟨(((((KO.trans (KeepsOthers.setCell _ _ _)).trans (KeepsOthers.setCell _ _ _)).trans (KeepsOthers.setCell _ _ _)).trans (KeepsOthers.setCell _ _ _)).trans (KeepsOthers.setCell _ _ _)).trans (KeepsOthers.drew _), rfl, .slice (some ⟨g', 0, none⟩) (pre.length + 1) cap', ?_, pre, _, rfl, HGO.out, HG.out⟩
          rw [hmap]
          first
            | exact (((Q0.setOut ⟨#[]⟩).setOff true).setL.setE).drew
            | exact (((Q0.setOut ⟨#[]⟩).setOff true).setE.setL).drew
            | exact (((Q0.setL.setOut ⟨#[]⟩).setOff true).setE).drew
            | exact ((Q0.setL.setE.setOut ⟨#[]⟩).setOff true).drew
            | exact (((Q0.setE.setOut ⟨#[]⟩).setOff true).setL).drew
            | exact ((Q0.setE.setL.setOut ⟨#[]⟩).setOff true).drew
      · have e1 : (st == 200) = false := by rw [beq_eq_false_iff_ne]; exact h3
        have e2 : (st != 200) = true := by rw [bne_iff_ne]; exact h3
        clear h2
        gi_wp2_with (gi_at_builtin; refine wpListIn_append_own _ rfl _ _ 45 rfl (w1.heap.size + 1) 40 i0 (.agg #[.int .i64 0, .string ⟨#[]⟩, .string ⟨#[]⟩, .bool false]) 4 48 Tryz.underlying45 hi hz0 hz1 hz2 rfl (by decide) _ _ _ rfl (HROW.out.alloc _) ⟨V.heap.size, 0, none⟩ 1 1 [.int .i64 st, .string HH, .string BB, .bool kp] rfl rfl (four_new _ _ _ _ _ _) (by simp [Value.oneCell']) (by unfold maxLen; omega) (by omega) (by simp <;> omega) ?_; intro v' u1 hown' hgrow _; obtain ⟨g', cap', rfl⟩ := ownsRow_succ hown'; have hown2 := hown'; rw [← HHH.out, ← HBB.out] at hown2; obtain ⟨p1, p2, p3, p4, p5⟩ := HS.out.app ((st, ho, bd, kp) : Cm) rfl (by rw [List.length_map]; exact hown2) hgrow; have c5 := p1.cell; have f5 := p1.frozen; have o0 : u1.cell? ⟨w.heap.size + 1, 0, none⟩ = some (.string Y0) := (by rw [Lib.cell_of_heap p2]; rfl); have o1 : u1.cell? ⟨w.heap.size + 1, 1, none⟩ = some (.bool false) := (by rw [Lib.cell_of_heap p2]; rfl); have of0 := Lib.frozen_of_heap p2 0; have of1 := Lib.frozen_of_heap p2 1; have kh1 : u1.heap[k]? = _ := ((hgrow.block k (by simp <;> omega) HKO.out).trans (Below.heap_alloc _ _ _ hkl)).trans HKH.out; have k0 : u1.cell? ⟨k, 0, none⟩ = some (.int .i64 st) := (by rw [Lib.cell_of_heap kh1]; rfl); have k1 : u1.cell? ⟨k, 1, none⟩ = some (.string HH) := (by rw [Lib.cell_of_heap kh1]; rfl); have k2 : u1.cell? ⟨k, 2, none⟩ = some (.string BB) := (by rw [Lib.cell_of_heap kh1]; rfl); have k3 : u1.cell? ⟨k, 3, none⟩ = some (.bool kp) := (by rw [Lib.cell_of_heap kh1]; rfl); have e9 : Boxed u1 (w.heap.size + 3) 24 (.int .i64 0) := ((hgrow.block _ (by simp <;> omega) HLO.out).trans (Below.heap_alloc _ _ _ (by omega))).trans HS.out.err; have e90 : u1.cell? ⟨w.heap.size + 1 + 1 + 1, 0, none⟩ = some (.int .i64 0) := e9.cell; have e91 : u1.frozen? ⟨w.heap.size + 1 + 1 + 1, 0, none⟩ = false := e9.frozen)
        have hmap : (pre ++ [(((st, ho, bd, kp) : Cm), rs)]).map (·.1) = pre.map (·.1) ++ [((st, ho, bd, kp) : Cm)] := by rw [List.map_append]; rfl
        have Q0 := p3.setOut RR
        have KO := p4
        clear p1 p2 p3 p5
        gi_region
        all_goals gi_wp2_with fail
        all_goals
          refine ⟨(((((KO.trans (KeepsOthers.setCell _ _ _)).trans (KeepsOthers.setCell _ _ _)).trans (KeepsOthers.setCell _ _ _)).trans (KeepsOthers.setCell _ _ _)).trans (KeepsOthers.setCell _ _ _)).trans (KeepsOthers.drew _), rfl, .slice (some ⟨g', 0, none⟩) (pre.length + 1) cap', ?_, pre, _, rfl, HGO.out, HG.out⟩
          rw [hmap]
          first
            | exact (((Q0.setOut ⟨#[]⟩).setOff true).setL.setE).drew
            | exact (((Q0.setOut ⟨#[]⟩).setOff true).setE.setL).drew
            | exact (((Q0.setL.setOut ⟨#[]⟩).setOff true).setE).drew
            | exact ((Q0.setL.setE.setOut ⟨#[]⟩).setOff true).drew
            | exact (((Q0.setE.setOut ⟨#[]⟩).setOff true).setL).drew
            | exact ((Q0.setE.setL.setOut ⟨#[]⟩).setOff true).drew
  case done =>
    rintro E xs W hD rfl ⟨v, Y0, hS, hY0, hg⟩ hK
    have hE2 : w1.heap.size + 1 ≤ E := by simpa [World.setCell] using hD
    have hres := HRES.out
    rw [wiR_all Z.data.toList.length Z.data.toList (Nat.le_refl _) hg] at hres
    have hO2 := HO.out
    rw [hres] at hO2
    subst hO2
    have hYY : (⟨(restAt Z.data.toList (wiIt Z.data.toList)).toArray⟩ : ByteArray) = Y0 := by rw [← hY0, str_mk]
    obtain ⟨sa, sc, rfl⟩ : ∃ a c, v = .slice a (wiIt Z.data.toList).length c := by
      obtain ⟨_, a, c, h, _⟩ := own_row hS.row
      exact ⟨a, c, by rw [h, List.length_map]⟩
    obtain ⟨m, hm⟩ : ∃ m, (wiIt Z.data.toList).length = m := ⟨_, rfl⟩
    rw [hm] at hS
    obtain ⟨y0, y1, y2, y3, y4, y5, y6, y7⟩ := hS.cells
    have HS := Lib.hid hS
    have HK := Lib.hid hK
    have HYY := Lib.hid hYY
    clear hm
    clear hS hK hYY hres hY0 hg HRES HN HO HR1 HE1 HO1 S1 bS HCK hD
    gi_wp2_with fail
    gi_region
    gi_wp2_with fail
    have SD : FdS w.heap.size w1.heap.size w (.slice sa m sc) ((wiIt Z.data.toList).map (·.1)) Y0 false (((((W.setCell ⟨w.heap.size + 1, 0, none⟩ (.string Y0)).setCell ⟨w.heap.size + 1, 1, none⟩ (.bool false)).setCell ⟨w.heap.size + 1 + 1, 0, none⟩ (.slice sa m sc)).setCell ⟨w.heap.size + 1 + 1 + 1, 0, none⟩ (.int .i64 0)).drew) := (((HS.out.setOut Y0).setOff false).setL.setE).drew
    have KD : (((((W.setCell ⟨w.heap.size + 1, 0, none⟩ (.string Y0)).setCell ⟨w.heap.size + 1, 1, none⟩ (.bool false)).setCell ⟨w.heap.size + 1 + 1, 0, none⟩ (.slice sa m sc)).setCell ⟨w.heap.size + 1 + 1 + 1, 0, none⟩ (.int .i64 0)).drew).heap[E]? = some (.deferred (some [])) :=
      (Below.heap_setCell _ _ _ E (by show E ≠ w.heap.size + 1 + 1 + 1; omega)).trans ((Below.heap_setCell _ _ _ E (by show E ≠ w.heap.size + 1 + 1; omega)).trans ((Below.heap_setCell _ _ _ E (by show E ≠ w.heap.size + 1; omega)).trans ((Below.heap_setCell _ _ _ E (by show E ≠ w.heap.size + 1; omega)).trans HK.out)))
    refine ⟨by simp, .inl ⟨_, _, rfl, run_takeDeferred KD, ?_⟩⟩
    have SF := SD.put rfl (.deferred none) KD rfl (by omega)
    obtain ⟨W', hW'⟩ : ∃ W', (((((W.setCell ⟨w.heap.size + 1, 0, none⟩ (.string Y0)).setCell ⟨w.heap.size + 1, 1, none⟩ (.bool false)).setCell ⟨w.heap.size + 1 + 1, 0, none⟩ (.slice sa m sc)).setCell ⟨w.heap.size + 1 + 1 + 1, 0, none⟩ (.int .i64 0)).drew).putObj E (.deferred none) = W' := ⟨_, rfl⟩
    rw [hW'] at SF ⊢
    clear hW' KD SD
    obtain ⟨c0, c1, c2, c3, c4, c5, c6, c7⟩ := SF.cells
    refine ⟨.tuple #[.agg #[.string Y0, .bool false], .slice sa m sc, .int .i64 0], (by simp (maxDischargeDepth := 9) [results, Tryz.results17, go_sem, *]), .slice sa m sc, by simp only [HYY.out], ?_, SF.bel⟩
    unfold IsCames
    exact own_row SF.row
  case stop =>
    rintro E c pre W hD hpre ⟨rfl, v, hS, p, x, rfl, hx, hg⟩ hK
    have hE2 : w1.heap.size + 1 ≤ E := by simpa [World.setCell] using hD
    have hres := HRES.out
    rw [wiR_stop x hx p Z.data.toList hpre hg] at hres
    have hO2 := HO.out
    rw [hres] at hO2
    subst hO2
    obtain ⟨y0, y1, y2, y3, y4, y5, y6, y7⟩ := hS.cells
    have HS := Lib.hid hS
    have HK := Lib.hid hK
    clear hS hK hres hg HRES HN HO HR1 HE1 HO1 S1 bS HCK hD hpre hx
    gi_wp2_with fail
    refine ⟨by simp, .inl ⟨_, _, rfl, run_takeDeferred HK.out, ?_⟩⟩
    have SF := HS.out.put rfl (.deferred none) HK.out rfl (by omega)
    rw [List.map_append] at SF
    obtain ⟨W', hW'⟩ : ∃ W', W.putObj E (.deferred none) = W' := ⟨_, rfl⟩
    rw [hW'] at SF ⊢
    obtain ⟨c0, c1, c2, c3, c4, c5, c6, c7⟩ := SF.cells
    refine ⟨.tuple #[.agg #[.string ⟨#[]⟩, .bool true], v, .int .i64 0], (by simp (maxDischargeDepth := 9) [results, Tryz.results17, go_sem, *]), v, rfl, ?_, SF.bel⟩
    unfold IsCames
    exact own_row SF.row
end Go.Proofs.YthgmgmbjjjnhnaaGreatDoor
