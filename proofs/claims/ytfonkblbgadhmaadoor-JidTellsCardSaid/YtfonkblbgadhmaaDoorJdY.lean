/- The document's addresses (tidewaiterref19): May, Check, Text, Write, Full, Mine, Less, Bare. PRINTED BY PROGRAM (gen_jdy.py). -/
import Derived.Test.YtfonkblbgadhmaaDoorJdX
import Derived.Test.YtfonkblbgadhmaaDoorJdI
namespace Go.Proofs.YtfonkblbgadhmaaDoor
open Go.RowKit Go.Lib

theorem may_O (l d r : List UInt8) (A B C : Bool) (hA : (l.isEmpty || locP l) = A) (hB : (r.isEmpty || resP r) = B) (hC : domP d = C) : chkP l d r = (A && B && C) := by
  unfold chkP
  rw [hA, hB, hC]
set_option maxHeartbeats 4000000 in
theorem r19_May (l d r : ByteArray) (w : World) (zl : l.size ≤ 10000) (zd : d.size ≤ 10000) (zr : r.size ≤ 10000) :
    Calls Tryd.prog 35 #[jV l d r] w (Ret w (.bool (chkP l.data.toList d.data.toList r.data.toList))) := by
  have k0 := JAt.new w l d r
  have q0 := (Below.refl w.heap.size w).alloc (Nat.le_refl _) (.cells #[.string l, .string d, .string r] 23)
  obtain ⟨x0, x1, x2, x3, x4⟩ := k0
  have D0 := fun w => r19_Domain d w zd
  have L0 := fun w => r19_Local l w zl
  have R0 := fun w => r19_Resource r w zr
  cases hd : domP d.data.toList with
  | false =>
    rw [may_O _ _ _ _ _ _ rfl rfl hd, Bool.and_false]
    rw [hd] at D0
    have DH := Lib.hid D0
    clear D0 L0 R0 hd
    go_enter Tryd.func35, Tryd.ntmps35
    go_wp2_with fail
    refine (DH.out _).mono ?_
    rintro e w1 ⟨rfl, rfl⟩
    go_wp2_with fail
    go_ret
    exact ⟨rfl, q0⟩
  | true =>
    rw [hd] at D0
    have DH := Lib.hid D0
    clear D0
    cases hl : l.data.toList.isEmpty with
    | true =>
      obtain rfl := nil_facts hl
      cases hr : r.data.toList.isEmpty with
      | true =>
        obtain rfl := nil_facts hr
        rw [may_O _ _ _ true true true (by rw [hl]; rfl) (by rw [hr]; rfl) hd]
        clear L0 R0 hl hr hd
        go_enter Tryd.func35, Tryd.ntmps35
        go_wp2_with fail
        refine (DH.out _).mono ?_
        rintro e w1 ⟨rfl, rfl⟩
        go_wp2_with fail
        go_ret
        exact ⟨rfl, q0⟩
      | false =>
        have er := cons_facts hr
        cases hR : resP r.data.toList with
        | true =>
          rw [may_O _ _ _ true true true (by rw [hl]; rfl) (by rw [hr, hR]; rfl) hd]
          rw [hR] at R0
          have RH := Lib.hid R0
          clear hR
          clear L0 R0 hl hr hd
          go_enter Tryd.func35, Tryd.ntmps35
          go_wp2_with fail
          refine (DH.out _).mono ?_
          rintro e w1 ⟨rfl, rfl⟩
          go_wp2_with fail
          refine (RH.out _).mono ?_
          rintro e w2 ⟨rfl, hb⟩
          have q1 := q0.trans (hb.mono q0.size)
          clear hb
          go_wp2_with fail
          go_ret
          exact ⟨rfl, q1⟩
        | false =>
          rw [may_O _ _ _ true false true (by rw [hl]; rfl) (by rw [hr, hR]; rfl) hd]
          rw [hR] at R0
          have RH := Lib.hid R0
          clear hR
          clear L0 R0 hl hr hd
          go_enter Tryd.func35, Tryd.ntmps35
          go_wp2_with fail
          refine (DH.out _).mono ?_
          rintro e w1 ⟨rfl, rfl⟩
          go_wp2_with fail
          refine (RH.out _).mono ?_
          rintro e w2 ⟨rfl, hb⟩
          have q1 := q0.trans (hb.mono q0.size)
          clear hb
          go_wp2_with fail
          go_ret
          exact ⟨rfl, q1⟩
    | false =>
      have el := cons_facts hl
      cases hL : locP l.data.toList with
      | true =>
        rw [hL] at L0
        have LH := Lib.hid L0
        cases hr : r.data.toList.isEmpty with
        | true =>
          obtain rfl := nil_facts hr
          rw [may_O _ _ _ true true true (by rw [hl, hL]; rfl) (by rw [hr]; rfl) hd]
          clear L0 R0 hl hL hr hd
          go_enter Tryd.func35, Tryd.ntmps35
          go_wp2_with fail
          refine (DH.out _).mono ?_
          rintro e w1 ⟨rfl, rfl⟩
          go_wp2_with fail
          refine (LH.out _).mono ?_
          rintro e w1 ⟨rfl, rfl⟩
          go_wp2_with fail
          go_ret
          exact ⟨rfl, q0⟩
        | false =>
          have er := cons_facts hr
          cases hR : resP r.data.toList with
          | true =>
            rw [may_O _ _ _ true true true (by rw [hl, hL]; rfl) (by rw [hr, hR]; rfl) hd]
            rw [hR] at R0
            have RH := Lib.hid R0
            clear hR
            clear L0 R0 hl hL hr hd
            go_enter Tryd.func35, Tryd.ntmps35
            go_wp2_with fail
            refine (DH.out _).mono ?_
            rintro e w1 ⟨rfl, rfl⟩
            go_wp2_with fail
            refine (LH.out _).mono ?_
            rintro e w1 ⟨rfl, rfl⟩
            go_wp2_with fail
            refine (RH.out _).mono ?_
            rintro e w2 ⟨rfl, hb⟩
            have q1 := q0.trans (hb.mono q0.size)
            clear hb
            go_wp2_with fail
            go_ret
            exact ⟨rfl, q1⟩
          | false =>
            rw [may_O _ _ _ true false true (by rw [hl, hL]; rfl) (by rw [hr, hR]; rfl) hd]
            rw [hR] at R0
            have RH := Lib.hid R0
            clear hR
            clear L0 R0 hl hL hr hd
            go_enter Tryd.func35, Tryd.ntmps35
            go_wp2_with fail
            refine (DH.out _).mono ?_
            rintro e w1 ⟨rfl, rfl⟩
            go_wp2_with fail
            refine (LH.out _).mono ?_
            rintro e w1 ⟨rfl, rfl⟩
            go_wp2_with fail
            refine (RH.out _).mono ?_
            rintro e w2 ⟨rfl, hb⟩
            have q1 := q0.trans (hb.mono q0.size)
            clear hb
            go_wp2_with fail
            go_ret
            exact ⟨rfl, q1⟩
      | false =>
        rw [hL] at L0
        have LH := Lib.hid L0
        rw [may_O _ _ _ false _ _ (by rw [hl, hL]; rfl) rfl hd]
        clear L0 R0 hl hL hd
        go_enter Tryd.func35, Tryd.ntmps35
        go_wp2_with fail
        refine (DH.out _).mono ?_
        rintro e w1 ⟨rfl, rfl⟩
        go_wp2_with fail
        refine (LH.out _).mono ?_
        rintro e w1 ⟨rfl, rfl⟩
        go_wp2_with fail
        go_ret
        exact ⟨rfl, q0⟩
set_option maxHeartbeats 4000000 in
theorem r19_Check (l d r : ByteArray) (w : World) (zl : l.size ≤ 10000) (zd : d.size ≤ 10000) (zr : r.size ≤ 10000) :
    Calls Tryd.prog 21 #[jV l d r] w (Ret w (.int .i64 (if chkP l.data.toList d.data.toList r.data.toList = true then 0 else 8))) := by
  have k0 := JAt.new w l d r
  have q0 := (Below.refl w.heap.size w).alloc (Nat.le_refl _) (.cells #[.string l, .string d, .string r] 23)
  obtain ⟨x0, x1, x2, x3, x4⟩ := k0
  have M0 := fun w => r19_May l d r w zl zd zr
  obtain ⟨c, hc⟩ : ∃ c, chkP l.data.toList d.data.toList r.data.toList = c := ⟨_, rfl⟩
  rw [hc] at M0 ⊢
  have MH := Lib.hid M0
  clear M0 hc
  cases c with
  | true =>
    go_enter Tryd.func21, Tryd.ntmps21
    go_wp2_with fail
    refine (MH.out _).mono ?_
    rintro e w1 ⟨rfl, hb⟩
    have q1 := q0.trans (hb.mono q0.size)
    clear hb
    go_wp2_with fail
    go_ret
    exact ⟨rfl, q1⟩
  | false =>
    go_enter Tryd.func21, Tryd.ntmps21
    go_wp2_with fail
    refine (MH.out _).mono ?_
    rintro e w1 ⟨rfl, hb⟩
    have q1 := q0.trans (hb.mono q0.size)
    clear hb
    go_wp2_with fail
    go_ret
    exact ⟨rfl, q1⟩
set_option maxHeartbeats 4000000 in
theorem r19_Text (l d r : ByteArray) (w : World) (zl : l.size ≤ 10000) (zd : d.size ≤ 10000) (zr : r.size ≤ 10000) :
    Calls Tryd.prog 36 #[jV l d r] w (Ret w (.string (jB (txtP l.data.toList d.data.toList r.data.toList)))) := by
  have k0 := JAt.new w l d r
  have q0 := (Below.refl w.heap.size w).alloc (Nat.le_refl _) (.cells #[.string l, .string d, .string r] 23)
  obtain ⟨x0, x1, x2, x3, x4⟩ := k0
  obtain ⟨T, hT⟩ : ∃ T, jB (txtP l.data.toList d.data.toList r.data.toList) = T := ⟨_, rfl⟩
  rw [hT]
  have HT := Lib.hid hT
  have n1 : (⟨#[64]⟩ : ByteArray).size = 1 := rfl
  have n2 : (⟨#[47]⟩ : ByteArray).size = 1 := rfl
  clear hT
  cases hl : l.data.toList.isEmpty with
  | true =>
    obtain rfl := nil_facts hl
    cases hr : r.data.toList.isEmpty with
    | true =>
      obtain rfl := nil_facts hr
      have ht : d = T := by rw [← HT.out]; apply str_ext; simp [txtP]
      have HE := Lib.hid ht
      clear ht hl hr
      go_enter Tryd.func36, Tryd.ntmps36
      go_wp2_with fail
      go_ret
      exact ⟨by rw [← HE.out]; rfl, q0⟩
    | false =>
      have er := cons_facts hr
      have ht : d ++ ⟨#[47]⟩ ++ r = T := by rw [← HT.out]; apply str_ext; simp [txtP, hr]
      have HE := Lib.hid ht
      clear ht hl hr
      go_enter Tryd.func36, Tryd.ntmps36
      go_wp2_with fail
      go_ret
      exact ⟨by rw [← HE.out]; rfl, q0⟩
  | false =>
    have el := cons_facts hl
    cases hr : r.data.toList.isEmpty with
    | true =>
      obtain rfl := nil_facts hr
      have ht : l ++ ⟨#[64]⟩ ++ d = T := by rw [← HT.out]; apply str_ext; simp [txtP, hl]
      have HE := Lib.hid ht
      clear ht hl hr
      go_enter Tryd.func36, Tryd.ntmps36
      go_wp2_with fail
      go_ret
      exact ⟨by rw [← HE.out]; rfl, q0⟩
    | false =>
      have er := cons_facts hr
      have ht : l ++ ⟨#[64]⟩ ++ d ++ ⟨#[47]⟩ ++ r = T := by rw [← HT.out]; apply str_ext; simp [txtP, hl, hr]
      have HE := Lib.hid ht
      clear ht hl hr
      go_enter Tryd.func36, Tryd.ntmps36
      go_wp2_with fail
      go_ret
      exact ⟨by rw [← HE.out]; rfl, q0⟩
set_option maxHeartbeats 4000000 in
theorem r19_Write (l d r : ByteArray) (w : World) (zl : l.size ≤ 10000) (zd : d.size ≤ 10000) (zr : r.size ≤ 10000) :
    Calls Tryd.prog 20 #[jV l d r] w (Ret w (.tuple #[.string (wrtB l.data.toList d.data.toList r.data.toList), .int .i64 (wrtE l.data.toList d.data.toList r.data.toList)])) := by
  have k0 := JAt.new w l d r
  have q0 := (Below.refl w.heap.size w).alloc (Nat.le_refl _) (.cells #[.string l, .string d, .string r] 23)
  have M0 := fun w => r19_May l d r w zl zd zr
  have X0 := fun w => r19_Text l d r w zl zd zr
  unfold wrtB wrtE
  obtain ⟨c, hc⟩ : ∃ c, chkP l.data.toList d.data.toList r.data.toList = c := ⟨_, rfl⟩
  rw [hc] at M0 ⊢
  obtain ⟨T, hT⟩ : ∃ T, jB (txtP l.data.toList d.data.toList r.data.toList) = T := ⟨_, rfl⟩
  rw [hT] at X0 ⊢
  have MH := Lib.hid M0
  have XH := Lib.hid X0
  clear M0 X0 hc hT
  cases c with
  | true =>
    go_enter Tryd.func20, Tryd.ntmps20
    go_wp2_with fail
    refine (MH.out _).mono ?_
    rintro e w1 ⟨rfl, hb⟩
    obtain ⟨x0, x1, x2, x3, x4⟩ := k0.ret hb
    have q1 := q0.trans (hb.mono q0.size)
    clear hb
    go_wp2_with fail
    refine (XH.out _).mono ?_
    rintro e w2 ⟨rfl, hb⟩
    have q2 := q1.trans (hb.mono q1.size)
    clear hb
    go_wp2_with fail
    go_ret2
    exact ⟨rfl, q2⟩
  | false =>
    go_enter Tryd.func20, Tryd.ntmps20
    go_wp2_with fail
    refine (MH.out _).mono ?_
    rintro e w1 ⟨rfl, hb⟩
    have q1 := q0.trans (hb.mono q0.size)
    clear hb
    go_wp2_with fail
    go_ret2
    exact ⟨rfl, q1⟩
set_option maxHeartbeats 4000000 in
theorem r19_Full (l d r : ByteArray) (w : World) (zl : l.size ≤ 10000) (zd : d.size ≤ 10000) (zr : r.size ≤ 10000) :
    Calls Tryd.prog 23 #[jV l d r] w (Ret w (.bool (chkP l.data.toList d.data.toList r.data.toList && (!l.data.toList.isEmpty && !r.data.toList.isEmpty)))) := by
  have k0 := JAt.new w l d r
  have q0 := (Below.refl w.heap.size w).alloc (Nat.le_refl _) (.cells #[.string l, .string d, .string r] 23)
  have M0 := fun w => r19_May l d r w zl zd zr
  obtain ⟨c, hc⟩ : ∃ c, chkP l.data.toList d.data.toList r.data.toList = c := ⟨_, rfl⟩
  rw [hc] at M0 ⊢
  have MH := Lib.hid M0
  clear M0 hc
  cases c with
  | false =>
    go_enter Tryd.func23, Tryd.ntmps23
    go_wp2_with fail
    refine (MH.out _).mono ?_
    rintro e w1 ⟨rfl, hb⟩
    obtain ⟨x0, x1, x2, x3, x4⟩ := k0.ret hb
    have q1 := q0.trans (hb.mono q0.size)
    clear hb k0
    go_wp2_with fail
    go_ret
    exact ⟨rfl, q1⟩
  | true =>
    cases hl : l.data.toList.isEmpty with
    | true =>
      obtain rfl := nil_facts hl
      clear hl
      go_enter Tryd.func23, Tryd.ntmps23
      go_wp2_with fail
      refine (MH.out _).mono ?_
      rintro e w1 ⟨rfl, hb⟩
      obtain ⟨x0, x1, x2, x3, x4⟩ := k0.ret hb
      have q1 := q0.trans (hb.mono q0.size)
      clear hb k0
      go_wp2_with fail
      go_ret
      exact ⟨rfl, q1⟩
    | false =>
      have el := cons_facts hl
      clear hl
      cases hr : r.data.toList.isEmpty with
      | true =>
        obtain rfl := nil_facts hr
        clear hr
        go_enter Tryd.func23, Tryd.ntmps23
        go_wp2_with fail
        refine (MH.out _).mono ?_
        rintro e w1 ⟨rfl, hb⟩
        obtain ⟨x0, x1, x2, x3, x4⟩ := k0.ret hb
        have q1 := q0.trans (hb.mono q0.size)
        clear hb k0
        go_wp2_with fail
        go_ret
        exact ⟨rfl, q1⟩
      | false =>
        have er := cons_facts hr
        clear hr
        go_enter Tryd.func23, Tryd.ntmps23
        go_wp2_with fail
        refine (MH.out _).mono ?_
        rintro e w1 ⟨rfl, hb⟩
        obtain ⟨x0, x1, x2, x3, x4⟩ := k0.ret hb
        have q1 := q0.trans (hb.mono q0.size)
        clear hb k0
        go_wp2_with fail
        go_ret
        exact ⟨rfl, q1⟩
set_option maxHeartbeats 4000000 in
theorem r19_Mine (l d r : ByteArray) (w : World) (zl : l.size ≤ 10000) (zd : d.size ≤ 10000) (zr : r.size ≤ 10000) :
    Calls Tryd.prog 24 #[jV l d r] w (Ret w (.bool (chkP l.data.toList d.data.toList r.data.toList && (!l.data.toList.isEmpty && r.data.toList.isEmpty)))) := by
  have k0 := JAt.new w l d r
  have q0 := (Below.refl w.heap.size w).alloc (Nat.le_refl _) (.cells #[.string l, .string d, .string r] 23)
  have M0 := fun w => r19_May l d r w zl zd zr
  obtain ⟨c, hc⟩ : ∃ c, chkP l.data.toList d.data.toList r.data.toList = c := ⟨_, rfl⟩
  rw [hc] at M0 ⊢
  have MH := Lib.hid M0
  clear M0 hc
  cases c with
  | false =>
    go_enter Tryd.func24, Tryd.ntmps24
    go_wp2_with fail
    refine (MH.out _).mono ?_
    rintro e w1 ⟨rfl, hb⟩
    obtain ⟨x0, x1, x2, x3, x4⟩ := k0.ret hb
    have q1 := q0.trans (hb.mono q0.size)
    clear hb k0
    go_wp2_with fail
    go_ret
    exact ⟨rfl, q1⟩
  | true =>
    cases hl : l.data.toList.isEmpty with
    | true =>
      obtain rfl := nil_facts hl
      clear hl
      go_enter Tryd.func24, Tryd.ntmps24
      go_wp2_with fail
      refine (MH.out _).mono ?_
      rintro e w1 ⟨rfl, hb⟩
      obtain ⟨x0, x1, x2, x3, x4⟩ := k0.ret hb
      have q1 := q0.trans (hb.mono q0.size)
      clear hb k0
      go_wp2_with fail
      go_ret
      exact ⟨rfl, q1⟩
    | false =>
      have el := cons_facts hl
      clear hl
      cases hr : r.data.toList.isEmpty with
      | true =>
        obtain rfl := nil_facts hr
        clear hr
        go_enter Tryd.func24, Tryd.ntmps24
        go_wp2_with fail
        refine (MH.out _).mono ?_
        rintro e w1 ⟨rfl, hb⟩
        obtain ⟨x0, x1, x2, x3, x4⟩ := k0.ret hb
        have q1 := q0.trans (hb.mono q0.size)
        clear hb k0
        go_wp2_with fail
        go_ret
        exact ⟨rfl, q1⟩
      | false =>
        have er := cons_facts hr
        clear hr
        go_enter Tryd.func24, Tryd.ntmps24
        go_wp2_with fail
        refine (MH.out _).mono ?_
        rintro e w1 ⟨rfl, hb⟩
        obtain ⟨x0, x1, x2, x3, x4⟩ := k0.ret hb
        have q1 := q0.trans (hb.mono q0.size)
        clear hb k0
        go_wp2_with fail
        go_ret
        exact ⟨rfl, q1⟩
theorem str_eqb (X Y : ByteArray) (x y : List UInt8) (hx : X.data.toList = x) (hy : Y.data.toList = y) : (X.toList == Y.toList) = decide (x = y) := by
  rw [Lib.toList_data, Lib.toList_data, hx, hy]
  rw [Bool.eq_iff_iff]
  simp
set_option maxHeartbeats 4000000 in
theorem r19_Less (a b c x y z : ByteArray) (w : World) : Calls Tryd.prog 25 #[jV a b c, jV x y z] w (Ret w (.bool (lsP (a.data.toList, b.data.toList, c.data.toList) (x.data.toList, y.data.toList, z.data.toList)))) := by
  have k1 := JAt.new w a b c
  have q1 := (Below.refl w.heap.size w).alloc (Nat.le_refl _) (.cells #[.string a, .string b, .string c] 23)
  have q2 := q1.alloc q1.size (.cells #[.string x, .string y, .string z] 23)
  clear k1
  obtain ⟨A, hA⟩ : ∃ X, a.toList = X := ⟨_, rfl⟩
  obtain ⟨B, hB⟩ : ∃ X, b.toList = X := ⟨_, rfl⟩
  obtain ⟨C, hC⟩ : ∃ X, c.toList = X := ⟨_, rfl⟩
  obtain ⟨X, hX⟩ : ∃ X, x.toList = X := ⟨_, rfl⟩
  obtain ⟨Y, hY⟩ : ∃ X, y.toList = X := ⟨_, rfl⟩
  obtain ⟨Z, hZ⟩ : ∃ X, z.toList = X := ⟨_, rfl⟩
  rw [← Lib.toList_data a, ← Lib.toList_data b, ← Lib.toList_data c, ← Lib.toList_data x, ← Lib.toList_data y, ← Lib.toList_data z, hA, hB, hC, hX, hY, hZ]
  unfold lsP
  dsimp only
  by_cases e1 : B = Y
  · subst e1
    rw [bl_irr]
    have f1 : (B == B) = true := by simp
    by_cases e2 : A = X
    · subst e2
      rw [bl_irr]
      have f2 : (A == A) = true := by simp
      cases h : Op.bytesLess C Z with
      | true =>
        go_enter Tryd.func25, Tryd.ntmps25
        go_wp2_with fail
        go_ret
        exact ⟨by first | rfl | (simp [*]), q2⟩
      | false =>
        go_enter Tryd.func25, Tryd.ntmps25
        go_wp2_with fail
        go_ret
        exact ⟨by first | rfl | (simp [*]), q2⟩
    · have f2 : (A == X) = false := by simpa using e2
      clear e2
      obtain ⟨V, hV⟩ : ∃ V, Op.bytesLess A X = V := ⟨_, rfl⟩
      have hV2 : (false || !false && (V || !Op.bytesLess X A && Op.bytesLess C Z)) = V := by
        rcases bl_tri A X with ⟨h1, h2, h3⟩ | ⟨h1, h2, h3⟩ | ⟨h1, h2, h3⟩
        · rw [h1] at hV; subst hV; rfl
        · rw [h1] at hV; subst hV; rw [h2]; rfl
        · subst h3; simp at f2
      rw [hV, hV2]
      clear hV2
      go_enter Tryd.func25, Tryd.ntmps25
      go_wp2_with fail
      go_ret
      exact ⟨by first | rfl | (simp [*]), q2⟩
  · have f1 : (B == Y) = false := by simpa using e1
    clear e1
    obtain ⟨V, hV⟩ : ∃ V, Op.bytesLess B Y = V := ⟨_, rfl⟩
    have hV2 : (V || !Op.bytesLess Y B && (Op.bytesLess A X || !Op.bytesLess X A && Op.bytesLess C Z)) = V := by
      rcases bl_tri B Y with ⟨h1, h2, h3⟩ | ⟨h1, h2, h3⟩ | ⟨h1, h2, h3⟩
      · rw [h1] at hV; subst hV; rfl
      · rw [h1] at hV; subst hV; rw [h2]; rfl
      · subst h3; simp at f1
    rw [hV, hV2]
    clear hV2
    go_enter Tryd.func25, Tryd.ntmps25
    go_wp2_with fail
    go_ret
    exact ⟨by first | rfl | (simp [*]), q2⟩
set_option maxHeartbeats 4000000 in
theorem r19_Bare (a b c : ByteArray) (w : World) : Calls Tryd.prog 22 #[jV a b c] w (Ret w (jV a b ⟨#[]⟩)) := by
  have q0 := ((Below.refl w.heap.size w).alloc (Nat.le_refl _) (.cells #[.string a, .string b, .string c] 23)).alloc (by simp) (.cells #[.string a, .string b, .string ⟨#[]⟩] 23)
  go_enter Tryd.func22, Tryd.ntmps22
  go_wp2_with fail
  refine bodyPost_ret (v := jV a b ⟨#[]⟩) (results_cell_row rfl _ _ (w.heap.size + 1) _ _ (0, 0) _ rfl (heap_alloc2_new _ _ _) Tryd.underlying23 rfl rfl) rfl ⟨rfl, ?_⟩
  exact q0
end Go.Proofs.YtfonkblbgadhmaaDoor
