/- jid.Full, jid.Mine, jid.Write. -/
import Derived.Test.YtfonkblbgadhmaaDoorJdH
namespace Go.Proofs.YtfonkblbgadhmaaDoor
open Go.RowKit Go.Lib

set_option maxHeartbeats 4000000 in
theorem jd_Full (l d r : ByteArray) (w : World) (zl : l.size ≤ 10000) (zd : d.size ≤ 10000) (zr : r.size ≤ 10000) (hm : ML w) :
    Calls Tryd.prog 14 #[jV l d r] w (Ret w (.bool (chkP l.data.toList d.data.toList r.data.toList && (!l.data.toList.isEmpty && !r.data.toList.isEmpty)))) := by
  have k0 := JAt.new w l d r
  have q0 := (Below.refl w.heap.size w).alloc (Nat.le_refl _) (.cells #[.string l, .string d, .string r] 23)
  have C0 := jd_Check l d r _ zl zd zr (hm.ret q0)
  obtain ⟨c, hc⟩ : ∃ c, chkP l.data.toList d.data.toList r.data.toList = c := ⟨_, rfl⟩
  rw [hc] at C0 ⊢
  clear hc
  cases c with
  | false =>
    have C := Lib.hid C0
    clear C0
    go_enter Tryd.func14, Tryd.ntmps14
    go_wp2_with fail
    refine C.out.mono ?_
    rintro e w1 ⟨rfl, hb⟩
    have q1 := q0.trans (hb.mono q0.size)
    clear hb
    go_wp2_with fail
    go_ret
    exact ⟨rfl, q1⟩
  | true =>
    have C := Lib.hid C0
    clear C0
    cases hl : l.data.toList.isEmpty with
    | true =>
      obtain rfl := nil_facts hl
      go_enter Tryd.func14, Tryd.ntmps14
      go_wp2_with fail
      refine C.out.mono ?_
      rintro e w1 ⟨rfl, hb⟩
      obtain ⟨x0, x1, x2, x3, x4⟩ := k0.ret hb
      have q1 := q0.trans (hb.mono q0.size)
      clear hb k0
      go_wp2_with fail
      go_ret
      exact ⟨rfl, q1⟩
    | false =>
      have el := cons_facts hl
      cases hr : r.data.toList.isEmpty with
      | true =>
        obtain rfl := nil_facts hr
        go_enter Tryd.func14, Tryd.ntmps14
        go_wp2_with fail
        refine C.out.mono ?_
        rintro e w1 ⟨rfl, hb⟩
        obtain ⟨x0, x1, x2, x3, x4⟩ := k0.ret hb
        have q1 := q0.trans (hb.mono q0.size)
        clear hb k0
        go_wp2_with fail
        go_ret
        exact ⟨rfl, q1⟩
      | false =>
        have er := cons_facts hr
        go_enter Tryd.func14, Tryd.ntmps14
        go_wp2_with fail
        refine C.out.mono ?_
        rintro e w1 ⟨rfl, hb⟩
        obtain ⟨x0, x1, x2, x3, x4⟩ := k0.ret hb
        have q1 := q0.trans (hb.mono q0.size)
        clear hb k0
        go_wp2_with fail
        go_ret
        exact ⟨rfl, q1⟩
set_option maxHeartbeats 4000000 in
theorem jd_Mine (l d r : ByteArray) (w : World) (zl : l.size ≤ 10000) (zd : d.size ≤ 10000) (zr : r.size ≤ 10000) (hm : ML w) :
    Calls Tryd.prog 15 #[jV l d r] w (Ret w (.bool (chkP l.data.toList d.data.toList r.data.toList && (!l.data.toList.isEmpty && r.data.toList.isEmpty)))) := by
  have k0 := JAt.new w l d r
  have q0 := (Below.refl w.heap.size w).alloc (Nat.le_refl _) (.cells #[.string l, .string d, .string r] 23)
  have C0 := jd_Check l d r _ zl zd zr (hm.ret q0)
  obtain ⟨c, hc⟩ : ∃ c, chkP l.data.toList d.data.toList r.data.toList = c := ⟨_, rfl⟩
  rw [hc] at C0 ⊢
  clear hc
  cases c with
  | false =>
    have C := Lib.hid C0
    clear C0
    go_enter Tryd.func15, Tryd.ntmps15
    go_wp2_with fail
    refine C.out.mono ?_
    rintro e w1 ⟨rfl, hb⟩
    have q1 := q0.trans (hb.mono q0.size)
    clear hb
    go_wp2_with fail
    go_ret
    exact ⟨rfl, q1⟩
  | true =>
    have C := Lib.hid C0
    clear C0
    cases hl : l.data.toList.isEmpty with
    | true =>
      obtain rfl := nil_facts hl
      go_enter Tryd.func15, Tryd.ntmps15
      go_wp2_with fail
      refine C.out.mono ?_
      rintro e w1 ⟨rfl, hb⟩
      obtain ⟨x0, x1, x2, x3, x4⟩ := k0.ret hb
      have q1 := q0.trans (hb.mono q0.size)
      clear hb k0
      go_wp2_with fail
      go_ret
      exact ⟨rfl, q1⟩
    | false =>
      have el := cons_facts hl
      cases hr : r.data.toList.isEmpty with
      | true =>
        obtain rfl := nil_facts hr
        go_enter Tryd.func15, Tryd.ntmps15
        go_wp2_with fail
        refine C.out.mono ?_
        rintro e w1 ⟨rfl, hb⟩
        obtain ⟨x0, x1, x2, x3, x4⟩ := k0.ret hb
        have q1 := q0.trans (hb.mono q0.size)
        clear hb k0
        go_wp2_with fail
        go_ret
        exact ⟨rfl, q1⟩
      | false =>
        have er := cons_facts hr
        go_enter Tryd.func15, Tryd.ntmps15
        go_wp2_with fail
        refine C.out.mono ?_
        rintro e w1 ⟨rfl, hb⟩
        obtain ⟨x0, x1, x2, x3, x4⟩ := k0.ret hb
        have q1 := q0.trans (hb.mono q0.size)
        clear hb k0
        go_wp2_with fail
        go_ret
        exact ⟨rfl, q1⟩
/-- the text as a value. -/
abbrev jB (l : List UInt8) : ByteArray := ⟨l.toArray⟩
def wrtB (l d r : List UInt8) : ByteArray := if chkP l d r then jB (txtP l d r) else ⟨#[]⟩
def wrtE (l d r : List UInt8) : Int := if chkP l d r then 0 else 8
set_option maxHeartbeats 4000000 in
theorem jd_Write (l d r : ByteArray) (w : World) (zl : l.size ≤ 10000) (zd : d.size ≤ 10000) (zr : r.size ≤ 10000) (hm : ML w) :
    Calls Tryd.prog 9 #[jV l d r] w (Ret w (.tuple #[.string (wrtB l.data.toList d.data.toList r.data.toList), .int .i64 (wrtE l.data.toList d.data.toList r.data.toList)])) := by
  have k0 := JAt.new w l d r
  have q0 := (Below.refl w.heap.size w).alloc (Nat.le_refl _) (.cells #[.string l, .string d, .string r] 23)
  have C0 := jd_Check l d r _ zl zd zr (hm.ret q0)
  unfold wrtB wrtE
  obtain ⟨c, hc⟩ : ∃ c, chkP l.data.toList d.data.toList r.data.toList = c := ⟨_, rfl⟩
  rw [hc] at C0 ⊢
  clear hc
  obtain ⟨T, hT⟩ : ∃ T, jB (txtP l.data.toList d.data.toList r.data.toList) = T := ⟨_, rfl⟩
  rw [hT]
  have HT := Lib.hid hT
  clear hT
  cases c with
  | false =>
    have C := Lib.hid C0
    clear C0
    go_enter Tryd.func9, Tryd.ntmps9
    go_wp2_with fail
    refine C.out.mono ?_
    rintro e w1 ⟨rfl, hb⟩
    have q1 := q0.trans (hb.mono q0.size)
    clear hb
    go_wp2_with fail
    go_ret2
    exact ⟨rfl, q1⟩
  | true =>
    have C := Lib.hid C0
    have n1 : (⟨#[64]⟩ : ByteArray).size = 1 := rfl
    have n2 : (⟨#[47]⟩ : ByteArray).size = 1 := rfl
    clear C0
    cases hl : l.data.toList.isEmpty with
    | true =>
      obtain rfl := nil_facts hl
      cases hr : r.data.toList.isEmpty with
      | true =>
        obtain rfl := nil_facts hr
        go_enter Tryd.func9, Tryd.ntmps9
        go_wp2_with fail
        refine C.out.mono ?_
        rintro e w1 ⟨rfl, hb⟩
        obtain ⟨x0, x1, x2, x3, x4⟩ := k0.ret hb
        have q1 := q0.trans (hb.mono q0.size)
        clear hb k0
        go_wp2_with fail
        go_ret2
        refine ⟨congrArg Ending.returned (congrArg Value.tuple ?_), q1⟩
        have : d = T := by rw [← HT.out]; apply str_ext; simp [txtP]
        rw [← this]; rfl
      | false =>
        have er := cons_facts hr
        go_enter Tryd.func9, Tryd.ntmps9
        go_wp2_with fail
        refine C.out.mono ?_
        rintro e w1 ⟨rfl, hb⟩
        obtain ⟨x0, x1, x2, x3, x4⟩ := k0.ret hb
        have q1 := q0.trans (hb.mono q0.size)
        clear hb k0
        go_wp2_with fail
        go_ret2
        refine ⟨congrArg Ending.returned (congrArg Value.tuple ?_), q1⟩
        have : d ++ (⟨#[47]⟩ ++ r) = T := by rw [← HT.out]; apply str_ext; simp [txtP, hr]
        rw [← this]; rfl
    | false =>
      have el := cons_facts hl
      cases hr : r.data.toList.isEmpty with
      | true =>
        obtain rfl := nil_facts hr
        go_enter Tryd.func9, Tryd.ntmps9
        go_wp2_with fail
        refine C.out.mono ?_
        rintro e w1 ⟨rfl, hb⟩
        obtain ⟨x0, x1, x2, x3, x4⟩ := k0.ret hb
        have q1 := q0.trans (hb.mono q0.size)
        clear hb k0
        go_wp2_with fail
        go_ret2
        refine ⟨congrArg Ending.returned (congrArg Value.tuple ?_), q1⟩
        have : l ++ ⟨#[64]⟩ ++ d = T := by rw [← HT.out]; apply str_ext; simp [txtP, hl]
        rw [← this]; rfl
      | false =>
        have er := cons_facts hr
        go_enter Tryd.func9, Tryd.ntmps9
        go_wp2_with fail
        refine C.out.mono ?_
        rintro e w1 ⟨rfl, hb⟩
        obtain ⟨x0, x1, x2, x3, x4⟩ := k0.ret hb
        have q1 := q0.trans (hb.mono q0.size)
        clear hb k0
        go_wp2_with fail
        go_ret2
        refine ⟨congrArg Ending.returned (congrArg Value.tuple ?_), q1⟩
        have : l ++ ⟨#[64]⟩ ++ d ++ (⟨#[47]⟩ ++ r) = T := by rw [← HT.out]; apply str_ext; simp [txtP, hl, hr]
        rw [← this]; rfl
end Go.Proofs.YtfonkblbgadhmaaDoor
