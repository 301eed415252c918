/- JdI, JdJ, JdK: put together by mergetpl.py. -/
import Derived.Test.YtjgeiieiinmdnaaGreatDoorKd
namespace Go.Proofs.YtjgeiieiinmdnaaGreatDoor
open Go.RowKit Go.Lib

set_option maxHeartbeats 4000000 in
theorem jd_Full (l d r : ByteArray) (w : World) (zl : l.size ≤ 10000) (zd : d.size ≤ 10000) (zr : r.size ≤ 10000) (hm : ML w) :
  Calls Tryz.prog 135 #[jV l d r] w (Ret w (.bool (chkP l.data.toList d.data.toList r.data.toList && (!l.data.toList.isEmpty && !r.data.toList.isEmpty)))) := by
 have k0 := JAt.new w l d r
 have q0 := (Below.refl w.heap.size w).alloc (Nat.le_refl _) (.cells #[.string l, .string d, .string r] 117)
 have C0 := jd_Check l d r _ zl zd zr (hm.ret q0)
 obtain ⟨c, hc⟩ : ∃ c, chkP l.data.toList d.data.toList r.data.toList = c := ⟨_, rfl⟩
 rw [hc] at C0 ⊢
 clear hc
 cases c with
 | false =>
  have C := Lib.hid C0
  clear C0
  go_enter Tryz.func135, Tryz.ntmps135
  go_wp2_with fail
  refine C.out.mono ?_
  rintro e w1 ⟨rfl, hb⟩
  have q1 := q0.trans (hb.mono q0.size)
  clear hb
  go_wp2_with fail
  go_ret
  exact ⟨rfl, q1⟩
 | true =>
  have C := Lib.hid C0
  clear C0
  cases hl : l.data.toList.isEmpty with
  | true =>
   obtain rfl := nil_facts hl
   go_enter Tryz.func135, Tryz.ntmps135
   go_wp2_with fail
   refine C.out.mono ?_
   rintro e w1 ⟨rfl, hb⟩
   obtain ⟨x0, x1, x2, x3, x4⟩ := k0.ret hb
   have q1 := q0.trans (hb.mono q0.size)
   clear hb k0
   go_wp2_with fail
   go_ret
   exact ⟨rfl, q1⟩
  | false =>
   have el := cons_facts hl
   cases hr : r.data.toList.isEmpty with
   | true =>
    obtain rfl := nil_facts hr
    go_enter Tryz.func135, Tryz.ntmps135
    go_wp2_with fail
    refine C.out.mono ?_
    rintro e w1 ⟨rfl, hb⟩
    obtain ⟨x0, x1, x2, x3, x4⟩ := k0.ret hb
    have q1 := q0.trans (hb.mono q0.size)
    clear hb k0
    go_wp2_with fail
    go_ret
    exact ⟨rfl, q1⟩
   | false =>
    have er := cons_facts hr
    go_enter Tryz.func135, Tryz.ntmps135
    go_wp2_with fail
    refine C.out.mono ?_
    rintro e w1 ⟨rfl, hb⟩
    obtain ⟨x0, x1, x2, x3, x4⟩ := k0.ret hb
    have q1 := q0.trans (hb.mono q0.size)
    clear hb k0
    go_wp2_with fail
    go_ret
    exact ⟨rfl, q1⟩
set_option maxHeartbeats 4000000 in
theorem jd_Mine (l d r : ByteArray) (w : World) (zl : l.size ≤ 10000) (zd : d.size ≤ 10000) (zr : r.size ≤ 10000) (hm : ML w) :
  Calls Tryz.prog 115 #[jV l d r] w (Ret w (.bool (chkP l.data.toList d.data.toList r.data.toList && (!l.data.toList.isEmpty && r.data.toList.isEmpty)))) := by
 have k0 := JAt.new w l d r
 have q0 := (Below.refl w.heap.size w).alloc (Nat.le_refl _) (.cells #[.string l, .string d, .string r] 117)
 have C0 := jd_Check l d r _ zl zd zr (hm.ret q0)
 obtain ⟨c, hc⟩ : ∃ c, chkP l.data.toList d.data.toList r.data.toList = c := ⟨_, rfl⟩
 rw [hc] at C0 ⊢
 clear hc
 cases c with
 | false =>
  have C := Lib.hid C0
  clear C0
  go_enter Tryz.func115, Tryz.ntmps115
  go_wp2_with fail
  refine C.out.mono ?_
  rintro e w1 ⟨rfl, hb⟩
  have q1 := q0.trans (hb.mono q0.size)
  clear hb
  go_wp2_with fail
  go_ret
  exact ⟨rfl, q1⟩
 | true =>
  have C := Lib.hid C0
  clear C0
  cases hl : l.data.toList.isEmpty with
  | true =>
   obtain rfl := nil_facts hl
   go_enter Tryz.func115, Tryz.ntmps115
   go_wp2_with fail
   refine C.out.mono ?_
   rintro e w1 ⟨rfl, hb⟩
   obtain ⟨x0, x1, x2, x3, x4⟩ := k0.ret hb
   have q1 := q0.trans (hb.mono q0.size)
   clear hb k0
   go_wp2_with fail
   go_ret
   exact ⟨rfl, q1⟩
  | false =>
   have el := cons_facts hl
   cases hr : r.data.toList.isEmpty with
   | true =>
    obtain rfl := nil_facts hr
    go_enter Tryz.func115, Tryz.ntmps115
    go_wp2_with fail
    refine C.out.mono ?_
    rintro e w1 ⟨rfl, hb⟩
    obtain ⟨x0, x1, x2, x3, x4⟩ := k0.ret hb
    have q1 := q0.trans (hb.mono q0.size)
    clear hb k0
    go_wp2_with fail
    go_ret
    exact ⟨rfl, q1⟩
   | false =>
    have er := cons_facts hr
    go_enter Tryz.func115, Tryz.ntmps115
    go_wp2_with fail
    refine C.out.mono ?_
    rintro e w1 ⟨rfl, hb⟩
    obtain ⟨x0, x1, x2, x3, x4⟩ := k0.ret hb
    have q1 := q0.trans (hb.mono q0.size)
    clear hb k0
    go_wp2_with fail
    go_ret
    exact ⟨rfl, q1⟩
/-- the text as a value. -/
abbrev jB (l : List UInt8) : ByteArray := ⟨l.toArray⟩
def wrtB (l d r : List UInt8) : ByteArray := if chkP l d r then jB (txtP l d r) else ⟨#[]⟩
def wrtE (l d r : List UInt8) : Int := if chkP l d r then 0 else 8
set_option maxHeartbeats 4000000 in
theorem jd_Write (l d r : ByteArray) (w : World) (zl : l.size ≤ 10000) (zd : d.size ≤ 10000) (zr : r.size ≤ 10000) (hm : ML w) :
  Calls Tryz.prog 137 #[jV l d r] w (Ret w (.tuple #[.string (wrtB l.data.toList d.data.toList r.data.toList), .int .i64 (wrtE l.data.toList d.data.toList r.data.toList)])) := by
 have k0 := JAt.new w l d r
 have q0 := (Below.refl w.heap.size w).alloc (Nat.le_refl _) (.cells #[.string l, .string d, .string r] 117)
 have C0 := jd_Check l d r _ zl zd zr (hm.ret q0)
 unfold wrtB wrtE
 obtain ⟨c, hc⟩ : ∃ c, chkP l.data.toList d.data.toList r.data.toList = c := ⟨_, rfl⟩
 rw [hc] at C0 ⊢
 clear hc
 obtain ⟨T, hT⟩ : ∃ T, jB (txtP l.data.toList d.data.toList r.data.toList) = T := ⟨_, rfl⟩
 rw [hT]
 have HT := Lib.hid hT
 clear hT
 cases c with
 | false =>
  have C := Lib.hid C0
  clear C0
  go_enter Tryz.func137, Tryz.ntmps137
  go_wp2_with fail
  refine C.out.mono ?_
  rintro e w1 ⟨rfl, hb⟩
  have q1 := q0.trans (hb.mono q0.size)
  clear hb
  go_wp2_with fail
  go_ret2
  exact ⟨rfl, q1⟩
 | true =>
  have C := Lib.hid C0
  have n1 : (⟨#[64]⟩ : ByteArray).size = 1 := rfl
  have n2 : (⟨#[47]⟩ : ByteArray).size = 1 := rfl
  clear C0
  cases hl : l.data.toList.isEmpty with
  | true =>
   obtain rfl := nil_facts hl
   cases hr : r.data.toList.isEmpty with
   | true =>
    obtain rfl := nil_facts hr
    go_enter Tryz.func137, Tryz.ntmps137
    go_wp2_with fail
    refine C.out.mono ?_
    rintro e w1 ⟨rfl, hb⟩
    obtain ⟨x0, x1, x2, x3, x4⟩ := k0.ret hb
    have q1 := q0.trans (hb.mono q0.size)
    clear hb k0
    go_wp2_with fail
    go_ret2
    refine ⟨congrArg Ending.returned (congrArg Value.tuple ?_), q1⟩
    have : d = T := by rw [← HT.out]; apply str_ext; simp [txtP]
    rw [← this]; rfl
   | false =>
    have er := cons_facts hr
    go_enter Tryz.func137, Tryz.ntmps137
    go_wp2_with fail
    refine C.out.mono ?_
    rintro e w1 ⟨rfl, hb⟩
    obtain ⟨x0, x1, x2, x3, x4⟩ := k0.ret hb
    have q1 := q0.trans (hb.mono q0.size)
    clear hb k0
    go_wp2_with fail
    go_ret2
    refine ⟨congrArg Ending.returned (congrArg Value.tuple ?_), q1⟩
    have : d ++ (⟨#[47]⟩ ++ r) = T := by rw [← HT.out]; apply str_ext; simp [txtP, hr]
    rw [← this]; rfl
  | false =>
   have el := cons_facts hl
   cases hr : r.data.toList.isEmpty with
   | true =>
    obtain rfl := nil_facts hr
    go_enter Tryz.func137, Tryz.ntmps137
    go_wp2_with fail
    refine C.out.mono ?_
    rintro e w1 ⟨rfl, hb⟩
    obtain ⟨x0, x1, x2, x3, x4⟩ := k0.ret hb
    have q1 := q0.trans (hb.mono q0.size)
    clear hb k0
    go_wp2_with fail
    go_ret2
    refine ⟨congrArg Ending.returned (congrArg Value.tuple ?_), q1⟩
    have : l ++ ⟨#[64]⟩ ++ d = T := by rw [← HT.out]; apply str_ext; simp [txtP, hl]
    rw [← this]; rfl
   | false =>
    have er := cons_facts hr
    go_enter Tryz.func137, Tryz.ntmps137
    go_wp2_with fail
    refine C.out.mono ?_
    rintro e w1 ⟨rfl, hb⟩
    obtain ⟨x0, x1, x2, x3, x4⟩ := k0.ret hb
    have q1 := q0.trans (hb.mono q0.size)
    clear hb k0
    go_wp2_with fail
    go_ret2
    refine ⟨congrArg Ending.returned (congrArg Value.tuple ?_), q1⟩
    have : l ++ ⟨#[64]⟩ ++ d ++ (⟨#[47]⟩ ++ r) = T := by rw [← HT.out]; apply str_ext; simp [txtP, hl, hr]
    rw [← this]; rfl
end Go.Proofs.YtjgeiieiinmdnaaGreatDoor
namespace Go.Proofs.YtjgeiieiinmdnaaGreatDoor
open Go.RowKit Go.Lib

theorem JAt.set3 {L : Nat} {a b c : ByteArray} {w : World} (h : JAt L a b c w) (x y z : ByteArray) : JAt L x y z (((w.setCell ⟨L, 0, none⟩ (.string x)).setCell ⟨L, 1, none⟩ (.string y)).setCell ⟨L, 2, none⟩ (.string z)) := by
 obtain ⟨h0, h1, h2, h3, h4, h5, h6⟩ := h
 constructor <;> simp [go_sem, *]
theorem jset_below {B L : Nat} {w W : World} (h : Below B w W) (hL : B ≤ L) (x y z : Value) : Below B w (((W.setCell ⟨L, 0, none⟩ x).setCell ⟨L, 1, none⟩ y).setCell ⟨L, 2, none⟩ z) :=
 ((h.setCell (p := ⟨L, 0, none⟩) hL x).setCell (p := ⟨L, 1, none⟩) hL y).setCell (p := ⟨L, 2, none⟩) hL z
theorem ret_jid {fn : Func} {tmps : Array Value} {W : World} {R : Nat} {l d r : ByteArray} {e : Value} (h : fn.results = #[.cell 2 117, .tmp 3]) (h2 : tmps.getD 2 undef = .pointer (some ⟨R, 0, none⟩)) (h3 : tmps.getD 3 undef = e) (k : JAt R l d r W) :
  (results fn tmps).run Tryz.prog W = .ok (.tuple #[jV l d r, e]) W := by
 have c0 := k.c0
 have c1 := k.c1
 have c2 := k.c2
 rw [results_cell_tmp h, h2, h3]
 simp [go_sem, Result.andThen, c0, c1, c2]
set_option maxHeartbeats 4000000 in
theorem jd_Parse_tet (s A R Lo Y : ByteArray) (w : World)
  (C1 : ∀ w, Calls Tryz.prog 170 #[.string s, .string ⟨#[47]⟩] w (Ret w (.tuple #[.string A, .string R, .bool true])))
  (C2 : ∀ w, Calls Tryz.prog 171 #[.string A] w (Ret w (.string Lo)))
  (C3 : ∀ w, Calls Tryz.prog 170 #[.string Lo, .string ⟨#[64]⟩] w (Ret w (.tuple #[.string ⟨#[]⟩, .string Y, .bool true])))
   :
  Calls Tryz.prog 126 #[.string s] w (Ret w (.tuple #[jV ⟨#[]⟩ ⟨#[]⟩ ⟨#[]⟩, .int .i64 190])) := by
 have k0 := JAt.new w ⟨#[]⟩ ⟨#[]⟩ ⟨#[]⟩
 have q0 := (Below.refl w.heap.size w).alloc (Nat.le_refl _) (.cells #[.string ⟨#[]⟩, .string ⟨#[]⟩, .string ⟨#[]⟩] 117)
 have H1 := Lib.hid C1
 have H2 := Lib.hid C2
 have H3 := Lib.hid C3
 clear C1 C2 C3
 go_enter Tryz.func126, Tryz.ntmps126
 go_wp2_with fail
 refine (H1.out _).mono ?_
 rintro e w1 ⟨rfl, hb⟩
 have k1 := k0.ret hb
 have q1 := q0.trans (hb.mono q0.size)
 clear hb k0 q0
 go_wp2_with fail
 refine (H2.out _).mono ?_
 rintro e w2 ⟨rfl, hb⟩
 have k2 := k1.ret hb
 have q2 := q1.trans (hb.mono q1.size)
 clear hb k1 q1
 go_wp2_with fail
 refine (H3.out _).mono ?_
 rintro e w3 ⟨rfl, hb⟩
 obtain ⟨x0, x1, x2, x3, x4, x5, x6⟩ := k2.ret hb
 have q3 := q2.trans (hb.mono q2.size)
 clear hb k2 q2
 go_wp2_with fail
 refine bodyPost_ret (ret_jid rfl rfl rfl (((JAt.mk x0 x1 x2 x3 x4 x5 x6).set3 _ _ _).set3 _ _ _)) rfl ⟨rfl, jset_below (jset_below q3 (Nat.le_refl _) _ _ _) (Nat.le_refl _) _ _ _⟩
set_option maxHeartbeats 4000000 in
theorem jd_Parse_tef (s A R Lo Y : ByteArray) (w : World)
  (C1 : ∀ w, Calls Tryz.prog 170 #[.string s, .string ⟨#[47]⟩] w (Ret w (.tuple #[.string A, .string R, .bool false])))
  (C2 : ∀ w, Calls Tryz.prog 171 #[.string A] w (Ret w (.string Lo)))
  (C3 : ∀ w, Calls Tryz.prog 170 #[.string Lo, .string ⟨#[64]⟩] w (Ret w (.tuple #[.string ⟨#[]⟩, .string Y, .bool true])))
   :
  Calls Tryz.prog 126 #[.string s] w (Ret w (.tuple #[jV ⟨#[]⟩ ⟨#[]⟩ ⟨#[]⟩, .int .i64 190])) := by
 have k0 := JAt.new w ⟨#[]⟩ ⟨#[]⟩ ⟨#[]⟩
 have q0 := (Below.refl w.heap.size w).alloc (Nat.le_refl _) (.cells #[.string ⟨#[]⟩, .string ⟨#[]⟩, .string ⟨#[]⟩] 117)
 have H1 := Lib.hid C1
 have H2 := Lib.hid C2
 have H3 := Lib.hid C3
 clear C1 C2 C3
 go_enter Tryz.func126, Tryz.ntmps126
 go_wp2_with fail
 refine (H1.out _).mono ?_
 rintro e w1 ⟨rfl, hb⟩
 have k1 := k0.ret hb
 have q1 := q0.trans (hb.mono q0.size)
 clear hb k0 q0
 go_wp2_with fail
 refine (H2.out _).mono ?_
 rintro e w2 ⟨rfl, hb⟩
 have k2 := k1.ret hb
 have q2 := q1.trans (hb.mono q1.size)
 clear hb k1 q1
 go_wp2_with fail
 refine (H3.out _).mono ?_
 rintro e w3 ⟨rfl, hb⟩
 obtain ⟨x0, x1, x2, x3, x4, x5, x6⟩ := k2.ret hb
 have q3 := q2.trans (hb.mono q2.size)
 clear hb k2 q2
 go_wp2_with fail
 refine bodyPost_ret (ret_jid rfl rfl rfl (((JAt.mk x0 x1 x2 x3 x4 x5 x6).set3 _ _ _).set3 _ _ _)) rfl ⟨rfl, jset_below (jset_below q3 (Nat.le_refl _) _ _ _) (Nat.le_refl _) _ _ _⟩
set_option maxHeartbeats 4000000 in
theorem jd_Parse_tte (s A Lo X Y : ByteArray) (w : World)
  (C1 : ∀ w, Calls Tryz.prog 170 #[.string s, .string ⟨#[47]⟩] w (Ret w (.tuple #[.string A, .string ⟨#[]⟩, .bool true])))
  (C2 : ∀ w, Calls Tryz.prog 171 #[.string A] w (Ret w (.string Lo)))
  (C3 : ∀ w, Calls Tryz.prog 170 #[.string Lo, .string ⟨#[64]⟩] w (Ret w (.tuple #[.string X, .string Y, .bool true])))
  (eX : (X.toList == []) = false) :
  Calls Tryz.prog 126 #[.string s] w (Ret w (.tuple #[jV ⟨#[]⟩ ⟨#[]⟩ ⟨#[]⟩, .int .i64 190])) := by
 have k0 := JAt.new w ⟨#[]⟩ ⟨#[]⟩ ⟨#[]⟩
 have q0 := (Below.refl w.heap.size w).alloc (Nat.le_refl _) (.cells #[.string ⟨#[]⟩, .string ⟨#[]⟩, .string ⟨#[]⟩] 117)
 have H1 := Lib.hid C1
 have H2 := Lib.hid C2
 have H3 := Lib.hid C3
 clear C1 C2 C3
 go_enter Tryz.func126, Tryz.ntmps126
 go_wp2_with fail
 refine (H1.out _).mono ?_
 rintro e w1 ⟨rfl, hb⟩
 have k1 := k0.ret hb
 have q1 := q0.trans (hb.mono q0.size)
 clear hb k0 q0
 go_wp2_with fail
 refine (H2.out _).mono ?_
 rintro e w2 ⟨rfl, hb⟩
 have k2 := k1.ret hb
 have q2 := q1.trans (hb.mono q1.size)
 clear hb k1 q1
 go_wp2_with fail
 refine (H3.out _).mono ?_
 rintro e w3 ⟨rfl, hb⟩
 obtain ⟨x0, x1, x2, x3, x4, x5, x6⟩ := k2.ret hb
 have q3 := q2.trans (hb.mono q2.size)
 clear hb k2 q2
 go_wp2_with fail
 refine bodyPost_ret (ret_jid rfl rfl rfl (((JAt.mk x0 x1 x2 x3 x4 x5 x6).set3 _ _ _).set3 _ _ _)) rfl ⟨rfl, jset_below (jset_below q3 (Nat.le_refl _) _ _ _) (Nat.le_refl _) _ _ _⟩
set_option maxHeartbeats 4000000 in
theorem jd_Parse_ttT (s A R Lo X Y : ByteArray) (w : World) (hm : ML w)
  (C1 : ∀ w, Calls Tryz.prog 170 #[.string s, .string ⟨#[47]⟩] w (Ret w (.tuple #[.string A, .string R, .bool true])))
  (C2 : ∀ w, Calls Tryz.prog 171 #[.string A] w (Ret w (.string Lo)))
  (C3 : ∀ w, Calls Tryz.prog 170 #[.string Lo, .string ⟨#[64]⟩] w (Ret w (.tuple #[.string X, .string Y, .bool true])))
  (eX : (X.toList == []) = false) (eR : (R.toList == []) = false) (C4 : ∀ w : World, ML w → Calls Tryz.prog 91 #[jV X Y R] w (Ret w (.int .i64 0))) :
  Calls Tryz.prog 126 #[.string s] w (Ret w (.tuple #[jV X Y R, .int .i64 0])) := by
 have k0 := JAt.new w ⟨#[]⟩ ⟨#[]⟩ ⟨#[]⟩
 have q0 := (Below.refl w.heap.size w).alloc (Nat.le_refl _) (.cells #[.string ⟨#[]⟩, .string ⟨#[]⟩, .string ⟨#[]⟩] 117)
 have H1 := Lib.hid C1
 have H2 := Lib.hid C2
 have H3 := Lib.hid C3
 have H4 := Lib.hid C4
 clear C1 C2 C3 C4
 go_enter Tryz.func126, Tryz.ntmps126
 go_wp2_with fail
 refine (H1.out _).mono ?_
 rintro e w1 ⟨rfl, hb⟩
 have k1 := k0.ret hb
 have q1 := q0.trans (hb.mono q0.size)
 clear hb k0 q0
 go_wp2_with fail
 refine (H2.out _).mono ?_
 rintro e w2 ⟨rfl, hb⟩
 have k2 := k1.ret hb
 have q2 := q1.trans (hb.mono q1.size)
 clear hb k1 q1
 go_wp2_with fail
 refine (H3.out _).mono ?_
 rintro e w3 ⟨rfl, hb⟩
 have k3 := (k2.ret hb).set3 X Y R
 obtain ⟨x0, x1, x2, x3, x4, x5, x6⟩ := k2.ret hb
 have q3 := q2.trans (hb.mono q2.size)
 clear hb k2 q2
 have q4 := jset_below q3 (Nat.le_refl _) (.string X) (.string Y) (.string R)
 have HC := Lib.hid (H4.out _ (hm.ret q4))
 clear H4
 go_wp2_with fail
 refine HC.out.mono ?_
 rintro e w4 ⟨rfl, hb⟩
 obtain ⟨y0, y1, y2, y3, y4, y5, y6⟩ := k3.ret hb
 have q5 := q4.trans (hb.mono q4.size)
 clear hb k3 q4 HC x0 x1 x2 x3 x4 x5 x6 q3
 go_wp2_with fail
 refine bodyPost_ret (ret_jid rfl rfl rfl ((JAt.mk y0 y1 y2 y3 y4 y5 y6).set3 _ _ _)) rfl ⟨rfl, jset_below q5 (Nat.le_refl _) _ _ _⟩
set_option maxHeartbeats 4000000 in
theorem jd_Parse_ttF (s A R Lo X Y : ByteArray) (w : World) (hm : ML w)
  (C1 : ∀ w, Calls Tryz.prog 170 #[.string s, .string ⟨#[47]⟩] w (Ret w (.tuple #[.string A, .string R, .bool true])))
  (C2 : ∀ w, Calls Tryz.prog 171 #[.string A] w (Ret w (.string Lo)))
  (C3 : ∀ w, Calls Tryz.prog 170 #[.string Lo, .string ⟨#[64]⟩] w (Ret w (.tuple #[.string X, .string Y, .bool true])))
  (eX : (X.toList == []) = false) (eR : (R.toList == []) = false) (C4 : ∀ w : World, ML w → Calls Tryz.prog 91 #[jV X Y R] w (Ret w (.int .i64 8))) :
  Calls Tryz.prog 126 #[.string s] w (Ret w (.tuple #[jV ⟨#[]⟩ ⟨#[]⟩ ⟨#[]⟩, .int .i64 190])) := by
 have k0 := JAt.new w ⟨#[]⟩ ⟨#[]⟩ ⟨#[]⟩
 have q0 := (Below.refl w.heap.size w).alloc (Nat.le_refl _) (.cells #[.string ⟨#[]⟩, .string ⟨#[]⟩, .string ⟨#[]⟩] 117)
 have H1 := Lib.hid C1
 have H2 := Lib.hid C2
 have H3 := Lib.hid C3
 have H4 := Lib.hid C4
 clear C1 C2 C3 C4
 go_enter Tryz.func126, Tryz.ntmps126
 go_wp2_with fail
 refine (H1.out _).mono ?_
 rintro e w1 ⟨rfl, hb⟩
 have k1 := k0.ret hb
 have q1 := q0.trans (hb.mono q0.size)
 clear hb k0 q0
 go_wp2_with fail
 refine (H2.out _).mono ?_
 rintro e w2 ⟨rfl, hb⟩
 have k2 := k1.ret hb
 have q2 := q1.trans (hb.mono q1.size)
 clear hb k1 q1
 go_wp2_with fail
 refine (H3.out _).mono ?_
 rintro e w3 ⟨rfl, hb⟩
 have k3 := (k2.ret hb).set3 X Y R
 obtain ⟨x0, x1, x2, x3, x4, x5, x6⟩ := k2.ret hb
 have q3 := q2.trans (hb.mono q2.size)
 clear hb k2 q2
 have q4 := jset_below q3 (Nat.le_refl _) (.string X) (.string Y) (.string R)
 have HC := Lib.hid (H4.out _ (hm.ret q4))
 clear H4
 go_wp2_with fail
 refine HC.out.mono ?_
 rintro e w4 ⟨rfl, hb⟩
 obtain ⟨y0, y1, y2, y3, y4, y5, y6⟩ := k3.ret hb
 have q5 := q4.trans (hb.mono q4.size)
 clear hb k3 q4 HC x0 x1 x2 x3 x4 x5 x6 q3
 go_wp2_with fail
 refine bodyPost_ret (ret_jid rfl rfl rfl ((JAt.mk y0 y1 y2 y3 y4 y5 y6).set3 _ _ _)) rfl ⟨rfl, jset_below q5 (Nat.le_refl _) _ _ _⟩
set_option maxHeartbeats 4000000 in
theorem jd_Parse_tfT (s A R Lo X Y : ByteArray) (w : World) (hm : ML w)
  (C1 : ∀ w, Calls Tryz.prog 170 #[.string s, .string ⟨#[47]⟩] w (Ret w (.tuple #[.string A, .string R, .bool false])))
  (C2 : ∀ w, Calls Tryz.prog 171 #[.string A] w (Ret w (.string Lo)))
  (C3 : ∀ w, Calls Tryz.prog 170 #[.string Lo, .string ⟨#[64]⟩] w (Ret w (.tuple #[.string X, .string Y, .bool true])))
  (eX : (X.toList == []) = false) (C4 : ∀ w : World, ML w → Calls Tryz.prog 91 #[jV X Y R] w (Ret w (.int .i64 0))) :
  Calls Tryz.prog 126 #[.string s] w (Ret w (.tuple #[jV X Y R, .int .i64 0])) := by
 have k0 := JAt.new w ⟨#[]⟩ ⟨#[]⟩ ⟨#[]⟩
 have q0 := (Below.refl w.heap.size w).alloc (Nat.le_refl _) (.cells #[.string ⟨#[]⟩, .string ⟨#[]⟩, .string ⟨#[]⟩] 117)
 have H1 := Lib.hid C1
 have H2 := Lib.hid C2
 have H3 := Lib.hid C3
 have H4 := Lib.hid C4
 clear C1 C2 C3 C4
 go_enter Tryz.func126, Tryz.ntmps126
 go_wp2_with fail
 refine (H1.out _).mono ?_
 rintro e w1 ⟨rfl, hb⟩
 have k1 := k0.ret hb
 have q1 := q0.trans (hb.mono q0.size)
 clear hb k0 q0
 go_wp2_with fail
 refine (H2.out _).mono ?_
 rintro e w2 ⟨rfl, hb⟩
 have k2 := k1.ret hb
 have q2 := q1.trans (hb.mono q1.size)
 clear hb k1 q1
 go_wp2_with fail
 refine (H3.out _).mono ?_
 rintro e w3 ⟨rfl, hb⟩
 have k3 := (k2.ret hb).set3 X Y R
 obtain ⟨x0, x1, x2, x3, x4, x5, x6⟩ := k2.ret hb
 have q3 := q2.trans (hb.mono q2.size)
 clear hb k2 q2
 have q4 := jset_below q3 (Nat.le_refl _) (.string X) (.string Y) (.string R)
 have HC := Lib.hid (H4.out _ (hm.ret q4))
 clear H4
 go_wp2_with fail
 refine HC.out.mono ?_
 rintro e w4 ⟨rfl, hb⟩
 obtain ⟨y0, y1, y2, y3, y4, y5, y6⟩ := k3.ret hb
 have q5 := q4.trans (hb.mono q4.size)
 clear hb k3 q4 HC x0 x1 x2 x3 x4 x5 x6 q3
 go_wp2_with fail
 refine bodyPost_ret (ret_jid rfl rfl rfl ((JAt.mk y0 y1 y2 y3 y4 y5 y6).set3 _ _ _)) rfl ⟨rfl, jset_below q5 (Nat.le_refl _) _ _ _⟩
set_option maxHeartbeats 4000000 in
theorem jd_Parse_tfF (s A R Lo X Y : ByteArray) (w : World) (hm : ML w)
  (C1 : ∀ w, Calls Tryz.prog 170 #[.string s, .string ⟨#[47]⟩] w (Ret w (.tuple #[.string A, .string R, .bool false])))
  (C2 : ∀ w, Calls Tryz.prog 171 #[.string A] w (Ret w (.string Lo)))
  (C3 : ∀ w, Calls Tryz.prog 170 #[.string Lo, .string ⟨#[64]⟩] w (Ret w (.tuple #[.string X, .string Y, .bool true])))
  (eX : (X.toList == []) = false) (C4 : ∀ w : World, ML w → Calls Tryz.prog 91 #[jV X Y R] w (Ret w (.int .i64 8))) :
  Calls Tryz.prog 126 #[.string s] w (Ret w (.tuple #[jV ⟨#[]⟩ ⟨#[]⟩ ⟨#[]⟩, .int .i64 190])) := by
 have k0 := JAt.new w ⟨#[]⟩ ⟨#[]⟩ ⟨#[]⟩
 have q0 := (Below.refl w.heap.size w).alloc (Nat.le_refl _) (.cells #[.string ⟨#[]⟩, .string ⟨#[]⟩, .string ⟨#[]⟩] 117)
 have H1 := Lib.hid C1
 have H2 := Lib.hid C2
 have H3 := Lib.hid C3
 have H4 := Lib.hid C4
 clear C1 C2 C3 C4
 go_enter Tryz.func126, Tryz.ntmps126
 go_wp2_with fail
 refine (H1.out _).mono ?_
 rintro e w1 ⟨rfl, hb⟩
 have k1 := k0.ret hb
 have q1 := q0.trans (hb.mono q0.size)
 clear hb k0 q0
 go_wp2_with fail
 refine (H2.out _).mono ?_
 rintro e w2 ⟨rfl, hb⟩
 have k2 := k1.ret hb
 have q2 := q1.trans (hb.mono q1.size)
 clear hb k1 q1
 go_wp2_with fail
 refine (H3.out _).mono ?_
 rintro e w3 ⟨rfl, hb⟩
 have k3 := (k2.ret hb).set3 X Y R
 obtain ⟨x0, x1, x2, x3, x4, x5, x6⟩ := k2.ret hb
 have q3 := q2.trans (hb.mono q2.size)
 clear hb k2 q2
 have q4 := jset_below q3 (Nat.le_refl _) (.string X) (.string Y) (.string R)
 have HC := Lib.hid (H4.out _ (hm.ret q4))
 clear H4
 go_wp2_with fail
 refine HC.out.mono ?_
 rintro e w4 ⟨rfl, hb⟩
 obtain ⟨y0, y1, y2, y3, y4, y5, y6⟩ := k3.ret hb
 have q5 := q4.trans (hb.mono q4.size)
 clear hb k3 q4 HC x0 x1 x2 x3 x4 x5 x6 q3
 go_wp2_with fail
 refine bodyPost_ret (ret_jid rfl rfl rfl ((JAt.mk y0 y1 y2 y3 y4 y5 y6).set3 _ _ _)) rfl ⟨rfl, jset_below q5 (Nat.le_refl _) _ _ _⟩
set_option maxHeartbeats 4000000 in
theorem jd_Parse_fte (s A Lo X Y : ByteArray) (w : World)
  (C1 : ∀ w, Calls Tryz.prog 170 #[.string s, .string ⟨#[47]⟩] w (Ret w (.tuple #[.string A, .string ⟨#[]⟩, .bool true])))
  (C2 : ∀ w, Calls Tryz.prog 171 #[.string A] w (Ret w (.string Lo)))
  (C3 : ∀ w, Calls Tryz.prog 170 #[.string Lo, .string ⟨#[64]⟩] w (Ret w (.tuple #[.string X, .string Y, .bool false])))
   :
  Calls Tryz.prog 126 #[.string s] w (Ret w (.tuple #[jV ⟨#[]⟩ ⟨#[]⟩ ⟨#[]⟩, .int .i64 190])) := by
 have k0 := JAt.new w ⟨#[]⟩ ⟨#[]⟩ ⟨#[]⟩
 have q0 := (Below.refl w.heap.size w).alloc (Nat.le_refl _) (.cells #[.string ⟨#[]⟩, .string ⟨#[]⟩, .string ⟨#[]⟩] 117)
 have H1 := Lib.hid C1
 have H2 := Lib.hid C2
 have H3 := Lib.hid C3
 clear C1 C2 C3
 go_enter Tryz.func126, Tryz.ntmps126
 go_wp2_with fail
 refine (H1.out _).mono ?_
 rintro e w1 ⟨rfl, hb⟩
 have k1 := k0.ret hb
 have q1 := q0.trans (hb.mono q0.size)
 clear hb k0 q0
 go_wp2_with fail
 refine (H2.out _).mono ?_
 rintro e w2 ⟨rfl, hb⟩
 have k2 := k1.ret hb
 have q2 := q1.trans (hb.mono q1.size)
 clear hb k1 q1
 go_wp2_with fail
 refine (H3.out _).mono ?_
 rintro e w3 ⟨rfl, hb⟩
 obtain ⟨x0, x1, x2, x3, x4, x5, x6⟩ := k2.ret hb
 have q3 := q2.trans (hb.mono q2.size)
 clear hb k2 q2
 go_wp2_with fail
 refine bodyPost_ret (ret_jid rfl rfl rfl (((JAt.mk x0 x1 x2 x3 x4 x5 x6).set3 _ _ _).set3 _ _ _)) rfl ⟨rfl, jset_below (jset_below q3 (Nat.le_refl _) _ _ _) (Nat.le_refl _) _ _ _⟩
set_option maxHeartbeats 4000000 in
theorem jd_Parse_ftT (s A R Lo X Y : ByteArray) (w : World) (hm : ML w)
  (C1 : ∀ w, Calls Tryz.prog 170 #[.string s, .string ⟨#[47]⟩] w (Ret w (.tuple #[.string A, .string R, .bool true])))
  (C2 : ∀ w, Calls Tryz.prog 171 #[.string A] w (Ret w (.string Lo)))
  (C3 : ∀ w, Calls Tryz.prog 170 #[.string Lo, .string ⟨#[64]⟩] w (Ret w (.tuple #[.string X, .string Y, .bool false])))
  (eR : (R.toList == []) = false) (C4 : ∀ w : World, ML w → Calls Tryz.prog 91 #[jV ⟨#[]⟩ Lo R] w (Ret w (.int .i64 0))) :
  Calls Tryz.prog 126 #[.string s] w (Ret w (.tuple #[jV ⟨#[]⟩ Lo R, .int .i64 0])) := by
 have k0 := JAt.new w ⟨#[]⟩ ⟨#[]⟩ ⟨#[]⟩
 have q0 := (Below.refl w.heap.size w).alloc (Nat.le_refl _) (.cells #[.string ⟨#[]⟩, .string ⟨#[]⟩, .string ⟨#[]⟩] 117)
 have H1 := Lib.hid C1
 have H2 := Lib.hid C2
 have H3 := Lib.hid C3
 have H4 := Lib.hid C4
 clear C1 C2 C3 C4
 go_enter Tryz.func126, Tryz.ntmps126
 go_wp2_with fail
 refine (H1.out _).mono ?_
 rintro e w1 ⟨rfl, hb⟩
 have k1 := k0.ret hb
 have q1 := q0.trans (hb.mono q0.size)
 clear hb k0 q0
 go_wp2_with fail
 refine (H2.out _).mono ?_
 rintro e w2 ⟨rfl, hb⟩
 have k2 := k1.ret hb
 have q2 := q1.trans (hb.mono q1.size)
 clear hb k1 q1
 go_wp2_with fail
 refine (H3.out _).mono ?_
 rintro e w3 ⟨rfl, hb⟩
 have k3 := (k2.ret hb).set3 ⟨#[]⟩ Lo R
 obtain ⟨x0, x1, x2, x3, x4, x5, x6⟩ := k2.ret hb
 have q3 := q2.trans (hb.mono q2.size)
 clear hb k2 q2
 have q4 := jset_below q3 (Nat.le_refl _) (.string ⟨#[]⟩) (.string Lo) (.string R)
 have HC := Lib.hid (H4.out _ (hm.ret q4))
 clear H4
 go_wp2_with fail
 refine HC.out.mono ?_
 rintro e w4 ⟨rfl, hb⟩
 obtain ⟨y0, y1, y2, y3, y4, y5, y6⟩ := k3.ret hb
 have q5 := q4.trans (hb.mono q4.size)
 clear hb k3 q4 HC x0 x1 x2 x3 x4 x5 x6 q3
 go_wp2_with fail
 refine bodyPost_ret (ret_jid rfl rfl rfl ((JAt.mk y0 y1 y2 y3 y4 y5 y6).set3 _ _ _)) rfl ⟨rfl, jset_below q5 (Nat.le_refl _) _ _ _⟩
set_option maxHeartbeats 4000000 in
theorem jd_Parse_ftF (s A R Lo X Y : ByteArray) (w : World) (hm : ML w)
  (C1 : ∀ w, Calls Tryz.prog 170 #[.string s, .string ⟨#[47]⟩] w (Ret w (.tuple #[.string A, .string R, .bool true])))
  (C2 : ∀ w, Calls Tryz.prog 171 #[.string A] w (Ret w (.string Lo)))
  (C3 : ∀ w, Calls Tryz.prog 170 #[.string Lo, .string ⟨#[64]⟩] w (Ret w (.tuple #[.string X, .string Y, .bool false])))
  (eR : (R.toList == []) = false) (C4 : ∀ w : World, ML w → Calls Tryz.prog 91 #[jV ⟨#[]⟩ Lo R] w (Ret w (.int .i64 8))) :
  Calls Tryz.prog 126 #[.string s] w (Ret w (.tuple #[jV ⟨#[]⟩ ⟨#[]⟩ ⟨#[]⟩, .int .i64 190])) := by
 have k0 := JAt.new w ⟨#[]⟩ ⟨#[]⟩ ⟨#[]⟩
 have q0 := (Below.refl w.heap.size w).alloc (Nat.le_refl _) (.cells #[.string ⟨#[]⟩, .string ⟨#[]⟩, .string ⟨#[]⟩] 117)
 have H1 := Lib.hid C1
 have H2 := Lib.hid C2
 have H3 := Lib.hid C3
 have H4 := Lib.hid C4
 clear C1 C2 C3 C4
 go_enter Tryz.func126, Tryz.ntmps126
 go_wp2_with fail
 refine (H1.out _).mono ?_
 rintro e w1 ⟨rfl, hb⟩
 have k1 := k0.ret hb
 have q1 := q0.trans (hb.mono q0.size)
 clear hb k0 q0
 go_wp2_with fail
 refine (H2.out _).mono ?_
 rintro e w2 ⟨rfl, hb⟩
 have k2 := k1.ret hb
 have q2 := q1.trans (hb.mono q1.size)
 clear hb k1 q1
 go_wp2_with fail
 refine (H3.out _).mono ?_
 rintro e w3 ⟨rfl, hb⟩
 have k3 := (k2.ret hb).set3 ⟨#[]⟩ Lo R
 obtain ⟨x0, x1, x2, x3, x4, x5, x6⟩ := k2.ret hb
 have q3 := q2.trans (hb.mono q2.size)
 clear hb k2 q2
 have q4 := jset_below q3 (Nat.le_refl _) (.string ⟨#[]⟩) (.string Lo) (.string R)
 have HC := Lib.hid (H4.out _ (hm.ret q4))
 clear H4
 go_wp2_with fail
 refine HC.out.mono ?_
 rintro e w4 ⟨rfl, hb⟩
 obtain ⟨y0, y1, y2, y3, y4, y5, y6⟩ := k3.ret hb
 have q5 := q4.trans (hb.mono q4.size)
 clear hb k3 q4 HC x0 x1 x2 x3 x4 x5 x6 q3
 go_wp2_with fail
 refine bodyPost_ret (ret_jid rfl rfl rfl ((JAt.mk y0 y1 y2 y3 y4 y5 y6).set3 _ _ _)) rfl ⟨rfl, jset_below q5 (Nat.le_refl _) _ _ _⟩
set_option maxHeartbeats 4000000 in
theorem jd_Parse_ffT (s A R Lo X Y : ByteArray) (w : World) (hm : ML w)
  (C1 : ∀ w, Calls Tryz.prog 170 #[.string s, .string ⟨#[47]⟩] w (Ret w (.tuple #[.string A, .string R, .bool false])))
  (C2 : ∀ w, Calls Tryz.prog 171 #[.string A] w (Ret w (.string Lo)))
  (C3 : ∀ w, Calls Tryz.prog 170 #[.string Lo, .string ⟨#[64]⟩] w (Ret w (.tuple #[.string X, .string Y, .bool false])))
  (C4 : ∀ w : World, ML w → Calls Tryz.prog 91 #[jV ⟨#[]⟩ Lo R] w (Ret w (.int .i64 0))) :
  Calls Tryz.prog 126 #[.string s] w (Ret w (.tuple #[jV ⟨#[]⟩ Lo R, .int .i64 0])) := by
 have k0 := JAt.new w ⟨#[]⟩ ⟨#[]⟩ ⟨#[]⟩
 have q0 := (Below.refl w.heap.size w).alloc (Nat.le_refl _) (.cells #[.string ⟨#[]⟩, .string ⟨#[]⟩, .string ⟨#[]⟩] 117)
 have H1 := Lib.hid C1
 have H2 := Lib.hid C2
 have H3 := Lib.hid C3
 have H4 := Lib.hid C4
 clear C1 C2 C3 C4
 go_enter Tryz.func126, Tryz.ntmps126
 go_wp2_with fail
 refine (H1.out _).mono ?_
 rintro e w1 ⟨rfl, hb⟩
 have k1 := k0.ret hb
 have q1 := q0.trans (hb.mono q0.size)
 clear hb k0 q0
 go_wp2_with fail
 refine (H2.out _).mono ?_
 rintro e w2 ⟨rfl, hb⟩
 have k2 := k1.ret hb
 have q2 := q1.trans (hb.mono q1.size)
 clear hb k1 q1
 go_wp2_with fail
 refine (H3.out _).mono ?_
 rintro e w3 ⟨rfl, hb⟩
 have k3 := (k2.ret hb).set3 ⟨#[]⟩ Lo R
 obtain ⟨x0, x1, x2, x3, x4, x5, x6⟩ := k2.ret hb
 have q3 := q2.trans (hb.mono q2.size)
 clear hb k2 q2
 have q4 := jset_below q3 (Nat.le_refl _) (.string ⟨#[]⟩) (.string Lo) (.string R)
 have HC := Lib.hid (H4.out _ (hm.ret q4))
 clear H4
 go_wp2_with fail
 refine HC.out.mono ?_
 rintro e w4 ⟨rfl, hb⟩
 obtain ⟨y0, y1, y2, y3, y4, y5, y6⟩ := k3.ret hb
 have q5 := q4.trans (hb.mono q4.size)
 clear hb k3 q4 HC x0 x1 x2 x3 x4 x5 x6 q3
 go_wp2_with fail
 refine bodyPost_ret (ret_jid rfl rfl rfl ((JAt.mk y0 y1 y2 y3 y4 y5 y6).set3 _ _ _)) rfl ⟨rfl, jset_below q5 (Nat.le_refl _) _ _ _⟩
set_option maxHeartbeats 4000000 in
theorem jd_Parse_ffF (s A R Lo X Y : ByteArray) (w : World) (hm : ML w)
  (C1 : ∀ w, Calls Tryz.prog 170 #[.string s, .string ⟨#[47]⟩] w (Ret w (.tuple #[.string A, .string R, .bool false])))
  (C2 : ∀ w, Calls Tryz.prog 171 #[.string A] w (Ret w (.string Lo)))
  (C3 : ∀ w, Calls Tryz.prog 170 #[.string Lo, .string ⟨#[64]⟩] w (Ret w (.tuple #[.string X, .string Y, .bool false])))
  (C4 : ∀ w : World, ML w → Calls Tryz.prog 91 #[jV ⟨#[]⟩ Lo R] w (Ret w (.int .i64 8))) :
  Calls Tryz.prog 126 #[.string s] w (Ret w (.tuple #[jV ⟨#[]⟩ ⟨#[]⟩ ⟨#[]⟩, .int .i64 190])) := by
 have k0 := JAt.new w ⟨#[]⟩ ⟨#[]⟩ ⟨#[]⟩
 have q0 := (Below.refl w.heap.size w).alloc (Nat.le_refl _) (.cells #[.string ⟨#[]⟩, .string ⟨#[]⟩, .string ⟨#[]⟩] 117)
 have H1 := Lib.hid C1
 have H2 := Lib.hid C2
 have H3 := Lib.hid C3
 have H4 := Lib.hid C4
 clear C1 C2 C3 C4
 go_enter Tryz.func126, Tryz.ntmps126
 go_wp2_with fail
 refine (H1.out _).mono ?_
 rintro e w1 ⟨rfl, hb⟩
 have k1 := k0.ret hb
 have q1 := q0.trans (hb.mono q0.size)
 clear hb k0 q0
 go_wp2_with fail
 refine (H2.out _).mono ?_
 rintro e w2 ⟨rfl, hb⟩
 have k2 := k1.ret hb
 have q2 := q1.trans (hb.mono q1.size)
 clear hb k1 q1
 go_wp2_with fail
 refine (H3.out _).mono ?_
 rintro e w3 ⟨rfl, hb⟩
 have k3 := (k2.ret hb).set3 ⟨#[]⟩ Lo R
 obtain ⟨x0, x1, x2, x3, x4, x5, x6⟩ := k2.ret hb
 have q3 := q2.trans (hb.mono q2.size)
 clear hb k2 q2
 have q4 := jset_below q3 (Nat.le_refl _) (.string ⟨#[]⟩) (.string Lo) (.string R)
 have HC := Lib.hid (H4.out _ (hm.ret q4))
 clear H4
 go_wp2_with fail
 refine HC.out.mono ?_
 rintro e w4 ⟨rfl, hb⟩
 obtain ⟨y0, y1, y2, y3, y4, y5, y6⟩ := k3.ret hb
 have q5 := q4.trans (hb.mono q4.size)
 clear hb k3 q4 HC x0 x1 x2 x3 x4 x5 x6 q3
 go_wp2_with fail
 refine bodyPost_ret (ret_jid rfl rfl rfl ((JAt.mk y0 y1 y2 y3 y4 y5 y6).set3 _ _ _)) rfl ⟨rfl, jset_below q5 (Nat.le_refl _) _ _ _⟩
end Go.Proofs.YtjgeiieiinmdnaaGreatDoor
namespace Go.Proofs.YtjgeiieiinmdnaaGreatDoor
open Go.RowKit Go.Lib

theorem jB_list (l : List UInt8) : (jB l).data.toList = l := by simp
theorem jB_size (l : List UInt8) : (jB l).size = l.length := by
 rw [← size_toList, jB_list]
theorem len_cA (c : UInt8) (l : List UInt8) : (cA c l).length ≤ l.length := by
 unfold cA
 exact (List.takeWhile_sublist _).length_le
theorem len_cR (c : UInt8) (l : List UInt8) : (cR c l).length ≤ l.length := by
 unfold cR
 rw [List.length_drop]
 have := (List.dropWhile_sublist (l := l) (· != c)).length_le
 omega
theorem len_low (l : List UInt8) : (lowL l).length = l.length := by simp [lowL]
theorem len_lowA (l : List UInt8) : (lowA l).length ≤ l.length := by
 unfold lowA
 rw [len_low]
 exact len_cA 47 l
theorem jB_ne {l : List UInt8} (h : l.isEmpty = false) : ((jB l).toList == []) = false := by
 rw [Lib.toList_data, jB_list]
 cases l with
 | nil => cases h
 | cons a l => rfl
/-- what Parse answers. -/
def prsV (l : List UInt8) : Value := if prsP l = true then .tuple #[jV (jB (jLoc l)) (jB (jDom l)) (jB (jRes l)), .int .i64 0] else .tuple #[jV ⟨#[]⟩ ⟨#[]⟩ ⟨#[]⟩, .int .i64 190]
theorem jd_Parse (s : ByteArray) (w : World) (hs : s.size ≤ 10000) (hm : ML w) :
  Calls Tryz.prog 126 #[.string s] w (Ret w (prsV s.data.toList)) := by
 have C1 := fun w => st_Cut1 s 47 w (by omega)
 have hz := size_toList s
 obtain ⟨l, hl⟩ : ∃ l, s.data.toList = l := ⟨_, rfl⟩
 rw [hl] at C1 hz ⊢
 have zA := len_cA 47 l
 have zR := len_cR 47 l
 have zLo := len_lowA l
 have zX := len_cA 64 (lowA l)
 have zY := len_cR 64 (lowA l)
 have C2 := fun w => as_Lower (jB (cA 47 l)) w (by rw [jB_size]; omega)
 rw [jB_list] at C2
 have C3 := fun w => st_Cut1 (jB (lowA l)) 64 w (by rw [jB_size]; omega)
 rw [jB_list] at C3
 have C4 : ∀ a b c : List UInt8, a.length ≤ 10000 → b.length ≤ 10000 → c.length ≤ 10000 → ∀ w : World, ML w → Calls Tryz.prog 91 #[jV (jB a) (jB b) (jB c)] w (Ret w (.int .i64 (if chkP a b c = true then 0 else 8))) := by
  intro a b c za zb zc w hm
  have := jd_Check (jB a) (jB b) (jB c) w (by rw [jB_size]; exact za) (by rw [jB_size]; exact zb) (by rw [jB_size]; exact zc) hm
  rw [jB_list, jB_list, jB_list] at this
  exact this
 unfold prsV
 cases hh : (lowA l).contains 64 with
 | true =>
  have eL : jLoc l = cA 64 (lowA l) := by unfold jLoc; rw [hh]; rfl
  have eD : jDom l = cR 64 (lowA l) := by unfold jDom; rw [hh]; rfl
  rw [hh] at C3
  cases hx : (jLoc l).isEmpty with
  | true =>
   have hp : prsP l = false := by unfold prsP; rw [hh, hx]; rfl
   rw [hp]
   rw [show cA 64 (lowA l) = [] by rw [← eL]; exact List.isEmpty_iff.1 hx] at C3
   cases hb : l.contains 47 with
   | true => rw [hb] at C1; exact jd_Parse_tet s _ _ _ _ w C1 C2 C3
   | false => rw [hb] at C1; exact jd_Parse_tef s _ _ _ _ w C1 C2 C3
  | false =>
   have eX : ((jB (cA 64 (lowA l))).toList == []) = false := jB_ne (by rw [← eL]; exact hx)
   cases hb : l.contains 47 with
   | true =>
    rw [hb] at C1
    cases hr : (jRes l).isEmpty with
    | true =>
     have hp : prsP l = false := by unfold prsP; rw [hh, hx, hb, hr]; rfl
     rw [hp]
     rw [show cR 47 l = [] from List.isEmpty_iff.1 hr] at C1
     exact jd_Parse_tte s _ _ _ _ w C1 C2 C3 eX
    | false =>
     have hp : prsP l = chkP (jLoc l) (jDom l) (jRes l) := by unfold prsP; rw [hh, hx, hb, hr]; rfl
     have C5 := C4 (jLoc l) (jDom l) (jRes l) (by rw [eL]; omega) (by rw [eD]; omega) (by unfold jRes; omega)
     rw [hp]
     rw [eL, eD] at C5 ⊢
     cases hc : chkP (cA 64 (lowA l)) (cR 64 (lowA l)) (jRes l) with
     | true => rw [hc] at C5; exact jd_Parse_ttT s _ _ _ _ _ w hm C1 C2 C3 eX (jB_ne hr) C5
     | false => rw [hc] at C5; exact jd_Parse_ttF s _ _ _ _ _ w hm C1 C2 C3 eX (jB_ne hr) C5
   | false =>
    rw [hb] at C1
    have hp : prsP l = chkP (jLoc l) (jDom l) (jRes l) := by unfold prsP; rw [hh, hx, hb]; rfl
    have C5 := C4 (jLoc l) (jDom l) (jRes l) (by rw [eL]; omega) (by rw [eD]; omega) (by unfold jRes; omega)
    rw [hp]
    rw [eL, eD] at C5 ⊢
    cases hc : chkP (cA 64 (lowA l)) (cR 64 (lowA l)) (jRes l) with
    | true => rw [hc] at C5; exact jd_Parse_tfT s _ _ _ _ _ w hm C1 C2 C3 eX C5
    | false => rw [hc] at C5; exact jd_Parse_tfF s _ _ _ _ _ w hm C1 C2 C3 eX C5
 | false =>
  have eL : jLoc l = [] := by unfold jLoc; rw [hh]; rfl
  have eD : jDom l = lowA l := by unfold jDom; rw [hh]; rfl
  rw [hh] at C3
  cases hb : l.contains 47 with
  | true =>
   rw [hb] at C1
   cases hr : (jRes l).isEmpty with
   | true =>
    have hp : prsP l = false := by unfold prsP; rw [hh, hb, hr]; rfl
    rw [hp]
    rw [show cR 47 l = [] from List.isEmpty_iff.1 hr] at C1
    exact jd_Parse_fte s _ _ _ _ w C1 C2 C3
   | false =>
    have hp : prsP l = chkP (jLoc l) (jDom l) (jRes l) := by unfold prsP; rw [hh, hb, hr]; rfl
    have C5 := C4 (jLoc l) (jDom l) (jRes l) (by rw [eL]; exact Nat.zero_le _) (by rw [eD]; omega) (by unfold jRes; omega)
    rw [hp]
    rw [eL, eD] at C5 ⊢
    cases hc : chkP [] (lowA l) (jRes l) with
    | true => rw [hc] at C5; exact jd_Parse_ftT s _ _ _ _ _ w hm C1 C2 C3 (jB_ne hr) C5
    | false => rw [hc] at C5; exact jd_Parse_ftF s _ _ _ _ _ w hm C1 C2 C3 (jB_ne hr) C5
  | false =>
   rw [hb] at C1
   have hp : prsP l = chkP (jLoc l) (jDom l) (jRes l) := by unfold prsP; rw [hh, hb]; rfl
   have C5 := C4 (jLoc l) (jDom l) (jRes l) (by rw [eL]; exact Nat.zero_le _) (by rw [eD]; omega) (by unfold jRes; omega)
   rw [hp]
   rw [eL, eD] at C5 ⊢
   cases hc : chkP [] (lowA l) (jRes l) with
   | true => rw [hc] at C5; exact jd_Parse_ffT s _ _ _ _ _ w hm C1 C2 C3 C5
   | false => rw [hc] at C5; exact jd_Parse_ffF s _ _ _ _ _ w hm C1 C2 C3 C5
end Go.Proofs.YtjgeiieiinmdnaaGreatDoor
