/- jid.Parse. PRINTED BY PROGRAM (gen_jdj.py). -/
import Derived.Test.YtfonkblbgadhmaaDoorJdI
namespace Go.Proofs.YtfonkblbgadhmaaDoor
open Go.RowKit Go.Lib

theorem JAt.set3 {L : Nat} {a b c : ByteArray} {w : World} (h : JAt L a b c w) (x y z : ByteArray) : JAt L x y z (((w.setCell ⟨L, 0, none⟩ (.string x)).setCell ⟨L, 1, none⟩ (.string y)).setCell ⟨L, 2, none⟩ (.string z)) := by
  obtain ⟨h0, h1, h2, h3, h4, h5, h6⟩ := h
  constructor <;> simp [go_sem, *]
theorem jset_below {B L : Nat} {w W : World} (h : Below B w W) (hL : B ≤ L) (x y z : Value) : Below B w (((W.setCell ⟨L, 0, none⟩ x).setCell ⟨L, 1, none⟩ y).setCell ⟨L, 2, none⟩ z) :=
  ((h.setCell (p := ⟨L, 0, none⟩) hL x).setCell (p := ⟨L, 1, none⟩) hL y).setCell (p := ⟨L, 2, none⟩) hL z
theorem ret_jid {fn : Func} {tmps : Array Value} {W : World} {R : Nat} {l d r : ByteArray} {e : Value} (h : fn.results = #[.cell 2 23, .tmp 3]) (h2 : tmps.getD 2 undef = .pointer (some ⟨R, 0, none⟩)) (h3 : tmps.getD 3 undef = e) (k : JAt R l d r W) :
    (results fn tmps).run Tryd.prog W = .ok (.tuple #[jV l d r, e]) W := by
  have c0 := k.c0
  have c1 := k.c1
  have c2 := k.c2
  rw [results_cell_tmp h, h2, h3]
  simp [go_sem, Result.andThen, c0, c1, c2]
set_option maxHeartbeats 4000000 in
theorem jd_Parse_tet (s A R Lo Y : ByteArray) (w : World)
    (C1 : ∀ w, Calls Tryd.prog 26 #[.string s, .string ⟨#[47]⟩] w (Ret w (.tuple #[.string A, .string R, .bool true])))
    (C2 : ∀ w, Calls Tryd.prog 12 #[.string A] w (Ret w (.string Lo)))
    (C3 : ∀ w, Calls Tryd.prog 26 #[.string Lo, .string ⟨#[64]⟩] w (Ret w (.tuple #[.string ⟨#[]⟩, .string Y, .bool true])))
     :
    Calls Tryd.prog 11 #[.string s] w (Ret w (.tuple #[jV ⟨#[]⟩ ⟨#[]⟩ ⟨#[]⟩, .int .i64 190])) := by
  have k0 := JAt.new w ⟨#[]⟩ ⟨#[]⟩ ⟨#[]⟩
  have q0 := (Below.refl w.heap.size w).alloc (Nat.le_refl _) (.cells #[.string ⟨#[]⟩, .string ⟨#[]⟩, .string ⟨#[]⟩] 23)
  have H1 := Lib.hid C1
  have H2 := Lib.hid C2
  have H3 := Lib.hid C3
  clear C1 C2 C3
  go_enter Tryd.func11, Tryd.ntmps11
  go_wp2_with fail
  refine (H1.out _).mono ?_
  rintro e w1 ⟨rfl, hb⟩
  have k1 := k0.ret hb
  have q1 := q0.trans (hb.mono q0.size)
  clear hb k0 q0
  go_wp2_with fail
  refine (H2.out _).mono ?_
  rintro e w2 ⟨rfl, hb⟩
  have k2 := k1.ret hb
  have q2 := q1.trans (hb.mono q1.size)
  clear hb k1 q1
  go_wp2_with fail
  refine (H3.out _).mono ?_
  rintro e w3 ⟨rfl, hb⟩
  obtain ⟨x0, x1, x2, x3, x4, x5, x6⟩ := k2.ret hb
  have q3 := q2.trans (hb.mono q2.size)
  clear hb k2 q2
  go_wp2_with fail
  refine bodyPost_ret (ret_jid rfl rfl rfl (((JAt.mk x0 x1 x2 x3 x4 x5 x6).set3 _ _ _).set3 _ _ _)) rfl ⟨rfl, jset_below (jset_below q3 (Nat.le_refl _) _ _ _) (Nat.le_refl _) _ _ _⟩
set_option maxHeartbeats 4000000 in
theorem jd_Parse_tef (s A R Lo Y : ByteArray) (w : World)
    (C1 : ∀ w, Calls Tryd.prog 26 #[.string s, .string ⟨#[47]⟩] w (Ret w (.tuple #[.string A, .string R, .bool false])))
    (C2 : ∀ w, Calls Tryd.prog 12 #[.string A] w (Ret w (.string Lo)))
    (C3 : ∀ w, Calls Tryd.prog 26 #[.string Lo, .string ⟨#[64]⟩] w (Ret w (.tuple #[.string ⟨#[]⟩, .string Y, .bool true])))
     :
    Calls Tryd.prog 11 #[.string s] w (Ret w (.tuple #[jV ⟨#[]⟩ ⟨#[]⟩ ⟨#[]⟩, .int .i64 190])) := by
  have k0 := JAt.new w ⟨#[]⟩ ⟨#[]⟩ ⟨#[]⟩
  have q0 := (Below.refl w.heap.size w).alloc (Nat.le_refl _) (.cells #[.string ⟨#[]⟩, .string ⟨#[]⟩, .string ⟨#[]⟩] 23)
  have H1 := Lib.hid C1
  have H2 := Lib.hid C2
  have H3 := Lib.hid C3
  clear C1 C2 C3
  go_enter Tryd.func11, Tryd.ntmps11
  go_wp2_with fail
  refine (H1.out _).mono ?_
  rintro e w1 ⟨rfl, hb⟩
  have k1 := k0.ret hb
  have q1 := q0.trans (hb.mono q0.size)
  clear hb k0 q0
  go_wp2_with fail
  refine (H2.out _).mono ?_
  rintro e w2 ⟨rfl, hb⟩
  have k2 := k1.ret hb
  have q2 := q1.trans (hb.mono q1.size)
  clear hb k1 q1
  go_wp2_with fail
  refine (H3.out _).mono ?_
  rintro e w3 ⟨rfl, hb⟩
  obtain ⟨x0, x1, x2, x3, x4, x5, x6⟩ := k2.ret hb
  have q3 := q2.trans (hb.mono q2.size)
  clear hb k2 q2
  go_wp2_with fail
  refine bodyPost_ret (ret_jid rfl rfl rfl (((JAt.mk x0 x1 x2 x3 x4 x5 x6).set3 _ _ _).set3 _ _ _)) rfl ⟨rfl, jset_below (jset_below q3 (Nat.le_refl _) _ _ _) (Nat.le_refl _) _ _ _⟩
set_option maxHeartbeats 4000000 in
theorem jd_Parse_tte (s A Lo X Y : ByteArray) (w : World)
    (C1 : ∀ w, Calls Tryd.prog 26 #[.string s, .string ⟨#[47]⟩] w (Ret w (.tuple #[.string A, .string ⟨#[]⟩, .bool true])))
    (C2 : ∀ w, Calls Tryd.prog 12 #[.string A] w (Ret w (.string Lo)))
    (C3 : ∀ w, Calls Tryd.prog 26 #[.string Lo, .string ⟨#[64]⟩] w (Ret w (.tuple #[.string X, .string Y, .bool true])))
    (eX : (X.toList == []) = false) :
    Calls Tryd.prog 11 #[.string s] w (Ret w (.tuple #[jV ⟨#[]⟩ ⟨#[]⟩ ⟨#[]⟩, .int .i64 190])) := by
  have k0 := JAt.new w ⟨#[]⟩ ⟨#[]⟩ ⟨#[]⟩
  have q0 := (Below.refl w.heap.size w).alloc (Nat.le_refl _) (.cells #[.string ⟨#[]⟩, .string ⟨#[]⟩, .string ⟨#[]⟩] 23)
  have H1 := Lib.hid C1
  have H2 := Lib.hid C2
  have H3 := Lib.hid C3
  clear C1 C2 C3
  go_enter Tryd.func11, Tryd.ntmps11
  go_wp2_with fail
  refine (H1.out _).mono ?_
  rintro e w1 ⟨rfl, hb⟩
  have k1 := k0.ret hb
  have q1 := q0.trans (hb.mono q0.size)
  clear hb k0 q0
  go_wp2_with fail
  refine (H2.out _).mono ?_
  rintro e w2 ⟨rfl, hb⟩
  have k2 := k1.ret hb
  have q2 := q1.trans (hb.mono q1.size)
  clear hb k1 q1
  go_wp2_with fail
  refine (H3.out _).mono ?_
  rintro e w3 ⟨rfl, hb⟩
  obtain ⟨x0, x1, x2, x3, x4, x5, x6⟩ := k2.ret hb
  have q3 := q2.trans (hb.mono q2.size)
  clear hb k2 q2
  go_wp2_with fail
  refine bodyPost_ret (ret_jid rfl rfl rfl (((JAt.mk x0 x1 x2 x3 x4 x5 x6).set3 _ _ _).set3 _ _ _)) rfl ⟨rfl, jset_below (jset_below q3 (Nat.le_refl _) _ _ _) (Nat.le_refl _) _ _ _⟩
set_option maxHeartbeats 4000000 in
theorem jd_Parse_ttT (s A R Lo X Y : ByteArray) (w : World) (hm : ML w)
    (C1 : ∀ w, Calls Tryd.prog 26 #[.string s, .string ⟨#[47]⟩] w (Ret w (.tuple #[.string A, .string R, .bool true])))
    (C2 : ∀ w, Calls Tryd.prog 12 #[.string A] w (Ret w (.string Lo)))
    (C3 : ∀ w, Calls Tryd.prog 26 #[.string Lo, .string ⟨#[64]⟩] w (Ret w (.tuple #[.string X, .string Y, .bool true])))
    (eX : (X.toList == []) = false) (eR : (R.toList == []) = false) (C4 : ∀ w : World, ML w → Calls Tryd.prog 13 #[jV X Y R] w (Ret w (.int .i64 0))) :
    Calls Tryd.prog 11 #[.string s] w (Ret w (.tuple #[jV X Y R, .int .i64 0])) := by
  have k0 := JAt.new w ⟨#[]⟩ ⟨#[]⟩ ⟨#[]⟩
  have q0 := (Below.refl w.heap.size w).alloc (Nat.le_refl _) (.cells #[.string ⟨#[]⟩, .string ⟨#[]⟩, .string ⟨#[]⟩] 23)
  have H1 := Lib.hid C1
  have H2 := Lib.hid C2
  have H3 := Lib.hid C3
  have H4 := Lib.hid C4
  clear C1 C2 C3 C4
  go_enter Tryd.func11, Tryd.ntmps11
  go_wp2_with fail
  refine (H1.out _).mono ?_
  rintro e w1 ⟨rfl, hb⟩
  have k1 := k0.ret hb
  have q1 := q0.trans (hb.mono q0.size)
  clear hb k0 q0
  go_wp2_with fail
  refine (H2.out _).mono ?_
  rintro e w2 ⟨rfl, hb⟩
  have k2 := k1.ret hb
  have q2 := q1.trans (hb.mono q1.size)
  clear hb k1 q1
  go_wp2_with fail
  refine (H3.out _).mono ?_
  rintro e w3 ⟨rfl, hb⟩
  have k3 := (k2.ret hb).set3 X Y R
  obtain ⟨x0, x1, x2, x3, x4, x5, x6⟩ := k2.ret hb
  have q3 := q2.trans (hb.mono q2.size)
  clear hb k2 q2
  have q4 := jset_below q3 (Nat.le_refl _) (.string X) (.string Y) (.string R)
  have HC := Lib.hid (H4.out _ (hm.ret q4))
  clear H4
  go_wp2_with fail
  refine HC.out.mono ?_
  rintro e w4 ⟨rfl, hb⟩
  obtain ⟨y0, y1, y2, y3, y4, y5, y6⟩ := k3.ret hb
  have q5 := q4.trans (hb.mono q4.size)
  clear hb k3 q4 HC x0 x1 x2 x3 x4 x5 x6 q3
  go_wp2_with fail
  refine bodyPost_ret (ret_jid rfl rfl rfl ((JAt.mk y0 y1 y2 y3 y4 y5 y6).set3 _ _ _)) rfl ⟨rfl, jset_below q5 (Nat.le_refl _) _ _ _⟩
set_option maxHeartbeats 4000000 in
theorem jd_Parse_ttF (s A R Lo X Y : ByteArray) (w : World) (hm : ML w)
    (C1 : ∀ w, Calls Tryd.prog 26 #[.string s, .string ⟨#[47]⟩] w (Ret w (.tuple #[.string A, .string R, .bool true])))
    (C2 : ∀ w, Calls Tryd.prog 12 #[.string A] w (Ret w (.string Lo)))
    (C3 : ∀ w, Calls Tryd.prog 26 #[.string Lo, .string ⟨#[64]⟩] w (Ret w (.tuple #[.string X, .string Y, .bool true])))
    (eX : (X.toList == []) = false) (eR : (R.toList == []) = false) (C4 : ∀ w : World, ML w → Calls Tryd.prog 13 #[jV X Y R] w (Ret w (.int .i64 8))) :
    Calls Tryd.prog 11 #[.string s] w (Ret w (.tuple #[jV ⟨#[]⟩ ⟨#[]⟩ ⟨#[]⟩, .int .i64 190])) := by
  have k0 := JAt.new w ⟨#[]⟩ ⟨#[]⟩ ⟨#[]⟩
  have q0 := (Below.refl w.heap.size w).alloc (Nat.le_refl _) (.cells #[.string ⟨#[]⟩, .string ⟨#[]⟩, .string ⟨#[]⟩] 23)
  have H1 := Lib.hid C1
  have H2 := Lib.hid C2
  have H3 := Lib.hid C3
  have H4 := Lib.hid C4
  clear C1 C2 C3 C4
  go_enter Tryd.func11, Tryd.ntmps11
  go_wp2_with fail
  refine (H1.out _).mono ?_
  rintro e w1 ⟨rfl, hb⟩
  have k1 := k0.ret hb
  have q1 := q0.trans (hb.mono q0.size)
  clear hb k0 q0
  go_wp2_with fail
  refine (H2.out _).mono ?_
  rintro e w2 ⟨rfl, hb⟩
  have k2 := k1.ret hb
  have q2 := q1.trans (hb.mono q1.size)
  clear hb k1 q1
  go_wp2_with fail
  refine (H3.out _).mono ?_
  rintro e w3 ⟨rfl, hb⟩
  have k3 := (k2.ret hb).set3 X Y R
  obtain ⟨x0, x1, x2, x3, x4, x5, x6⟩ := k2.ret hb
  have q3 := q2.trans (hb.mono q2.size)
  clear hb k2 q2
  have q4 := jset_below q3 (Nat.le_refl _) (.string X) (.string Y) (.string R)
  have HC := Lib.hid (H4.out _ (hm.ret q4))
  clear H4
  go_wp2_with fail
  refine HC.out.mono ?_
  rintro e w4 ⟨rfl, hb⟩
  obtain ⟨y0, y1, y2, y3, y4, y5, y6⟩ := k3.ret hb
  have q5 := q4.trans (hb.mono q4.size)
  clear hb k3 q4 HC x0 x1 x2 x3 x4 x5 x6 q3
  go_wp2_with fail
  refine bodyPost_ret (ret_jid rfl rfl rfl ((JAt.mk y0 y1 y2 y3 y4 y5 y6).set3 _ _ _)) rfl ⟨rfl, jset_below q5 (Nat.le_refl _) _ _ _⟩
set_option maxHeartbeats 4000000 in
theorem jd_Parse_tfT (s A R Lo X Y : ByteArray) (w : World) (hm : ML w)
    (C1 : ∀ w, Calls Tryd.prog 26 #[.string s, .string ⟨#[47]⟩] w (Ret w (.tuple #[.string A, .string R, .bool false])))
    (C2 : ∀ w, Calls Tryd.prog 12 #[.string A] w (Ret w (.string Lo)))
    (C3 : ∀ w, Calls Tryd.prog 26 #[.string Lo, .string ⟨#[64]⟩] w (Ret w (.tuple #[.string X, .string Y, .bool true])))
    (eX : (X.toList == []) = false) (C4 : ∀ w : World, ML w → Calls Tryd.prog 13 #[jV X Y R] w (Ret w (.int .i64 0))) :
    Calls Tryd.prog 11 #[.string s] w (Ret w (.tuple #[jV X Y R, .int .i64 0])) := by
  have k0 := JAt.new w ⟨#[]⟩ ⟨#[]⟩ ⟨#[]⟩
  have q0 := (Below.refl w.heap.size w).alloc (Nat.le_refl _) (.cells #[.string ⟨#[]⟩, .string ⟨#[]⟩, .string ⟨#[]⟩] 23)
  have H1 := Lib.hid C1
  have H2 := Lib.hid C2
  have H3 := Lib.hid C3
  have H4 := Lib.hid C4
  clear C1 C2 C3 C4
  go_enter Tryd.func11, Tryd.ntmps11
  go_wp2_with fail
  refine (H1.out _).mono ?_
  rintro e w1 ⟨rfl, hb⟩
  have k1 := k0.ret hb
  have q1 := q0.trans (hb.mono q0.size)
  clear hb k0 q0
  go_wp2_with fail
  refine (H2.out _).mono ?_
  rintro e w2 ⟨rfl, hb⟩
  have k2 := k1.ret hb
  have q2 := q1.trans (hb.mono q1.size)
  clear hb k1 q1
  go_wp2_with fail
  refine (H3.out _).mono ?_
  rintro e w3 ⟨rfl, hb⟩
  have k3 := (k2.ret hb).set3 X Y R
  obtain ⟨x0, x1, x2, x3, x4, x5, x6⟩ := k2.ret hb
  have q3 := q2.trans (hb.mono q2.size)
  clear hb k2 q2
  have q4 := jset_below q3 (Nat.le_refl _) (.string X) (.string Y) (.string R)
  have HC := Lib.hid (H4.out _ (hm.ret q4))
  clear H4
  go_wp2_with fail
  refine HC.out.mono ?_
  rintro e w4 ⟨rfl, hb⟩
  obtain ⟨y0, y1, y2, y3, y4, y5, y6⟩ := k3.ret hb
  have q5 := q4.trans (hb.mono q4.size)
  clear hb k3 q4 HC x0 x1 x2 x3 x4 x5 x6 q3
  go_wp2_with fail
  refine bodyPost_ret (ret_jid rfl rfl rfl ((JAt.mk y0 y1 y2 y3 y4 y5 y6).set3 _ _ _)) rfl ⟨rfl, jset_below q5 (Nat.le_refl _) _ _ _⟩
set_option maxHeartbeats 4000000 in
theorem jd_Parse_tfF (s A R Lo X Y : ByteArray) (w : World) (hm : ML w)
    (C1 : ∀ w, Calls Tryd.prog 26 #[.string s, .string ⟨#[47]⟩] w (Ret w (.tuple #[.string A, .string R, .bool false])))
    (C2 : ∀ w, Calls Tryd.prog 12 #[.string A] w (Ret w (.string Lo)))
    (C3 : ∀ w, Calls Tryd.prog 26 #[.string Lo, .string ⟨#[64]⟩] w (Ret w (.tuple #[.string X, .string Y, .bool true])))
    (eX : (X.toList == []) = false) (C4 : ∀ w : World, ML w → Calls Tryd.prog 13 #[jV X Y R] w (Ret w (.int .i64 8))) :
    Calls Tryd.prog 11 #[.string s] w (Ret w (.tuple #[jV ⟨#[]⟩ ⟨#[]⟩ ⟨#[]⟩, .int .i64 190])) := by
  have k0 := JAt.new w ⟨#[]⟩ ⟨#[]⟩ ⟨#[]⟩
  have q0 := (Below.refl w.heap.size w).alloc (Nat.le_refl _) (.cells #[.string ⟨#[]⟩, .string ⟨#[]⟩, .string ⟨#[]⟩] 23)
  have H1 := Lib.hid C1
  have H2 := Lib.hid C2
  have H3 := Lib.hid C3
  have H4 := Lib.hid C4
  clear C1 C2 C3 C4
  go_enter Tryd.func11, Tryd.ntmps11
  go_wp2_with fail
  refine (H1.out _).mono ?_
  rintro e w1 ⟨rfl, hb⟩
  have k1 := k0.ret hb
  have q1 := q0.trans (hb.mono q0.size)
  clear hb k0 q0
  go_wp2_with fail
  refine (H2.out _).mono ?_
  rintro e w2 ⟨rfl, hb⟩
  have k2 := k1.ret hb
  have q2 := q1.trans (hb.mono q1.size)
  clear hb k1 q1
  go_wp2_with fail
  refine (H3.out _).mono ?_
  rintro e w3 ⟨rfl, hb⟩
  have k3 := (k2.ret hb).set3 X Y R
  obtain ⟨x0, x1, x2, x3, x4, x5, x6⟩ := k2.ret hb
  have q3 := q2.trans (hb.mono q2.size)
  clear hb k2 q2
  have q4 := jset_below q3 (Nat.le_refl _) (.string X) (.string Y) (.string R)
  have HC := Lib.hid (H4.out _ (hm.ret q4))
  clear H4
  go_wp2_with fail
  refine HC.out.mono ?_
  rintro e w4 ⟨rfl, hb⟩
  obtain ⟨y0, y1, y2, y3, y4, y5, y6⟩ := k3.ret hb
  have q5 := q4.trans (hb.mono q4.size)
  clear hb k3 q4 HC x0 x1 x2 x3 x4 x5 x6 q3
  go_wp2_with fail
  refine bodyPost_ret (ret_jid rfl rfl rfl ((JAt.mk y0 y1 y2 y3 y4 y5 y6).set3 _ _ _)) rfl ⟨rfl, jset_below q5 (Nat.le_refl _) _ _ _⟩
set_option maxHeartbeats 4000000 in
theorem jd_Parse_fte (s A Lo X Y : ByteArray) (w : World)
    (C1 : ∀ w, Calls Tryd.prog 26 #[.string s, .string ⟨#[47]⟩] w (Ret w (.tuple #[.string A, .string ⟨#[]⟩, .bool true])))
    (C2 : ∀ w, Calls Tryd.prog 12 #[.string A] w (Ret w (.string Lo)))
    (C3 : ∀ w, Calls Tryd.prog 26 #[.string Lo, .string ⟨#[64]⟩] w (Ret w (.tuple #[.string X, .string Y, .bool false])))
     :
    Calls Tryd.prog 11 #[.string s] w (Ret w (.tuple #[jV ⟨#[]⟩ ⟨#[]⟩ ⟨#[]⟩, .int .i64 190])) := by
  have k0 := JAt.new w ⟨#[]⟩ ⟨#[]⟩ ⟨#[]⟩
  have q0 := (Below.refl w.heap.size w).alloc (Nat.le_refl _) (.cells #[.string ⟨#[]⟩, .string ⟨#[]⟩, .string ⟨#[]⟩] 23)
  have H1 := Lib.hid C1
  have H2 := Lib.hid C2
  have H3 := Lib.hid C3
  clear C1 C2 C3
  go_enter Tryd.func11, Tryd.ntmps11
  go_wp2_with fail
  refine (H1.out _).mono ?_
  rintro e w1 ⟨rfl, hb⟩
  have k1 := k0.ret hb
  have q1 := q0.trans (hb.mono q0.size)
  clear hb k0 q0
  go_wp2_with fail
  refine (H2.out _).mono ?_
  rintro e w2 ⟨rfl, hb⟩
  have k2 := k1.ret hb
  have q2 := q1.trans (hb.mono q1.size)
  clear hb k1 q1
  go_wp2_with fail
  refine (H3.out _).mono ?_
  rintro e w3 ⟨rfl, hb⟩
  obtain ⟨x0, x1, x2, x3, x4, x5, x6⟩ := k2.ret hb
  have q3 := q2.trans (hb.mono q2.size)
  clear hb k2 q2
  go_wp2_with fail
  refine bodyPost_ret (ret_jid rfl rfl rfl (((JAt.mk x0 x1 x2 x3 x4 x5 x6).set3 _ _ _).set3 _ _ _)) rfl ⟨rfl, jset_below (jset_below q3 (Nat.le_refl _) _ _ _) (Nat.le_refl _) _ _ _⟩
set_option maxHeartbeats 4000000 in
theorem jd_Parse_ftT (s A R Lo X Y : ByteArray) (w : World) (hm : ML w)
    (C1 : ∀ w, Calls Tryd.prog 26 #[.string s, .string ⟨#[47]⟩] w (Ret w (.tuple #[.string A, .string R, .bool true])))
    (C2 : ∀ w, Calls Tryd.prog 12 #[.string A] w (Ret w (.string Lo)))
    (C3 : ∀ w, Calls Tryd.prog 26 #[.string Lo, .string ⟨#[64]⟩] w (Ret w (.tuple #[.string X, .string Y, .bool false])))
    (eR : (R.toList == []) = false) (C4 : ∀ w : World, ML w → Calls Tryd.prog 13 #[jV ⟨#[]⟩ Lo R] w (Ret w (.int .i64 0))) :
    Calls Tryd.prog 11 #[.string s] w (Ret w (.tuple #[jV ⟨#[]⟩ Lo R, .int .i64 0])) := by
  have k0 := JAt.new w ⟨#[]⟩ ⟨#[]⟩ ⟨#[]⟩
  have q0 := (Below.refl w.heap.size w).alloc (Nat.le_refl _) (.cells #[.string ⟨#[]⟩, .string ⟨#[]⟩, .string ⟨#[]⟩] 23)
  have H1 := Lib.hid C1
  have H2 := Lib.hid C2
  have H3 := Lib.hid C3
  have H4 := Lib.hid C4
  clear C1 C2 C3 C4
  go_enter Tryd.func11, Tryd.ntmps11
  go_wp2_with fail
  refine (H1.out _).mono ?_
  rintro e w1 ⟨rfl, hb⟩
  have k1 := k0.ret hb
  have q1 := q0.trans (hb.mono q0.size)
  clear hb k0 q0
  go_wp2_with fail
  refine (H2.out _).mono ?_
  rintro e w2 ⟨rfl, hb⟩
  have k2 := k1.ret hb
  have q2 := q1.trans (hb.mono q1.size)
  clear hb k1 q1
  go_wp2_with fail
  refine (H3.out _).mono ?_
  rintro e w3 ⟨rfl, hb⟩
  have k3 := (k2.ret hb).set3 ⟨#[]⟩ Lo R
  obtain ⟨x0, x1, x2, x3, x4, x5, x6⟩ := k2.ret hb
  have q3 := q2.trans (hb.mono q2.size)
  clear hb k2 q2
  have q4 := jset_below q3 (Nat.le_refl _) (.string ⟨#[]⟩) (.string Lo) (.string R)
  have HC := Lib.hid (H4.out _ (hm.ret q4))
  clear H4
  go_wp2_with fail
  refine HC.out.mono ?_
  rintro e w4 ⟨rfl, hb⟩
  obtain ⟨y0, y1, y2, y3, y4, y5, y6⟩ := k3.ret hb
  have q5 := q4.trans (hb.mono q4.size)
  clear hb k3 q4 HC x0 x1 x2 x3 x4 x5 x6 q3
  go_wp2_with fail
  refine bodyPost_ret (ret_jid rfl rfl rfl ((JAt.mk y0 y1 y2 y3 y4 y5 y6).set3 _ _ _)) rfl ⟨rfl, jset_below q5 (Nat.le_refl _) _ _ _⟩
set_option maxHeartbeats 4000000 in
theorem jd_Parse_ftF (s A R Lo X Y : ByteArray) (w : World) (hm : ML w)
    (C1 : ∀ w, Calls Tryd.prog 26 #[.string s, .string ⟨#[47]⟩] w (Ret w (.tuple #[.string A, .string R, .bool true])))
    (C2 : ∀ w, Calls Tryd.prog 12 #[.string A] w (Ret w (.string Lo)))
    (C3 : ∀ w, Calls Tryd.prog 26 #[.string Lo, .string ⟨#[64]⟩] w (Ret w (.tuple #[.string X, .string Y, .bool false])))
    (eR : (R.toList == []) = false) (C4 : ∀ w : World, ML w → Calls Tryd.prog 13 #[jV ⟨#[]⟩ Lo R] w (Ret w (.int .i64 8))) :
    Calls Tryd.prog 11 #[.string s] w (Ret w (.tuple #[jV ⟨#[]⟩ ⟨#[]⟩ ⟨#[]⟩, .int .i64 190])) := by
  have k0 := JAt.new w ⟨#[]⟩ ⟨#[]⟩ ⟨#[]⟩
  have q0 := (Below.refl w.heap.size w).alloc (Nat.le_refl _) (.cells #[.string ⟨#[]⟩, .string ⟨#[]⟩, .string ⟨#[]⟩] 23)
  have H1 := Lib.hid C1
  have H2 := Lib.hid C2
  have H3 := Lib.hid C3
  have H4 := Lib.hid C4
  clear C1 C2 C3 C4
  go_enter Tryd.func11, Tryd.ntmps11
  go_wp2_with fail
  refine (H1.out _).mono ?_
  rintro e w1 ⟨rfl, hb⟩
  have k1 := k0.ret hb
  have q1 := q0.trans (hb.mono q0.size)
  clear hb k0 q0
  go_wp2_with fail
  refine (H2.out _).mono ?_
  rintro e w2 ⟨rfl, hb⟩
  have k2 := k1.ret hb
  have q2 := q1.trans (hb.mono q1.size)
  clear hb k1 q1
  go_wp2_with fail
  refine (H3.out _).mono ?_
  rintro e w3 ⟨rfl, hb⟩
  have k3 := (k2.ret hb).set3 ⟨#[]⟩ Lo R
  obtain ⟨x0, x1, x2, x3, x4, x5, x6⟩ := k2.ret hb
  have q3 := q2.trans (hb.mono q2.size)
  clear hb k2 q2
  have q4 := jset_below q3 (Nat.le_refl _) (.string ⟨#[]⟩) (.string Lo) (.string R)
  have HC := Lib.hid (H4.out _ (hm.ret q4))
  clear H4
  go_wp2_with fail
  refine HC.out.mono ?_
  rintro e w4 ⟨rfl, hb⟩
  obtain ⟨y0, y1, y2, y3, y4, y5, y6⟩ := k3.ret hb
  have q5 := q4.trans (hb.mono q4.size)
  clear hb k3 q4 HC x0 x1 x2 x3 x4 x5 x6 q3
  go_wp2_with fail
  refine bodyPost_ret (ret_jid rfl rfl rfl ((JAt.mk y0 y1 y2 y3 y4 y5 y6).set3 _ _ _)) rfl ⟨rfl, jset_below q5 (Nat.le_refl _) _ _ _⟩
set_option maxHeartbeats 4000000 in
theorem jd_Parse_ffT (s A R Lo X Y : ByteArray) (w : World) (hm : ML w)
    (C1 : ∀ w, Calls Tryd.prog 26 #[.string s, .string ⟨#[47]⟩] w (Ret w (.tuple #[.string A, .string R, .bool false])))
    (C2 : ∀ w, Calls Tryd.prog 12 #[.string A] w (Ret w (.string Lo)))
    (C3 : ∀ w, Calls Tryd.prog 26 #[.string Lo, .string ⟨#[64]⟩] w (Ret w (.tuple #[.string X, .string Y, .bool false])))
    (C4 : ∀ w : World, ML w → Calls Tryd.prog 13 #[jV ⟨#[]⟩ Lo R] w (Ret w (.int .i64 0))) :
    Calls Tryd.prog 11 #[.string s] w (Ret w (.tuple #[jV ⟨#[]⟩ Lo R, .int .i64 0])) := by
  have k0 := JAt.new w ⟨#[]⟩ ⟨#[]⟩ ⟨#[]⟩
  have q0 := (Below.refl w.heap.size w).alloc (Nat.le_refl _) (.cells #[.string ⟨#[]⟩, .string ⟨#[]⟩, .string ⟨#[]⟩] 23)
  have H1 := Lib.hid C1
  have H2 := Lib.hid C2
  have H3 := Lib.hid C3
  have H4 := Lib.hid C4
  clear C1 C2 C3 C4
  go_enter Tryd.func11, Tryd.ntmps11
  go_wp2_with fail
  refine (H1.out _).mono ?_
  rintro e w1 ⟨rfl, hb⟩
  have k1 := k0.ret hb
  have q1 := q0.trans (hb.mono q0.size)
  clear hb k0 q0
  go_wp2_with fail
  refine (H2.out _).mono ?_
  rintro e w2 ⟨rfl, hb⟩
  have k2 := k1.ret hb
  have q2 := q1.trans (hb.mono q1.size)
  clear hb k1 q1
  go_wp2_with fail
  refine (H3.out _).mono ?_
  rintro e w3 ⟨rfl, hb⟩
  have k3 := (k2.ret hb).set3 ⟨#[]⟩ Lo R
  obtain ⟨x0, x1, x2, x3, x4, x5, x6⟩ := k2.ret hb
  have q3 := q2.trans (hb.mono q2.size)
  clear hb k2 q2
  have q4 := jset_below q3 (Nat.le_refl _) (.string ⟨#[]⟩) (.string Lo) (.string R)
  have HC := Lib.hid (H4.out _ (hm.ret q4))
  clear H4
  go_wp2_with fail
  refine HC.out.mono ?_
  rintro e w4 ⟨rfl, hb⟩
  obtain ⟨y0, y1, y2, y3, y4, y5, y6⟩ := k3.ret hb
  have q5 := q4.trans (hb.mono q4.size)
  clear hb k3 q4 HC x0 x1 x2 x3 x4 x5 x6 q3
  go_wp2_with fail
  refine bodyPost_ret (ret_jid rfl rfl rfl ((JAt.mk y0 y1 y2 y3 y4 y5 y6).set3 _ _ _)) rfl ⟨rfl, jset_below q5 (Nat.le_refl _) _ _ _⟩
set_option maxHeartbeats 4000000 in
theorem jd_Parse_ffF (s A R Lo X Y : ByteArray) (w : World) (hm : ML w)
    (C1 : ∀ w, Calls Tryd.prog 26 #[.string s, .string ⟨#[47]⟩] w (Ret w (.tuple #[.string A, .string R, .bool false])))
    (C2 : ∀ w, Calls Tryd.prog 12 #[.string A] w (Ret w (.string Lo)))
    (C3 : ∀ w, Calls Tryd.prog 26 #[.string Lo, .string ⟨#[64]⟩] w (Ret w (.tuple #[.string X, .string Y, .bool false])))
    (C4 : ∀ w : World, ML w → Calls Tryd.prog 13 #[jV ⟨#[]⟩ Lo R] w (Ret w (.int .i64 8))) :
    Calls Tryd.prog 11 #[.string s] w (Ret w (.tuple #[jV ⟨#[]⟩ ⟨#[]⟩ ⟨#[]⟩, .int .i64 190])) := by
  have k0 := JAt.new w ⟨#[]⟩ ⟨#[]⟩ ⟨#[]⟩
  have q0 := (Below.refl w.heap.size w).alloc (Nat.le_refl _) (.cells #[.string ⟨#[]⟩, .string ⟨#[]⟩, .string ⟨#[]⟩] 23)
  have H1 := Lib.hid C1
  have H2 := Lib.hid C2
  have H3 := Lib.hid C3
  have H4 := Lib.hid C4
  clear C1 C2 C3 C4
  go_enter Tryd.func11, Tryd.ntmps11
  go_wp2_with fail
  refine (H1.out _).mono ?_
  rintro e w1 ⟨rfl, hb⟩
  have k1 := k0.ret hb
  have q1 := q0.trans (hb.mono q0.size)
  clear hb k0 q0
  go_wp2_with fail
  refine (H2.out _).mono ?_
  rintro e w2 ⟨rfl, hb⟩
  have k2 := k1.ret hb
  have q2 := q1.trans (hb.mono q1.size)
  clear hb k1 q1
  go_wp2_with fail
  refine (H3.out _).mono ?_
  rintro e w3 ⟨rfl, hb⟩
  have k3 := (k2.ret hb).set3 ⟨#[]⟩ Lo R
  obtain ⟨x0, x1, x2, x3, x4, x5, x6⟩ := k2.ret hb
  have q3 := q2.trans (hb.mono q2.size)
  clear hb k2 q2
  have q4 := jset_below q3 (Nat.le_refl _) (.string ⟨#[]⟩) (.string Lo) (.string R)
  have HC := Lib.hid (H4.out _ (hm.ret q4))
  clear H4
  go_wp2_with fail
  refine HC.out.mono ?_
  rintro e w4 ⟨rfl, hb⟩
  obtain ⟨y0, y1, y2, y3, y4, y5, y6⟩ := k3.ret hb
  have q5 := q4.trans (hb.mono q4.size)
  clear hb k3 q4 HC x0 x1 x2 x3 x4 x5 x6 q3
  go_wp2_with fail
  refine bodyPost_ret (ret_jid rfl rfl rfl ((JAt.mk y0 y1 y2 y3 y4 y5 y6).set3 _ _ _)) rfl ⟨rfl, jset_below q5 (Nat.le_refl _) _ _ _⟩
end Go.Proofs.YtfonkblbgadhmaaDoor
