/- The document's Parse. PRINTED BY PROGRAM (gen_jdz.py). -/
import Derived.Test.YtfonkblbgadhmaaDoorJdY
import Derived.Test.YtfonkblbgadhmaaDoorJdV
import Derived.Test.YtfonkblbgadhmaaDoorJdK
import Derived.Test.YtfonkblbgadhmaaDoorGb
namespace Go.Proofs.YtfonkblbgadhmaaDoor
open Go.RowKit Go.Lib

theorem JAt.set0 {L : Nat} {a b c : ByteArray} {w : World} (h : JAt L a b c w) (x : ByteArray) : JAt L x b c (w.setCell ⟨L, 0, none⟩ (.string x)) := by
  obtain ⟨h0, h1, h2, h3, h4, h5, h6⟩ := h
  constructor <;> simp [go_sem, *]
theorem JAt.set1 {L : Nat} {a b c : ByteArray} {w : World} (h : JAt L a b c w) (x : ByteArray) : JAt L a x c (w.setCell ⟨L, 1, none⟩ (.string x)) := by
  obtain ⟨h0, h1, h2, h3, h4, h5, h6⟩ := h
  constructor <;> simp [go_sem, *]
theorem JAt.other {L M o : Nat} {a b c : ByteArray} {w : World} (h : JAt L a b c w) (hne : L ≠ M) (x : Value) : JAt L a b c (w.setCell ⟨M, o, none⟩ x) := by
  obtain ⟨h0, h1, h2, h3, h4, h5, h6⟩ := h
  constructor <;> simp [go_sem, *]
theorem JAt.two (w : World) (a b c x y z : ByteArray) : JAt w.heap.size a b c ((w.alloc (.cells #[.string a, .string b, .string c] 23)).alloc (.cells #[.string x, .string y, .string z] 23)) ∧ JAt (w.heap.size + 1) x y z ((w.alloc (.cells #[.string a, .string b, .string c] 23)).alloc (.cells #[.string x, .string y, .string z] 23)) := by
  have k1 := JAt.new w a b c
  have k2 := JAt.new (w.alloc (.cells #[.string a, .string b, .string c] 23)) x y z
  rw [World.size_alloc] at k2
  exact ⟨k1.ret ((Below.refl _ _).alloc (Nat.le_refl _) _), k2⟩
set_option maxHeartbeats 4000000 in
theorem r19_Parse_ttTT (s Lo A R X Y T W : ByteArray) (n m : Nat) (w : World)
    (C1 : ∀ w, Calls Tryd.prog 33 #[.string s, .int .u8 47] w fun e w' => e = .returned (.int .i64 n) ∧ w' = w)
    (hn : n < s.size) (hs : s.size ≤ 10000) (hA : s.extract 0 n = A) (hR : s.extract (n + 1) s.size = R)
    (C2 : ∀ w, Calls Tryd.prog 34 #[.string A] w (Ret w (.string Lo)))
    (C3 : ∀ w, Calls Tryd.prog 33 #[.string Lo, .int .u8 64] w fun e w' => e = .returned (.int .i64 m) ∧ w' = w)
    (hlo : Lo.size ≤ 10000)
    (hmm : m < Lo.size) (hX : Lo.extract 0 m = X) (hY : Lo.extract (m + 1) Lo.size = Y)
    (CM : ∀ w, Calls Tryd.prog 35 #[jV X Y R] w (Ret w (.bool true)))
    (hrz : R.size ≤ 10000)
    (CT : ∀ w, Calls Tryd.prog 36 #[jV X Y R] w (Ret w (.string T)))
    (hW : Lo ++ ⟨#[47]⟩ ++ R = W)
    (hE : (T.toList == W.toList) = true) :
    Calls Tryd.prog 19 #[.string s] w (Ret w (.tuple #[jV X Y R, .int .i64 0])) := by
  obtain ⟨kr, kj⟩ := JAt.two w ⟨#[]⟩ ⟨#[]⟩ ⟨#[]⟩ ⟨#[]⟩ ⟨#[]⟩ R
  have q0 := ((Below.refl w.heap.size w).alloc (Nat.le_refl _) (.cells #[.string ⟨#[]⟩, .string ⟨#[]⟩, .string ⟨#[]⟩] 23)).alloc (by simp) (.cells #[.string ⟨#[]⟩, .string ⟨#[]⟩, .string R] 23)
  have H1 := Lib.hid C1
  have H2 := Lib.hid C2
  have H3 := Lib.hid C3
  have HM := Lib.hid CM
  have HT := Lib.hid CT
  have n2 : (⟨#[47]⟩ : ByteArray).size = 1 := rfl
  clear C1 C2 C3 CM CT
  go_enter Tryd.func19, Tryd.ntmps19
  go_wp2_with fail
  refine (H1.out _).mono ?_
  rintro e w1 ⟨rfl, rfl⟩
  go_wp2_with fail
  refine (H2.out _).mono ?_
  rintro e w2 ⟨rfl, hb⟩
  have kr2 := kr.ret hb
  have kj2 := kj.ret hb
  have q2 := q0.trans (hb.mono q0.size)
  clear hb kr kj q0
  obtain ⟨x0, x1, x2, x3, x4, x5, x6⟩ := id kj2
  obtain ⟨y0, y1, y2, y3, y4, y5, y6⟩ := id kr2
  go_wp2_with fail
  refine (H3.out _).mono ?_
  rintro e w3 ⟨rfl, rfl⟩
  have kr3 := kr2.other (M := w.heap.size + 1) (o := 1) (by omega) (.string Lo)
  have kj3 := kj2.set1 Lo
  have q3 := q2.setCell (p := ⟨w.heap.size + 1, 1, none⟩) (Nat.le_succ _) (.string Lo)
  clear kr2 kj2 q2
  have kr4 := (kr3.other (M := w.heap.size + 1) (o := 0) (by omega) (.string X)).other (M := w.heap.size + 1) (o := 1) (by omega) (.string Y)
  have kj4 := (kj3.set0 X).set1 Y
  have q4 := (q3.setCell (p := ⟨w.heap.size + 1, 0, none⟩) (Nat.le_succ _) (.string X)).setCell (p := ⟨w.heap.size + 1, 1, none⟩) (Nat.le_succ _) (.string Y)
  clear kr3 kj3 q3
  go_wp2_with fail
  refine (HM.out _).mono ?_
  rintro e w5 ⟨rfl, hb⟩
  have kr5 := kr4.ret hb
  have kj5 := kj4.ret hb
  have q5 := q4.trans (hb.mono q4.size)
  clear hb kr4 kj4 q4 x0 x1 x2 x3 x4 x5 x6 y0 y1 y2 y3 y4 y5 y6
  obtain ⟨x0, x1, x2, x3, x4, x5, x6⟩ := id kj5
  go_wp2_with fail
  refine (HT.out _).mono ?_
  rintro e w6 ⟨rfl, hb⟩
  have kr6 := kr5.ret hb
  have kj6 := kj5.ret hb
  have q6 := q5.trans (hb.mono q5.size)
  clear hb kr5 kj5 q5 x0 x1 x2 x3 x4 x5 x6
  obtain ⟨x0, x1, x2, x3, x4, x5, x6⟩ := kj6
  obtain ⟨y0, y1, y2, y3, y4, y5, y6⟩ := kr6
  go_wp2_with fail
  refine bodyPost_ret (ret_jid rfl rfl rfl ((JAt.mk y0 y1 y2 y3 y4 y5 y6).set3 _ _ _)) rfl ⟨rfl, jset_below q6 (Nat.le_refl _) _ _ _⟩
set_option maxHeartbeats 4000000 in
theorem r19_Parse_ttTN (s Lo A R X Y T W : ByteArray) (n m : Nat) (w : World)
    (C1 : ∀ w, Calls Tryd.prog 33 #[.string s, .int .u8 47] w fun e w' => e = .returned (.int .i64 n) ∧ w' = w)
    (hn : n < s.size) (hs : s.size ≤ 10000) (hA : s.extract 0 n = A) (hR : s.extract (n + 1) s.size = R)
    (C2 : ∀ w, Calls Tryd.prog 34 #[.string A] w (Ret w (.string Lo)))
    (C3 : ∀ w, Calls Tryd.prog 33 #[.string Lo, .int .u8 64] w fun e w' => e = .returned (.int .i64 m) ∧ w' = w)
    (hlo : Lo.size ≤ 10000)
    (hmm : m < Lo.size) (hX : Lo.extract 0 m = X) (hY : Lo.extract (m + 1) Lo.size = Y)
    (CM : ∀ w, Calls Tryd.prog 35 #[jV X Y R] w (Ret w (.bool true)))
    (hrz : R.size ≤ 10000)
    (CT : ∀ w, Calls Tryd.prog 36 #[jV X Y R] w (Ret w (.string T)))
    (hW : Lo ++ ⟨#[47]⟩ ++ R = W)
    (hE : (T.toList == W.toList) = false) :
    Calls Tryd.prog 19 #[.string s] w (Ret w (.tuple #[jV ⟨#[]⟩ ⟨#[]⟩ ⟨#[]⟩, .int .i64 190])) := by
  obtain ⟨kr, kj⟩ := JAt.two w ⟨#[]⟩ ⟨#[]⟩ ⟨#[]⟩ ⟨#[]⟩ ⟨#[]⟩ R
  have q0 := ((Below.refl w.heap.size w).alloc (Nat.le_refl _) (.cells #[.string ⟨#[]⟩, .string ⟨#[]⟩, .string ⟨#[]⟩] 23)).alloc (by simp) (.cells #[.string ⟨#[]⟩, .string ⟨#[]⟩, .string R] 23)
  have H1 := Lib.hid C1
  have H2 := Lib.hid C2
  have H3 := Lib.hid C3
  have HM := Lib.hid CM
  have HT := Lib.hid CT
  have n2 : (⟨#[47]⟩ : ByteArray).size = 1 := rfl
  clear C1 C2 C3 CM CT
  go_enter Tryd.func19, Tryd.ntmps19
  go_wp2_with fail
  refine (H1.out _).mono ?_
  rintro e w1 ⟨rfl, rfl⟩
  go_wp2_with fail
  refine (H2.out _).mono ?_
  rintro e w2 ⟨rfl, hb⟩
  have kr2 := kr.ret hb
  have kj2 := kj.ret hb
  have q2 := q0.trans (hb.mono q0.size)
  clear hb kr kj q0
  obtain ⟨x0, x1, x2, x3, x4, x5, x6⟩ := id kj2
  obtain ⟨y0, y1, y2, y3, y4, y5, y6⟩ := id kr2
  go_wp2_with fail
  refine (H3.out _).mono ?_
  rintro e w3 ⟨rfl, rfl⟩
  have kr3 := kr2.other (M := w.heap.size + 1) (o := 1) (by omega) (.string Lo)
  have kj3 := kj2.set1 Lo
  have q3 := q2.setCell (p := ⟨w.heap.size + 1, 1, none⟩) (Nat.le_succ _) (.string Lo)
  clear kr2 kj2 q2
  have kr4 := (kr3.other (M := w.heap.size + 1) (o := 0) (by omega) (.string X)).other (M := w.heap.size + 1) (o := 1) (by omega) (.string Y)
  have kj4 := (kj3.set0 X).set1 Y
  have q4 := (q3.setCell (p := ⟨w.heap.size + 1, 0, none⟩) (Nat.le_succ _) (.string X)).setCell (p := ⟨w.heap.size + 1, 1, none⟩) (Nat.le_succ _) (.string Y)
  clear kr3 kj3 q3
  go_wp2_with fail
  refine (HM.out _).mono ?_
  rintro e w5 ⟨rfl, hb⟩
  have kr5 := kr4.ret hb
  have kj5 := kj4.ret hb
  have q5 := q4.trans (hb.mono q4.size)
  clear hb kr4 kj4 q4 x0 x1 x2 x3 x4 x5 x6 y0 y1 y2 y3 y4 y5 y6
  obtain ⟨x0, x1, x2, x3, x4, x5, x6⟩ := id kj5
  go_wp2_with fail
  refine (HT.out _).mono ?_
  rintro e w6 ⟨rfl, hb⟩
  have kr6 := kr5.ret hb
  have kj6 := kj5.ret hb
  have q6 := q5.trans (hb.mono q5.size)
  clear hb kr5 kj5 q5 x0 x1 x2 x3 x4 x5 x6
  obtain ⟨x0, x1, x2, x3, x4, x5, x6⟩ := kj6
  obtain ⟨y0, y1, y2, y3, y4, y5, y6⟩ := kr6
  go_wp2_with fail
  refine bodyPost_ret (ret_jid rfl rfl rfl ((JAt.mk y0 y1 y2 y3 y4 y5 y6).set3 _ _ _)) rfl ⟨rfl, jset_below q6 (Nat.le_refl _) _ _ _⟩
set_option maxHeartbeats 4000000 in
theorem r19_Parse_ttF (s Lo A R X Y : ByteArray) (n m : Nat) (w : World)
    (C1 : ∀ w, Calls Tryd.prog 33 #[.string s, .int .u8 47] w fun e w' => e = .returned (.int .i64 n) ∧ w' = w)
    (hn : n < s.size) (hs : s.size ≤ 10000) (hA : s.extract 0 n = A) (hR : s.extract (n + 1) s.size = R)
    (C2 : ∀ w, Calls Tryd.prog 34 #[.string A] w (Ret w (.string Lo)))
    (C3 : ∀ w, Calls Tryd.prog 33 #[.string Lo, .int .u8 64] w fun e w' => e = .returned (.int .i64 m) ∧ w' = w)
    (hlo : Lo.size ≤ 10000)
    (hmm : m < Lo.size) (hX : Lo.extract 0 m = X) (hY : Lo.extract (m + 1) Lo.size = Y)
    (CM : ∀ w, Calls Tryd.prog 35 #[jV X Y R] w (Ret w (.bool false)))
    (hrz : R.size ≤ 10000) :
    Calls Tryd.prog 19 #[.string s] w (Ret w (.tuple #[jV ⟨#[]⟩ ⟨#[]⟩ ⟨#[]⟩, .int .i64 190])) := by
  obtain ⟨kr, kj⟩ := JAt.two w ⟨#[]⟩ ⟨#[]⟩ ⟨#[]⟩ ⟨#[]⟩ ⟨#[]⟩ R
  have q0 := ((Below.refl w.heap.size w).alloc (Nat.le_refl _) (.cells #[.string ⟨#[]⟩, .string ⟨#[]⟩, .string ⟨#[]⟩] 23)).alloc (by simp) (.cells #[.string ⟨#[]⟩, .string ⟨#[]⟩, .string R] 23)
  have H1 := Lib.hid C1
  have H2 := Lib.hid C2
  have H3 := Lib.hid C3
  have HM := Lib.hid CM
  skip
  have n2 : (⟨#[47]⟩ : ByteArray).size = 1 := rfl
  clear C1 C2 C3 CM 
  go_enter Tryd.func19, Tryd.ntmps19
  go_wp2_with fail
  refine (H1.out _).mono ?_
  rintro e w1 ⟨rfl, rfl⟩
  go_wp2_with fail
  refine (H2.out _).mono ?_
  rintro e w2 ⟨rfl, hb⟩
  have kr2 := kr.ret hb
  have kj2 := kj.ret hb
  have q2 := q0.trans (hb.mono q0.size)
  clear hb kr kj q0
  obtain ⟨x0, x1, x2, x3, x4, x5, x6⟩ := id kj2
  obtain ⟨y0, y1, y2, y3, y4, y5, y6⟩ := id kr2
  go_wp2_with fail
  refine (H3.out _).mono ?_
  rintro e w3 ⟨rfl, rfl⟩
  have kr3 := kr2.other (M := w.heap.size + 1) (o := 1) (by omega) (.string Lo)
  have kj3 := kj2.set1 Lo
  have q3 := q2.setCell (p := ⟨w.heap.size + 1, 1, none⟩) (Nat.le_succ _) (.string Lo)
  clear kr2 kj2 q2
  have kr4 := (kr3.other (M := w.heap.size + 1) (o := 0) (by omega) (.string X)).other (M := w.heap.size + 1) (o := 1) (by omega) (.string Y)
  have kj4 := (kj3.set0 X).set1 Y
  have q4 := (q3.setCell (p := ⟨w.heap.size + 1, 0, none⟩) (Nat.le_succ _) (.string X)).setCell (p := ⟨w.heap.size + 1, 1, none⟩) (Nat.le_succ _) (.string Y)
  clear kr3 kj3 q3
  go_wp2_with fail
  refine (HM.out _).mono ?_
  rintro e w5 ⟨rfl, hb⟩
  have kr5 := kr4.ret hb
  have kj5 := kj4.ret hb
  have q5 := q4.trans (hb.mono q4.size)
  clear hb kr4 kj4 q4 x0 x1 x2 x3 x4 x5 x6 y0 y1 y2 y3 y4 y5 y6
  obtain ⟨x0, x1, x2, x3, x4, x5, x6⟩ := kj5
  obtain ⟨y0, y1, y2, y3, y4, y5, y6⟩ := kr5
  go_wp2_with fail
  refine bodyPost_ret (ret_jid rfl rfl rfl ((JAt.mk y0 y1 y2 y3 y4 y5 y6).set3 _ _ _)) rfl ⟨rfl, jset_below q5 (Nat.le_refl _) _ _ _⟩
set_option maxHeartbeats 4000000 in
theorem r19_Parse_tfTT (s Lo A R T W : ByteArray) (n : Nat) (w : World)
    (C1 : ∀ w, Calls Tryd.prog 33 #[.string s, .int .u8 47] w fun e w' => e = .returned (.int .i64 n) ∧ w' = w)
    (hn : n < s.size) (hs : s.size ≤ 10000) (hA : s.extract 0 n = A) (hR : s.extract (n + 1) s.size = R)
    (C2 : ∀ w, Calls Tryd.prog 34 #[.string A] w (Ret w (.string Lo)))
    (C3 : ∀ w, Calls Tryd.prog 33 #[.string Lo, .int .u8 64] w fun e w' => e = .returned (.int .i64 (-1)) ∧ w' = w)
    (hlo : Lo.size ≤ 10000)
    (CM : ∀ w, Calls Tryd.prog 35 #[jV ⟨#[]⟩ Lo R] w (Ret w (.bool true)))
    (hrz : R.size ≤ 10000)
    (CT : ∀ w, Calls Tryd.prog 36 #[jV ⟨#[]⟩ Lo R] w (Ret w (.string T)))
    (hW : Lo ++ ⟨#[47]⟩ ++ R = W)
    (hE : (T.toList == W.toList) = true) :
    Calls Tryd.prog 19 #[.string s] w (Ret w (.tuple #[jV ⟨#[]⟩ Lo R, .int .i64 0])) := by
  obtain ⟨kr, kj⟩ := JAt.two w ⟨#[]⟩ ⟨#[]⟩ ⟨#[]⟩ ⟨#[]⟩ ⟨#[]⟩ R
  have q0 := ((Below.refl w.heap.size w).alloc (Nat.le_refl _) (.cells #[.string ⟨#[]⟩, .string ⟨#[]⟩, .string ⟨#[]⟩] 23)).alloc (by simp) (.cells #[.string ⟨#[]⟩, .string ⟨#[]⟩, .string R] 23)
  have H1 := Lib.hid C1
  have H2 := Lib.hid C2
  have H3 := Lib.hid C3
  have HM := Lib.hid CM
  have HT := Lib.hid CT
  have n2 : (⟨#[47]⟩ : ByteArray).size = 1 := rfl
  clear C1 C2 C3 CM CT
  go_enter Tryd.func19, Tryd.ntmps19
  go_wp2_with fail
  refine (H1.out _).mono ?_
  rintro e w1 ⟨rfl, rfl⟩
  go_wp2_with fail
  refine (H2.out _).mono ?_
  rintro e w2 ⟨rfl, hb⟩
  have kr2 := kr.ret hb
  have kj2 := kj.ret hb
  have q2 := q0.trans (hb.mono q0.size)
  clear hb kr kj q0
  obtain ⟨x0, x1, x2, x3, x4, x5, x6⟩ := id kj2
  obtain ⟨y0, y1, y2, y3, y4, y5, y6⟩ := id kr2
  go_wp2_with fail
  refine (H3.out _).mono ?_
  rintro e w3 ⟨rfl, rfl⟩
  have kr3 := kr2.other (M := w.heap.size + 1) (o := 1) (by omega) (.string Lo)
  have kj3 := kj2.set1 Lo
  have q3 := q2.setCell (p := ⟨w.heap.size + 1, 1, none⟩) (Nat.le_succ _) (.string Lo)
  clear kr2 kj2 q2
  have kr4 := kr3
  have kj4 := kj3
  have q4 := q3
  clear kr3 kj3 q3
  go_wp2_with fail
  refine (HM.out _).mono ?_
  rintro e w5 ⟨rfl, hb⟩
  have kr5 := kr4.ret hb
  have kj5 := kj4.ret hb
  have q5 := q4.trans (hb.mono q4.size)
  clear hb kr4 kj4 q4 x0 x1 x2 x3 x4 x5 x6 y0 y1 y2 y3 y4 y5 y6
  obtain ⟨x0, x1, x2, x3, x4, x5, x6⟩ := id kj5
  go_wp2_with fail
  refine (HT.out _).mono ?_
  rintro e w6 ⟨rfl, hb⟩
  have kr6 := kr5.ret hb
  have kj6 := kj5.ret hb
  have q6 := q5.trans (hb.mono q5.size)
  clear hb kr5 kj5 q5 x0 x1 x2 x3 x4 x5 x6
  obtain ⟨x0, x1, x2, x3, x4, x5, x6⟩ := kj6
  obtain ⟨y0, y1, y2, y3, y4, y5, y6⟩ := kr6
  go_wp2_with fail
  refine bodyPost_ret (ret_jid rfl rfl rfl ((JAt.mk y0 y1 y2 y3 y4 y5 y6).set3 _ _ _)) rfl ⟨rfl, jset_below q6 (Nat.le_refl _) _ _ _⟩
set_option maxHeartbeats 4000000 in
theorem r19_Parse_tfTN (s Lo A R T W : ByteArray) (n : Nat) (w : World)
    (C1 : ∀ w, Calls Tryd.prog 33 #[.string s, .int .u8 47] w fun e w' => e = .returned (.int .i64 n) ∧ w' = w)
    (hn : n < s.size) (hs : s.size ≤ 10000) (hA : s.extract 0 n = A) (hR : s.extract (n + 1) s.size = R)
    (C2 : ∀ w, Calls Tryd.prog 34 #[.string A] w (Ret w (.string Lo)))
    (C3 : ∀ w, Calls Tryd.prog 33 #[.string Lo, .int .u8 64] w fun e w' => e = .returned (.int .i64 (-1)) ∧ w' = w)
    (hlo : Lo.size ≤ 10000)
    (CM : ∀ w, Calls Tryd.prog 35 #[jV ⟨#[]⟩ Lo R] w (Ret w (.bool true)))
    (hrz : R.size ≤ 10000)
    (CT : ∀ w, Calls Tryd.prog 36 #[jV ⟨#[]⟩ Lo R] w (Ret w (.string T)))
    (hW : Lo ++ ⟨#[47]⟩ ++ R = W)
    (hE : (T.toList == W.toList) = false) :
    Calls Tryd.prog 19 #[.string s] w (Ret w (.tuple #[jV ⟨#[]⟩ ⟨#[]⟩ ⟨#[]⟩, .int .i64 190])) := by
  obtain ⟨kr, kj⟩ := JAt.two w ⟨#[]⟩ ⟨#[]⟩ ⟨#[]⟩ ⟨#[]⟩ ⟨#[]⟩ R
  have q0 := ((Below.refl w.heap.size w).alloc (Nat.le_refl _) (.cells #[.string ⟨#[]⟩, .string ⟨#[]⟩, .string ⟨#[]⟩] 23)).alloc (by simp) (.cells #[.string ⟨#[]⟩, .string ⟨#[]⟩, .string R] 23)
  have H1 := Lib.hid C1
  have H2 := Lib.hid C2
  have H3 := Lib.hid C3
  have HM := Lib.hid CM
  have HT := Lib.hid CT
  have n2 : (⟨#[47]⟩ : ByteArray).size = 1 := rfl
  clear C1 C2 C3 CM CT
  go_enter Tryd.func19, Tryd.ntmps19
  go_wp2_with fail
  refine (H1.out _).mono ?_
  rintro e w1 ⟨rfl, rfl⟩
  go_wp2_with fail
  refine (H2.out _).mono ?_
  rintro e w2 ⟨rfl, hb⟩
  have kr2 := kr.ret hb
  have kj2 := kj.ret hb
  have q2 := q0.trans (hb.mono q0.size)
  clear hb kr kj q0
  obtain ⟨x0, x1, x2, x3, x4, x5, x6⟩ := id kj2
  obtain ⟨y0, y1, y2, y3, y4, y5, y6⟩ := id kr2
  go_wp2_with fail
  refine (H3.out _).mono ?_
  rintro e w3 ⟨rfl, rfl⟩
  have kr3 := kr2.other (M := w.heap.size + 1) (o := 1) (by omega) (.string Lo)
  have kj3 := kj2.set1 Lo
  have q3 := q2.setCell (p := ⟨w.heap.size + 1, 1, none⟩) (Nat.le_succ _) (.string Lo)
  clear kr2 kj2 q2
  have kr4 := kr3
  have kj4 := kj3
  have q4 := q3
  clear kr3 kj3 q3
  go_wp2_with fail
  refine (HM.out _).mono ?_
  rintro e w5 ⟨rfl, hb⟩
  have kr5 := kr4.ret hb
  have kj5 := kj4.ret hb
  have q5 := q4.trans (hb.mono q4.size)
  clear hb kr4 kj4 q4 x0 x1 x2 x3 x4 x5 x6 y0 y1 y2 y3 y4 y5 y6
  obtain ⟨x0, x1, x2, x3, x4, x5, x6⟩ := id kj5
  go_wp2_with fail
  refine (HT.out _).mono ?_
  rintro e w6 ⟨rfl, hb⟩
  have kr6 := kr5.ret hb
  have kj6 := kj5.ret hb
  have q6 := q5.trans (hb.mono q5.size)
  clear hb kr5 kj5 q5 x0 x1 x2 x3 x4 x5 x6
  obtain ⟨x0, x1, x2, x3, x4, x5, x6⟩ := kj6
  obtain ⟨y0, y1, y2, y3, y4, y5, y6⟩ := kr6
  go_wp2_with fail
  refine bodyPost_ret (ret_jid rfl rfl rfl ((JAt.mk y0 y1 y2 y3 y4 y5 y6).set3 _ _ _)) rfl ⟨rfl, jset_below q6 (Nat.le_refl _) _ _ _⟩
set_option maxHeartbeats 4000000 in
theorem r19_Parse_tfF (s Lo A R : ByteArray) (n : Nat) (w : World)
    (C1 : ∀ w, Calls Tryd.prog 33 #[.string s, .int .u8 47] w fun e w' => e = .returned (.int .i64 n) ∧ w' = w)
    (hn : n < s.size) (hs : s.size ≤ 10000) (hA : s.extract 0 n = A) (hR : s.extract (n + 1) s.size = R)
    (C2 : ∀ w, Calls Tryd.prog 34 #[.string A] w (Ret w (.string Lo)))
    (C3 : ∀ w, Calls Tryd.prog 33 #[.string Lo, .int .u8 64] w fun e w' => e = .returned (.int .i64 (-1)) ∧ w' = w)
    (hlo : Lo.size ≤ 10000)
    (CM : ∀ w, Calls Tryd.prog 35 #[jV ⟨#[]⟩ Lo R] w (Ret w (.bool false)))
    (hrz : R.size ≤ 10000) :
    Calls Tryd.prog 19 #[.string s] w (Ret w (.tuple #[jV ⟨#[]⟩ ⟨#[]⟩ ⟨#[]⟩, .int .i64 190])) := by
  obtain ⟨kr, kj⟩ := JAt.two w ⟨#[]⟩ ⟨#[]⟩ ⟨#[]⟩ ⟨#[]⟩ ⟨#[]⟩ R
  have q0 := ((Below.refl w.heap.size w).alloc (Nat.le_refl _) (.cells #[.string ⟨#[]⟩, .string ⟨#[]⟩, .string ⟨#[]⟩] 23)).alloc (by simp) (.cells #[.string ⟨#[]⟩, .string ⟨#[]⟩, .string R] 23)
  have H1 := Lib.hid C1
  have H2 := Lib.hid C2
  have H3 := Lib.hid C3
  have HM := Lib.hid CM
  skip
  have n2 : (⟨#[47]⟩ : ByteArray).size = 1 := rfl
  clear C1 C2 C3 CM 
  go_enter Tryd.func19, Tryd.ntmps19
  go_wp2_with fail
  refine (H1.out _).mono ?_
  rintro e w1 ⟨rfl, rfl⟩
  go_wp2_with fail
  refine (H2.out _).mono ?_
  rintro e w2 ⟨rfl, hb⟩
  have kr2 := kr.ret hb
  have kj2 := kj.ret hb
  have q2 := q0.trans (hb.mono q0.size)
  clear hb kr kj q0
  obtain ⟨x0, x1, x2, x3, x4, x5, x6⟩ := id kj2
  obtain ⟨y0, y1, y2, y3, y4, y5, y6⟩ := id kr2
  go_wp2_with fail
  refine (H3.out _).mono ?_
  rintro e w3 ⟨rfl, rfl⟩
  have kr3 := kr2.other (M := w.heap.size + 1) (o := 1) (by omega) (.string Lo)
  have kj3 := kj2.set1 Lo
  have q3 := q2.setCell (p := ⟨w.heap.size + 1, 1, none⟩) (Nat.le_succ _) (.string Lo)
  clear kr2 kj2 q2
  have kr4 := kr3
  have kj4 := kj3
  have q4 := q3
  clear kr3 kj3 q3
  go_wp2_with fail
  refine (HM.out _).mono ?_
  rintro e w5 ⟨rfl, hb⟩
  have kr5 := kr4.ret hb
  have kj5 := kj4.ret hb
  have q5 := q4.trans (hb.mono q4.size)
  clear hb kr4 kj4 q4 x0 x1 x2 x3 x4 x5 x6 y0 y1 y2 y3 y4 y5 y6
  obtain ⟨x0, x1, x2, x3, x4, x5, x6⟩ := kj5
  obtain ⟨y0, y1, y2, y3, y4, y5, y6⟩ := kr5
  go_wp2_with fail
  refine bodyPost_ret (ret_jid rfl rfl rfl ((JAt.mk y0 y1 y2 y3 y4 y5 y6).set3 _ _ _)) rfl ⟨rfl, jset_below q5 (Nat.le_refl _) _ _ _⟩
set_option maxHeartbeats 4000000 in
theorem r19_Parse_ftTT (s Lo X Y T : ByteArray) (m : Nat) (w : World)
    (C1 : ∀ w, Calls Tryd.prog 33 #[.string s, .int .u8 47] w fun e w' => e = .returned (.int .i64 (-1)) ∧ w' = w)
    (C2 : ∀ w, Calls Tryd.prog 34 #[.string s] w (Ret w (.string Lo)))
    (C3 : ∀ w, Calls Tryd.prog 33 #[.string Lo, .int .u8 64] w fun e w' => e = .returned (.int .i64 m) ∧ w' = w)
    (hlo : Lo.size ≤ 10000)
    (hmm : m < Lo.size) (hX : Lo.extract 0 m = X) (hY : Lo.extract (m + 1) Lo.size = Y)
    (CM : ∀ w, Calls Tryd.prog 35 #[jV X Y ⟨#[]⟩] w (Ret w (.bool true)))
    (CT : ∀ w, Calls Tryd.prog 36 #[jV X Y ⟨#[]⟩] w (Ret w (.string T)))
    (hE : (T.toList == Lo.toList) = true) :
    Calls Tryd.prog 19 #[.string s] w (Ret w (.tuple #[jV X Y ⟨#[]⟩, .int .i64 0])) := by
  obtain ⟨kr, kj⟩ := JAt.two w ⟨#[]⟩ ⟨#[]⟩ ⟨#[]⟩ ⟨#[]⟩ ⟨#[]⟩ ⟨#[]⟩
  have q0 := ((Below.refl w.heap.size w).alloc (Nat.le_refl _) (.cells #[.string ⟨#[]⟩, .string ⟨#[]⟩, .string ⟨#[]⟩] 23)).alloc (by simp) (.cells #[.string ⟨#[]⟩, .string ⟨#[]⟩, .string ⟨#[]⟩] 23)
  have H1 := Lib.hid C1
  have H2 := Lib.hid C2
  have H3 := Lib.hid C3
  have HM := Lib.hid CM
  have HT := Lib.hid CT
  have n2 : (⟨#[47]⟩ : ByteArray).size = 1 := rfl
  clear C1 C2 C3 CM CT
  go_enter Tryd.func19, Tryd.ntmps19
  go_wp2_with fail
  refine (H1.out _).mono ?_
  rintro e w1 ⟨rfl, rfl⟩
  go_wp2_with fail
  refine (H2.out _).mono ?_
  rintro e w2 ⟨rfl, hb⟩
  have kr2 := kr.ret hb
  have kj2 := kj.ret hb
  have q2 := q0.trans (hb.mono q0.size)
  clear hb kr kj q0
  obtain ⟨x0, x1, x2, x3, x4, x5, x6⟩ := id kj2
  obtain ⟨y0, y1, y2, y3, y4, y5, y6⟩ := id kr2
  go_wp2_with fail
  refine (H3.out _).mono ?_
  rintro e w3 ⟨rfl, rfl⟩
  have kr3 := kr2.other (M := w.heap.size + 1) (o := 1) (by omega) (.string Lo)
  have kj3 := kj2.set1 Lo
  have q3 := q2.setCell (p := ⟨w.heap.size + 1, 1, none⟩) (Nat.le_succ _) (.string Lo)
  clear kr2 kj2 q2
  have kr4 := (kr3.other (M := w.heap.size + 1) (o := 0) (by omega) (.string X)).other (M := w.heap.size + 1) (o := 1) (by omega) (.string Y)
  have kj4 := (kj3.set0 X).set1 Y
  have q4 := (q3.setCell (p := ⟨w.heap.size + 1, 0, none⟩) (Nat.le_succ _) (.string X)).setCell (p := ⟨w.heap.size + 1, 1, none⟩) (Nat.le_succ _) (.string Y)
  clear kr3 kj3 q3
  go_wp2_with fail
  refine (HM.out _).mono ?_
  rintro e w5 ⟨rfl, hb⟩
  have kr5 := kr4.ret hb
  have kj5 := kj4.ret hb
  have q5 := q4.trans (hb.mono q4.size)
  clear hb kr4 kj4 q4 x0 x1 x2 x3 x4 x5 x6 y0 y1 y2 y3 y4 y5 y6
  obtain ⟨x0, x1, x2, x3, x4, x5, x6⟩ := id kj5
  go_wp2_with fail
  refine (HT.out _).mono ?_
  rintro e w6 ⟨rfl, hb⟩
  have kr6 := kr5.ret hb
  have kj6 := kj5.ret hb
  have q6 := q5.trans (hb.mono q5.size)
  clear hb kr5 kj5 q5 x0 x1 x2 x3 x4 x5 x6
  obtain ⟨x0, x1, x2, x3, x4, x5, x6⟩ := kj6
  obtain ⟨y0, y1, y2, y3, y4, y5, y6⟩ := kr6
  go_wp2_with fail
  refine bodyPost_ret (ret_jid rfl rfl rfl ((JAt.mk y0 y1 y2 y3 y4 y5 y6).set3 _ _ _)) rfl ⟨rfl, jset_below q6 (Nat.le_refl _) _ _ _⟩
set_option maxHeartbeats 4000000 in
theorem r19_Parse_ftTN (s Lo X Y T : ByteArray) (m : Nat) (w : World)
    (C1 : ∀ w, Calls Tryd.prog 33 #[.string s, .int .u8 47] w fun e w' => e = .returned (.int .i64 (-1)) ∧ w' = w)
    (C2 : ∀ w, Calls Tryd.prog 34 #[.string s] w (Ret w (.string Lo)))
    (C3 : ∀ w, Calls Tryd.prog 33 #[.string Lo, .int .u8 64] w fun e w' => e = .returned (.int .i64 m) ∧ w' = w)
    (hlo : Lo.size ≤ 10000)
    (hmm : m < Lo.size) (hX : Lo.extract 0 m = X) (hY : Lo.extract (m + 1) Lo.size = Y)
    (CM : ∀ w, Calls Tryd.prog 35 #[jV X Y ⟨#[]⟩] w (Ret w (.bool true)))
    (CT : ∀ w, Calls Tryd.prog 36 #[jV X Y ⟨#[]⟩] w (Ret w (.string T)))
    (hE : (T.toList == Lo.toList) = false) :
    Calls Tryd.prog 19 #[.string s] w (Ret w (.tuple #[jV ⟨#[]⟩ ⟨#[]⟩ ⟨#[]⟩, .int .i64 190])) := by
  obtain ⟨kr, kj⟩ := JAt.two w ⟨#[]⟩ ⟨#[]⟩ ⟨#[]⟩ ⟨#[]⟩ ⟨#[]⟩ ⟨#[]⟩
  have q0 := ((Below.refl w.heap.size w).alloc (Nat.le_refl _) (.cells #[.string ⟨#[]⟩, .string ⟨#[]⟩, .string ⟨#[]⟩] 23)).alloc (by simp) (.cells #[.string ⟨#[]⟩, .string ⟨#[]⟩, .string ⟨#[]⟩] 23)
  have H1 := Lib.hid C1
  have H2 := Lib.hid C2
  have H3 := Lib.hid C3
  have HM := Lib.hid CM
  have HT := Lib.hid CT
  have n2 : (⟨#[47]⟩ : ByteArray).size = 1 := rfl
  clear C1 C2 C3 CM CT
  go_enter Tryd.func19, Tryd.ntmps19
  go_wp2_with fail
  refine (H1.out _).mono ?_
  rintro e w1 ⟨rfl, rfl⟩
  go_wp2_with fail
  refine (H2.out _).mono ?_
  rintro e w2 ⟨rfl, hb⟩
  have kr2 := kr.ret hb
  have kj2 := kj.ret hb
  have q2 := q0.trans (hb.mono q0.size)
  clear hb kr kj q0
  obtain ⟨x0, x1, x2, x3, x4, x5, x6⟩ := id kj2
  obtain ⟨y0, y1, y2, y3, y4, y5, y6⟩ := id kr2
  go_wp2_with fail
  refine (H3.out _).mono ?_
  rintro e w3 ⟨rfl, rfl⟩
  have kr3 := kr2.other (M := w.heap.size + 1) (o := 1) (by omega) (.string Lo)
  have kj3 := kj2.set1 Lo
  have q3 := q2.setCell (p := ⟨w.heap.size + 1, 1, none⟩) (Nat.le_succ _) (.string Lo)
  clear kr2 kj2 q2
  have kr4 := (kr3.other (M := w.heap.size + 1) (o := 0) (by omega) (.string X)).other (M := w.heap.size + 1) (o := 1) (by omega) (.string Y)
  have kj4 := (kj3.set0 X).set1 Y
  have q4 := (q3.setCell (p := ⟨w.heap.size + 1, 0, none⟩) (Nat.le_succ _) (.string X)).setCell (p := ⟨w.heap.size + 1, 1, none⟩) (Nat.le_succ _) (.string Y)
  clear kr3 kj3 q3
  go_wp2_with fail
  refine (HM.out _).mono ?_
  rintro e w5 ⟨rfl, hb⟩
  have kr5 := kr4.ret hb
  have kj5 := kj4.ret hb
  have q5 := q4.trans (hb.mono q4.size)
  clear hb kr4 kj4 q4 x0 x1 x2 x3 x4 x5 x6 y0 y1 y2 y3 y4 y5 y6
  obtain ⟨x0, x1, x2, x3, x4, x5, x6⟩ := id kj5
  go_wp2_with fail
  refine (HT.out _).mono ?_
  rintro e w6 ⟨rfl, hb⟩
  have kr6 := kr5.ret hb
  have kj6 := kj5.ret hb
  have q6 := q5.trans (hb.mono q5.size)
  clear hb kr5 kj5 q5 x0 x1 x2 x3 x4 x5 x6
  obtain ⟨x0, x1, x2, x3, x4, x5, x6⟩ := kj6
  obtain ⟨y0, y1, y2, y3, y4, y5, y6⟩ := kr6
  go_wp2_with fail
  refine bodyPost_ret (ret_jid rfl rfl rfl ((JAt.mk y0 y1 y2 y3 y4 y5 y6).set3 _ _ _)) rfl ⟨rfl, jset_below q6 (Nat.le_refl _) _ _ _⟩
set_option maxHeartbeats 4000000 in
theorem r19_Parse_ftF (s Lo X Y : ByteArray) (m : Nat) (w : World)
    (C1 : ∀ w, Calls Tryd.prog 33 #[.string s, .int .u8 47] w fun e w' => e = .returned (.int .i64 (-1)) ∧ w' = w)
    (C2 : ∀ w, Calls Tryd.prog 34 #[.string s] w (Ret w (.string Lo)))
    (C3 : ∀ w, Calls Tryd.prog 33 #[.string Lo, .int .u8 64] w fun e w' => e = .returned (.int .i64 m) ∧ w' = w)
    (hlo : Lo.size ≤ 10000)
    (hmm : m < Lo.size) (hX : Lo.extract 0 m = X) (hY : Lo.extract (m + 1) Lo.size = Y)
    (CM : ∀ w, Calls Tryd.prog 35 #[jV X Y ⟨#[]⟩] w (Ret w (.bool false))) :
    Calls Tryd.prog 19 #[.string s] w (Ret w (.tuple #[jV ⟨#[]⟩ ⟨#[]⟩ ⟨#[]⟩, .int .i64 190])) := by
  obtain ⟨kr, kj⟩ := JAt.two w ⟨#[]⟩ ⟨#[]⟩ ⟨#[]⟩ ⟨#[]⟩ ⟨#[]⟩ ⟨#[]⟩
  have q0 := ((Below.refl w.heap.size w).alloc (Nat.le_refl _) (.cells #[.string ⟨#[]⟩, .string ⟨#[]⟩, .string ⟨#[]⟩] 23)).alloc (by simp) (.cells #[.string ⟨#[]⟩, .string ⟨#[]⟩, .string ⟨#[]⟩] 23)
  have H1 := Lib.hid C1
  have H2 := Lib.hid C2
  have H3 := Lib.hid C3
  have HM := Lib.hid CM
  skip
  have n2 : (⟨#[47]⟩ : ByteArray).size = 1 := rfl
  clear C1 C2 C3 CM 
  go_enter Tryd.func19, Tryd.ntmps19
  go_wp2_with fail
  refine (H1.out _).mono ?_
  rintro e w1 ⟨rfl, rfl⟩
  go_wp2_with fail
  refine (H2.out _).mono ?_
  rintro e w2 ⟨rfl, hb⟩
  have kr2 := kr.ret hb
  have kj2 := kj.ret hb
  have q2 := q0.trans (hb.mono q0.size)
  clear hb kr kj q0
  obtain ⟨x0, x1, x2, x3, x4, x5, x6⟩ := id kj2
  obtain ⟨y0, y1, y2, y3, y4, y5, y6⟩ := id kr2
  go_wp2_with fail
  refine (H3.out _).mono ?_
  rintro e w3 ⟨rfl, rfl⟩
  have kr3 := kr2.other (M := w.heap.size + 1) (o := 1) (by omega) (.string Lo)
  have kj3 := kj2.set1 Lo
  have q3 := q2.setCell (p := ⟨w.heap.size + 1, 1, none⟩) (Nat.le_succ _) (.string Lo)
  clear kr2 kj2 q2
  have kr4 := (kr3.other (M := w.heap.size + 1) (o := 0) (by omega) (.string X)).other (M := w.heap.size + 1) (o := 1) (by omega) (.string Y)
  have kj4 := (kj3.set0 X).set1 Y
  have q4 := (q3.setCell (p := ⟨w.heap.size + 1, 0, none⟩) (Nat.le_succ _) (.string X)).setCell (p := ⟨w.heap.size + 1, 1, none⟩) (Nat.le_succ _) (.string Y)
  clear kr3 kj3 q3
  go_wp2_with fail
  refine (HM.out _).mono ?_
  rintro e w5 ⟨rfl, hb⟩
  have kr5 := kr4.ret hb
  have kj5 := kj4.ret hb
  have q5 := q4.trans (hb.mono q4.size)
  clear hb kr4 kj4 q4 x0 x1 x2 x3 x4 x5 x6 y0 y1 y2 y3 y4 y5 y6
  obtain ⟨x0, x1, x2, x3, x4, x5, x6⟩ := kj5
  obtain ⟨y0, y1, y2, y3, y4, y5, y6⟩ := kr5
  go_wp2_with fail
  refine bodyPost_ret (ret_jid rfl rfl rfl ((JAt.mk y0 y1 y2 y3 y4 y5 y6).set3 _ _ _)) rfl ⟨rfl, jset_below q5 (Nat.le_refl _) _ _ _⟩
set_option maxHeartbeats 4000000 in
theorem r19_Parse_ffTT (s Lo T : ByteArray) (w : World)
    (C1 : ∀ w, Calls Tryd.prog 33 #[.string s, .int .u8 47] w fun e w' => e = .returned (.int .i64 (-1)) ∧ w' = w)
    (C2 : ∀ w, Calls Tryd.prog 34 #[.string s] w (Ret w (.string Lo)))
    (C3 : ∀ w, Calls Tryd.prog 33 #[.string Lo, .int .u8 64] w fun e w' => e = .returned (.int .i64 (-1)) ∧ w' = w)
    (CM : ∀ w, Calls Tryd.prog 35 #[jV ⟨#[]⟩ Lo ⟨#[]⟩] w (Ret w (.bool true)))
    (CT : ∀ w, Calls Tryd.prog 36 #[jV ⟨#[]⟩ Lo ⟨#[]⟩] w (Ret w (.string T)))
    (hE : (T.toList == Lo.toList) = true) :
    Calls Tryd.prog 19 #[.string s] w (Ret w (.tuple #[jV ⟨#[]⟩ Lo ⟨#[]⟩, .int .i64 0])) := by
  obtain ⟨kr, kj⟩ := JAt.two w ⟨#[]⟩ ⟨#[]⟩ ⟨#[]⟩ ⟨#[]⟩ ⟨#[]⟩ ⟨#[]⟩
  have q0 := ((Below.refl w.heap.size w).alloc (Nat.le_refl _) (.cells #[.string ⟨#[]⟩, .string ⟨#[]⟩, .string ⟨#[]⟩] 23)).alloc (by simp) (.cells #[.string ⟨#[]⟩, .string ⟨#[]⟩, .string ⟨#[]⟩] 23)
  have H1 := Lib.hid C1
  have H2 := Lib.hid C2
  have H3 := Lib.hid C3
  have HM := Lib.hid CM
  have HT := Lib.hid CT
  have n2 : (⟨#[47]⟩ : ByteArray).size = 1 := rfl
  clear C1 C2 C3 CM CT
  go_enter Tryd.func19, Tryd.ntmps19
  go_wp2_with fail
  refine (H1.out _).mono ?_
  rintro e w1 ⟨rfl, rfl⟩
  go_wp2_with fail
  refine (H2.out _).mono ?_
  rintro e w2 ⟨rfl, hb⟩
  have kr2 := kr.ret hb
  have kj2 := kj.ret hb
  have q2 := q0.trans (hb.mono q0.size)
  clear hb kr kj q0
  obtain ⟨x0, x1, x2, x3, x4, x5, x6⟩ := id kj2
  obtain ⟨y0, y1, y2, y3, y4, y5, y6⟩ := id kr2
  go_wp2_with fail
  refine (H3.out _).mono ?_
  rintro e w3 ⟨rfl, rfl⟩
  have kr3 := kr2.other (M := w.heap.size + 1) (o := 1) (by omega) (.string Lo)
  have kj3 := kj2.set1 Lo
  have q3 := q2.setCell (p := ⟨w.heap.size + 1, 1, none⟩) (Nat.le_succ _) (.string Lo)
  clear kr2 kj2 q2
  have kr4 := kr3
  have kj4 := kj3
  have q4 := q3
  clear kr3 kj3 q3
  go_wp2_with fail
  refine (HM.out _).mono ?_
  rintro e w5 ⟨rfl, hb⟩
  have kr5 := kr4.ret hb
  have kj5 := kj4.ret hb
  have q5 := q4.trans (hb.mono q4.size)
  clear hb kr4 kj4 q4 x0 x1 x2 x3 x4 x5 x6 y0 y1 y2 y3 y4 y5 y6
  obtain ⟨x0, x1, x2, x3, x4, x5, x6⟩ := id kj5
  go_wp2_with fail
  refine (HT.out _).mono ?_
  rintro e w6 ⟨rfl, hb⟩
  have kr6 := kr5.ret hb
  have kj6 := kj5.ret hb
  have q6 := q5.trans (hb.mono q5.size)
  clear hb kr5 kj5 q5 x0 x1 x2 x3 x4 x5 x6
  obtain ⟨x0, x1, x2, x3, x4, x5, x6⟩ := kj6
  obtain ⟨y0, y1, y2, y3, y4, y5, y6⟩ := kr6
  go_wp2_with fail
  refine bodyPost_ret (ret_jid rfl rfl rfl ((JAt.mk y0 y1 y2 y3 y4 y5 y6).set3 _ _ _)) rfl ⟨rfl, jset_below q6 (Nat.le_refl _) _ _ _⟩
set_option maxHeartbeats 4000000 in
theorem r19_Parse_ffTN (s Lo T : ByteArray) (w : World)
    (C1 : ∀ w, Calls Tryd.prog 33 #[.string s, .int .u8 47] w fun e w' => e = .returned (.int .i64 (-1)) ∧ w' = w)
    (C2 : ∀ w, Calls Tryd.prog 34 #[.string s] w (Ret w (.string Lo)))
    (C3 : ∀ w, Calls Tryd.prog 33 #[.string Lo, .int .u8 64] w fun e w' => e = .returned (.int .i64 (-1)) ∧ w' = w)
    (CM : ∀ w, Calls Tryd.prog 35 #[jV ⟨#[]⟩ Lo ⟨#[]⟩] w (Ret w (.bool true)))
    (CT : ∀ w, Calls Tryd.prog 36 #[jV ⟨#[]⟩ Lo ⟨#[]⟩] w (Ret w (.string T)))
    (hE : (T.toList == Lo.toList) = false) :
    Calls Tryd.prog 19 #[.string s] w (Ret w (.tuple #[jV ⟨#[]⟩ ⟨#[]⟩ ⟨#[]⟩, .int .i64 190])) := by
  obtain ⟨kr, kj⟩ := JAt.two w ⟨#[]⟩ ⟨#[]⟩ ⟨#[]⟩ ⟨#[]⟩ ⟨#[]⟩ ⟨#[]⟩
  have q0 := ((Below.refl w.heap.size w).alloc (Nat.le_refl _) (.cells #[.string ⟨#[]⟩, .string ⟨#[]⟩, .string ⟨#[]⟩] 23)).alloc (by simp) (.cells #[.string ⟨#[]⟩, .string ⟨#[]⟩, .string ⟨#[]⟩] 23)
  have H1 := Lib.hid C1
  have H2 := Lib.hid C2
  have H3 := Lib.hid C3
  have HM := Lib.hid CM
  have HT := Lib.hid CT
  have n2 : (⟨#[47]⟩ : ByteArray).size = 1 := rfl
  clear C1 C2 C3 CM CT
  go_enter Tryd.func19, Tryd.ntmps19
  go_wp2_with fail
  refine (H1.out _).mono ?_
  rintro e w1 ⟨rfl, rfl⟩
  go_wp2_with fail
  refine (H2.out _).mono ?_
  rintro e w2 ⟨rfl, hb⟩
  have kr2 := kr.ret hb
  have kj2 := kj.ret hb
  have q2 := q0.trans (hb.mono q0.size)
  clear hb kr kj q0
  obtain ⟨x0, x1, x2, x3, x4, x5, x6⟩ := id kj2
  obtain ⟨y0, y1, y2, y3, y4, y5, y6⟩ := id kr2
  go_wp2_with fail
  refine (H3.out _).mono ?_
  rintro e w3 ⟨rfl, rfl⟩
  have kr3 := kr2.other (M := w.heap.size + 1) (o := 1) (by omega) (.string Lo)
  have kj3 := kj2.set1 Lo
  have q3 := q2.setCell (p := ⟨w.heap.size + 1, 1, none⟩) (Nat.le_succ _) (.string Lo)
  clear kr2 kj2 q2
  have kr4 := kr3
  have kj4 := kj3
  have q4 := q3
  clear kr3 kj3 q3
  go_wp2_with fail
  refine (HM.out _).mono ?_
  rintro e w5 ⟨rfl, hb⟩
  have kr5 := kr4.ret hb
  have kj5 := kj4.ret hb
  have q5 := q4.trans (hb.mono q4.size)
  clear hb kr4 kj4 q4 x0 x1 x2 x3 x4 x5 x6 y0 y1 y2 y3 y4 y5 y6
  obtain ⟨x0, x1, x2, x3, x4, x5, x6⟩ := id kj5
  go_wp2_with fail
  refine (HT.out _).mono ?_
  rintro e w6 ⟨rfl, hb⟩
  have kr6 := kr5.ret hb
  have kj6 := kj5.ret hb
  have q6 := q5.trans (hb.mono q5.size)
  clear hb kr5 kj5 q5 x0 x1 x2 x3 x4 x5 x6
  obtain ⟨x0, x1, x2, x3, x4, x5, x6⟩ := kj6
  obtain ⟨y0, y1, y2, y3, y4, y5, y6⟩ := kr6
  go_wp2_with fail
  refine bodyPost_ret (ret_jid rfl rfl rfl ((JAt.mk y0 y1 y2 y3 y4 y5 y6).set3 _ _ _)) rfl ⟨rfl, jset_below q6 (Nat.le_refl _) _ _ _⟩
set_option maxHeartbeats 4000000 in
theorem r19_Parse_ffF (s Lo : ByteArray) (w : World)
    (C1 : ∀ w, Calls Tryd.prog 33 #[.string s, .int .u8 47] w fun e w' => e = .returned (.int .i64 (-1)) ∧ w' = w)
    (C2 : ∀ w, Calls Tryd.prog 34 #[.string s] w (Ret w (.string Lo)))
    (C3 : ∀ w, Calls Tryd.prog 33 #[.string Lo, .int .u8 64] w fun e w' => e = .returned (.int .i64 (-1)) ∧ w' = w)
    (CM : ∀ w, Calls Tryd.prog 35 #[jV ⟨#[]⟩ Lo ⟨#[]⟩] w (Ret w (.bool false))) :
    Calls Tryd.prog 19 #[.string s] w (Ret w (.tuple #[jV ⟨#[]⟩ ⟨#[]⟩ ⟨#[]⟩, .int .i64 190])) := by
  obtain ⟨kr, kj⟩ := JAt.two w ⟨#[]⟩ ⟨#[]⟩ ⟨#[]⟩ ⟨#[]⟩ ⟨#[]⟩ ⟨#[]⟩
  have q0 := ((Below.refl w.heap.size w).alloc (Nat.le_refl _) (.cells #[.string ⟨#[]⟩, .string ⟨#[]⟩, .string ⟨#[]⟩] 23)).alloc (by simp) (.cells #[.string ⟨#[]⟩, .string ⟨#[]⟩, .string ⟨#[]⟩] 23)
  have H1 := Lib.hid C1
  have H2 := Lib.hid C2
  have H3 := Lib.hid C3
  have HM := Lib.hid CM
  skip
  have n2 : (⟨#[47]⟩ : ByteArray).size = 1 := rfl
  clear C1 C2 C3 CM 
  go_enter Tryd.func19, Tryd.ntmps19
  go_wp2_with fail
  refine (H1.out _).mono ?_
  rintro e w1 ⟨rfl, rfl⟩
  go_wp2_with fail
  refine (H2.out _).mono ?_
  rintro e w2 ⟨rfl, hb⟩
  have kr2 := kr.ret hb
  have kj2 := kj.ret hb
  have q2 := q0.trans (hb.mono q0.size)
  clear hb kr kj q0
  obtain ⟨x0, x1, x2, x3, x4, x5, x6⟩ := id kj2
  obtain ⟨y0, y1, y2, y3, y4, y5, y6⟩ := id kr2
  go_wp2_with fail
  refine (H3.out _).mono ?_
  rintro e w3 ⟨rfl, rfl⟩
  have kr3 := kr2.other (M := w.heap.size + 1) (o := 1) (by omega) (.string Lo)
  have kj3 := kj2.set1 Lo
  have q3 := q2.setCell (p := ⟨w.heap.size + 1, 1, none⟩) (Nat.le_succ _) (.string Lo)
  clear kr2 kj2 q2
  have kr4 := kr3
  have kj4 := kj3
  have q4 := q3
  clear kr3 kj3 q3
  go_wp2_with fail
  refine (HM.out _).mono ?_
  rintro e w5 ⟨rfl, hb⟩
  have kr5 := kr4.ret hb
  have kj5 := kj4.ret hb
  have q5 := q4.trans (hb.mono q4.size)
  clear hb kr4 kj4 q4 x0 x1 x2 x3 x4 x5 x6 y0 y1 y2 y3 y4 y5 y6
  obtain ⟨x0, x1, x2, x3, x4, x5, x6⟩ := kj5
  obtain ⟨y0, y1, y2, y3, y4, y5, y6⟩ := kr5
  go_wp2_with fail
  refine bodyPost_ret (ret_jid rfl rfl rfl ((JAt.mk y0 y1 y2 y3 y4 y5 y6).set3 _ _ _)) rfl ⟨rfl, jset_below q5 (Nat.le_refl _) _ _ _⟩
theorem cut_facts (c : UInt8) (s : ByteArray) (h : s.data.toList.contains c = true) : (cA c s.data.toList).length < s.size ∧ s.extract 0 (cA c s.data.toList).length = jB (cA c s.data.toList) ∧ s.extract ((cA c s.data.toList).length + 1) s.size = jB (cR c s.data.toList) := by
  obtain ⟨e, -⟩ := cA_cR c s.data.toList (by simpa using h)
  have hl := congrArg List.length e
  rw [size_toList, List.length_append, List.length_cons] at hl
  refine ⟨by omega, ?_, ?_⟩
  · apply str_ext
    rw [ext_data, List.drop_zero, Nat.sub_zero, jB_list]
    conv => lhs; rw [e]
    rw [List.take_append_of_le_length (by rw [← e]; exact Nat.le_refl _), List.take_of_length_le (by rw [← e]; exact Nat.le_refl _)]
  · apply str_ext
    rw [ext_tail, jB_list]
    have : ∀ n, n = (cA c s.data.toList).length → s.data.toList.drop (n + 1) = cR c s.data.toList := fun n hn => by
      conv => lhs; rw [e]
      rw [hn, List.drop_append]
      simp
    exact this _ rfl
theorem bB_eq (a b : List UInt8) : ((jB a).toList == (jB b).toList) = decide (a = b) := eqb_bytes a b
theorem r19_Parse (s : ByteArray) (w : World) (hs : s.size ≤ 10000) : Calls Tryd.prog 19 #[.string s] w (Ret w (prsV s.data.toList)) := by
  have C1 := fun w => r19_at s 47 w hs
  have hz := size_toList s
  have cf := cut_facts 47 s
  obtain ⟨l, hl⟩ : ∃ l, s.data.toList = l := ⟨_, rfl⟩
  rw [hl] at C1 hz cf ⊢
  have zA := len_cA 47 l
  have zR := len_cR 47 l
  have zLo := len_lowA l
  have zX := len_cA 64 (lowA l)
  have zY := len_cR 64 (lowA l)
  have C3 := fun w => r19_at (jB (lowA l)) 64 w (by rw [jB_size]; first | omega | (rw [len_low]; omega))
  have cf2 := cut_facts 64 (jB (lowA l))
  rw [jB_list] at C3 cf2
  have C4 : ∀ a b c : List UInt8, a.length ≤ 10000 → b.length ≤ 10000 → c.length ≤ 10000 → ∀ w : World, Calls Tryd.prog 35 #[jV (jB a) (jB b) (jB c)] w (Ret w (.bool (chkP a b c))) := by
    intro a b c za zb zc w
    have := r19_May (jB a) (jB b) (jB c) w (by rw [jB_size]; exact za) (by rw [jB_size]; exact zb) (by rw [jB_size]; exact zc)
    rw [jB_list, jB_list, jB_list] at this
    exact this
  have C5 : ∀ a b c : List UInt8, a.length ≤ 10000 → b.length ≤ 10000 → c.length ≤ 10000 → ∀ w : World, Calls Tryd.prog 36 #[jV (jB a) (jB b) (jB c)] w (Ret w (.string (jB (txtP a b c)))) := by
    intro a b c za zb zc w
    have := r19_Text (jB a) (jB b) (jB c) w (by rw [jB_size]; exact za) (by rw [jB_size]; exact zb) (by rw [jB_size]; exact zc)
    rw [jB_list, jB_list, jB_list] at this
    exact this
  have hp := ref_prs l
  have zl1 : (jLoc l).length ≤ 10000 := by
    unfold jLoc
    split
    · omega
    · exact Nat.zero_le _
  have zd1 : (jDom l).length ≤ 10000 := by
    unfold jDom
    split <;> omega
  have zr1 : (jRes l).length ≤ 10000 := by unfold jRes; omega
  have CM := C4 (jLoc l) (jDom l) (jRes l) zl1 zd1 zr1
  have CT := C5 (jLoc l) (jDom l) (jRes l) zl1 zd1 zr1
  clear C4 C5
  unfold prsV
  have hW : ∀ W : ByteArray, W.data.toList = wantP l → ((jB (txtP (jLoc l) (jDom l) (jRes l))).toList == W.toList) = decide (txtP (jLoc l) (jDom l) (jRes l) = wantP l) := fun W hWl => str_eqb _ _ _ _ (jB_list _) hWl
  unfold atP at C1 C3
  cases hh : (lowA l).contains 64 with
  | true =>
    cases hb : l.contains 47 with
    | true =>
      rw [hb, if_pos rfl] at C1
      obtain ⟨a1, a2, a3⟩ := cf hb
      have C2 := fun w => r7_Lower (jB (cA 47 l)) w (by rw [jB_size]; first | omega | (rw [len_low]; omega))
      rw [jB_list] at C2
      have eL : jLoc l = cA 64 (lowA l) := by unfold jLoc; rw [hh]; rfl
      have eD : jDom l = cR 64 (lowA l) := by unfold jDom; rw [hh]; rfl
      rw [hh, if_pos rfl] at C3
      obtain ⟨b1, b2, b3⟩ := cf2 hh
      rw [eL, eD] at CM CT
      have hq := hW (jB (lowA l) ++ ⟨#[47]⟩ ++ jB (cR 47 l)) (by unfold wantP; rw [hb]; simp [jRes])
      rw [eL, eD] at hp hq
      rw [eL, eD]
      cases hc : chkP (cA 64 (lowA l)) (cR 64 (lowA l)) (jRes l) with
      | false =>
        rw [hc, Bool.false_and] at hp
        rw [hc] at CM
        rw [← hp]
        exact r19_Parse_ttF s _ _ _ _ _ _ _ w C1 a1 hs a2 a3 C2 C3 (by rw [jB_size]; first | omega | (rw [len_low]; omega)) b1 b2 b3 CM (by rw [jB_size]; first | omega | (rw [len_low]; omega))
      | true =>
        rw [hc] at CM
        rw [hc, Bool.true_and] at hp
        rw [hp] at hq
        cases he : prsP l with
        | true =>
          rw [he] at hq
          exact r19_Parse_ttTT s _ _ _ _ _ _ _ _ _ w C1 a1 hs a2 a3 C2 C3 (by rw [jB_size]; first | omega | (rw [len_low]; omega)) b1 b2 b3 CM (by rw [jB_size]; first | omega | (rw [len_low]; omega)) CT rfl hq
        | false =>
          rw [he] at hq
          exact r19_Parse_ttTN s _ _ _ _ _ _ _ _ _ w C1 a1 hs a2 a3 C2 C3 (by rw [jB_size]; first | omega | (rw [len_low]; omega)) b1 b2 b3 CM (by rw [jB_size]; first | omega | (rw [len_low]; omega)) CT rfl hq
    | false =>
      rw [hb, if_neg (by decide)] at C1
      have eA : cA 47 l = l := (cA_not 47 l (by simpa using hb)).1
      have eR : jRes l = [] := (cA_not 47 l (by simpa using hb)).2
      have C2 := fun w => r7_Lower s w (by omega)
      rw [hl, show lowL l = lowA l by unfold lowA; rw [eA]] at C2
      rw [eR] at CM CT
      have eL : jLoc l = cA 64 (lowA l) := by unfold jLoc; rw [hh]; rfl
      have eD : jDom l = cR 64 (lowA l) := by unfold jDom; rw [hh]; rfl
      rw [hh, if_pos rfl] at C3
      obtain ⟨b1, b2, b3⟩ := cf2 hh
      rw [eL, eD] at CM CT
      have hq := hW (jB (lowA l)) (by unfold wantP; rw [hb]; simp)
      rw [eL, eD, eR] at hp hq
      rw [eL, eD, eR]
      cases hc : chkP (cA 64 (lowA l)) (cR 64 (lowA l)) [] with
      | false =>
        rw [hc, Bool.false_and] at hp
        rw [hc] at CM
        rw [← hp]
        exact r19_Parse_ftF s _ _ _ _ w C1 C2 C3 (by rw [jB_size]; first | omega | (rw [len_low]; omega)) b1 b2 b3 CM
      | true =>
        rw [hc] at CM
        rw [hc, Bool.true_and] at hp
        rw [hp] at hq
        cases he : prsP l with
        | true =>
          rw [he] at hq
          exact r19_Parse_ftTT s _ _ _ _ _ w C1 C2 C3 (by rw [jB_size]; first | omega | (rw [len_low]; omega)) b1 b2 b3 CM CT hq
        | false =>
          rw [he] at hq
          exact r19_Parse_ftTN s _ _ _ _ _ w C1 C2 C3 (by rw [jB_size]; first | omega | (rw [len_low]; omega)) b1 b2 b3 CM CT hq
  | false =>
    cases hb : l.contains 47 with
    | true =>
      rw [hb, if_pos rfl] at C1
      obtain ⟨a1, a2, a3⟩ := cf hb
      have C2 := fun w => r7_Lower (jB (cA 47 l)) w (by rw [jB_size]; first | omega | (rw [len_low]; omega))
      rw [jB_list] at C2
      have eL : jLoc l = [] := by unfold jLoc; rw [hh]; rfl
      have eD : jDom l = lowA l := by unfold jDom; rw [hh]; rfl
      rw [hh, if_neg (by decide)] at C3
      rw [eL, eD] at CM CT
      have hq := hW (jB (lowA l) ++ ⟨#[47]⟩ ++ jB (cR 47 l)) (by unfold wantP; rw [hb]; simp [jRes])
      rw [eL, eD] at hp hq
      rw [eL, eD]
      cases hc : chkP [] (lowA l) (jRes l) with
      | false =>
        rw [hc, Bool.false_and] at hp
        rw [hc] at CM
        rw [← hp]
        exact r19_Parse_tfF s _ _ _ _ w C1 a1 hs a2 a3 C2 C3 (by rw [jB_size]; first | omega | (rw [len_low]; omega)) CM (by rw [jB_size]; first | omega | (rw [len_low]; omega))
      | true =>
        rw [hc] at CM
        rw [hc, Bool.true_and] at hp
        rw [hp] at hq
        cases he : prsP l with
        | true =>
          rw [he] at hq
          exact r19_Parse_tfTT s _ _ _ _ _ _ w C1 a1 hs a2 a3 C2 C3 (by rw [jB_size]; first | omega | (rw [len_low]; omega)) CM (by rw [jB_size]; first | omega | (rw [len_low]; omega)) CT rfl hq
        | false =>
          rw [he] at hq
          exact r19_Parse_tfTN s _ _ _ _ _ _ w C1 a1 hs a2 a3 C2 C3 (by rw [jB_size]; first | omega | (rw [len_low]; omega)) CM (by rw [jB_size]; first | omega | (rw [len_low]; omega)) CT rfl hq
    | false =>
      rw [hb, if_neg (by decide)] at C1
      have eA : cA 47 l = l := (cA_not 47 l (by simpa using hb)).1
      have eR : jRes l = [] := (cA_not 47 l (by simpa using hb)).2
      have C2 := fun w => r7_Lower s w (by omega)
      rw [hl, show lowL l = lowA l by unfold lowA; rw [eA]] at C2
      rw [eR] at CM CT
      have eL : jLoc l = [] := by unfold jLoc; rw [hh]; rfl
      have eD : jDom l = lowA l := by unfold jDom; rw [hh]; rfl
      rw [hh, if_neg (by decide)] at C3
      rw [eL, eD] at CM CT
      have hq := hW (jB (lowA l)) (by unfold wantP; rw [hb]; simp)
      rw [eL, eD, eR] at hp hq
      rw [eL, eD, eR]
      cases hc : chkP [] (lowA l) [] with
      | false =>
        rw [hc, Bool.false_and] at hp
        rw [hc] at CM
        rw [← hp]
        exact r19_Parse_ffF s _ w C1 C2 C3 CM
      | true =>
        rw [hc] at CM
        rw [hc, Bool.true_and] at hp
        rw [hp] at hq
        cases he : prsP l with
        | true =>
          rw [he] at hq
          exact r19_Parse_ffTT s _ _ w C1 C2 C3 CM CT hq
        | false =>
          rw [he] at hq
          exact r19_Parse_ffTN s _ _ w C1 C2 C3 CM CT hq
end Go.Proofs.YtfonkblbgadhmaaDoor
