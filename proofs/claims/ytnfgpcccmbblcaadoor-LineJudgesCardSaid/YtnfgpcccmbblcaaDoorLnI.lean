/- LineTells: the walk. -/
import Derived.Test.YtnfgpcccmbblcaaDoorLnH
import Derived.Test.YtnfgpcccmbblcaaDoorLnG
namespace Go.Proofs.YtnfgpcccmbblcaaDoor
open Go.RowKit

theorem lnA_form (o : Option (List UInt8 × List UInt8 × Int × Int)) : ∃ (M T : ByteArray) (g s e : Int), lnA o = .tuple #[lnV M T g s, .int .i64 e] := by
  cases o with
  | none => exact ⟨_, _, _, _, _, rfl⟩
  | some x =>
    obtain ⟨m, t, g, s⟩ := x
    exact ⟨_, _, _, _, _, rfl⟩
theorem lnWr_form (m t : List UInt8) (g s : Int) : ∃ (X : ByteArray) (e : Int), lnWr m t g s = .tuple #[.string X, .int .i64 e] := by
  unfold lnWr
  split
  · exact ⟨_, _, rfl⟩
  · exact ⟨_, _, rfl⟩
theorem lnJ_form (m t : List UInt8) (g s : Int) : ∃ (n e : Int), lnJ m t g s = .tuple #[.int .i64 n, .int .i64 e] := by
  unfold lnJ
  split
  · exact ⟨_, _, rfl⟩
  · exact ⟨_, _, rfl⟩
theorem stV_form (n : Int) : ∃ (X : ByteArray) (e : Int), stV n = .tuple #[.string X, .int .i64 e] := by
  unfold stV
  split
  · exact ⟨_, _, rfl⟩
  · exact ⟨_, _, rfl⟩
theorem LnAt.alloc {L : Nat} {a b c d : Value} {w : World} (h : LnAt L a b c d w) (o : Obj) : LnAt L a b c d (w.alloc o) := h.ret ((Below.refl _ w).alloc (Nat.le_refl _) o)
theorem LnAt.new (w : World) (a b c d : Value) : LnAt w.heap.size a b c d (w.alloc (.cells #[a, b, c, d] 36)) := by constructor <;> simp
theorem below_alloc {w w' : World} (h : Below w.heap.size w w') (o : Obj) : Below w.heap.size w (w'.alloc o) := h.alloc h.size o
set_option maxHeartbeats 8000000 in
set_option maxRecDepth 100000 in
theorem tells15 (s m t : ByteArray) (g f code : Int) (w : World) (zs : s.size ≤ 9223372036854775807) (zm : m.size ≤ 140737488351232) (zt : t.size ≤ 140737488351232) (ht : Tab w) (hm : ML w) :
    Calls Tryd.prog 6 #[.string s, lnV m t g f, .int .i64 code] w (Ret w (.bool true)) := by
  by_cases h1 : 2000 < s.size
  · have g1 : (2000 : Int) < s.size := by omega
    go_enter Tryd.func6, Tryd.ntmps6
    go_wp2_with fail
    go_ret
    exact ⟨rfl, (Below.refl _ w).alloc (Nat.le_refl _) _⟩
  have g1 : (s.size : Int) ≤ 2000 := by omega
  by_cases h2 : 2000 < m.size + t.size
  · have g2 : (2000 : Int) < (m.size : Int) + t.size := by omega
    have g3 : IntKind.i64.wrap ((m.size : Int) + t.size) = (m.size : Int) + t.size := IntWalk.i64_in _ (by omega)
    go_enter Tryd.func6, Tryd.ntmps6
    go_wp2_with fail
    go_ret
    exact ⟨rfl, (Below.refl _ w).alloc (Nat.le_refl _) _⟩
  have g2 : (m.size : Int) + t.size ≤ 2000 := by omega
  have g3 : IntKind.i64.wrap ((m.size : Int) + t.size) = (m.size : Int) + t.size := IntWalk.i64_in _ (by omega)
  have P0 := fun w hm => ln_Parse s w (by omega) hm
  have Q0 := fun w => r15_Parse s w (by omega)
  have W0 := fun w => ln_Write m t g f w (by omega) (by omega)
  have V0 := fun w => r15_Write m t g f w (by omega) (by omega)
  have J0 := fun w => ln_Judge m t g f w (by omega) (by omega)
  have I0 := fun w => r15_Judge m t g f w (by omega) (by omega)
  have S0 := fun w ht => ln_Status code w ht
  have R0 := fun w => r15_Status code w
  obtain ⟨M, T, pg, pf, pe, hA⟩ := lnA_form (lnOf s.data.toList)
  obtain ⟨X, xe, hX⟩ := lnWr_form m.data.toList t.data.toList g f
  obtain ⟨n, ne, hJ⟩ := lnJ_form m.data.toList t.data.toList g f
  obtain ⟨Y, ye, hY⟩ := stV_form code
  rw [hA] at P0 Q0
  rw [hX] at W0 V0
  rw [hJ] at J0 I0
  rw [hY] at S0 R0
  have PH := Lib.hid P0
  have QH := Lib.hid Q0
  have WH := Lib.hid W0
  have VH := Lib.hid V0
  have JH := Lib.hid J0
  have IH := Lib.hid I0
  have SH := Lib.hid S0
  have RH := Lib.hid R0
  have HT := Lib.hid ht
  have HM := Lib.hid hm
  have q0 := below_alloc (Below.refl _ w) (.cells #[.string m, .string t, .int .i64 g, .int .i64 f] 36)
  have a0 := LnAt.new w (.string m) (.string t) (.int .i64 g) (.int .i64 f)
  have A0 := Lib.hid a0
  clear hA hX hJ hY P0 Q0 W0 V0 J0 I0 S0 R0 ht hm a0 h1 h2 zs zm zt
  go_enter Tryd.func6, Tryd.ntmps6
  go_wp2_with fail
  refine (PH.out _ (HM.out.ret q0)).mono ?_
  rintro e w1 ⟨rfl, hb1⟩
  have q1 := below_alloc (q0.trans (hb1.mono q0.size)) (.cells #[.string M, .string T, .int .i64 pg, .int .i64 pf] 36)
  have A1 := Lib.hid ((A0.out.ret hb1).alloc (.cells #[.string M, .string T, .int .i64 pg, .int .i64 pf] 36))
  have B1 := Lib.hid (LnAt.new w1 (.string M) (.string T) (.int .i64 pg) (.int .i64 pf))
  clear hb1 q0 A0 PH
  go_wp2_with fail
  refine (QH.out _).mono ?_
  rintro e w2 ⟨rfl, hb2⟩
  have q2 := below_alloc (q1.trans (hb2.mono q1.size)) (.cells #[.string M, .string T, .int .i64 pg, .int .i64 pf] 36)
  have A2 := Lib.hid ((A1.out.ret hb2).alloc (.cells #[.string M, .string T, .int .i64 pg, .int .i64 pf] 36))
  have B2 := Lib.hid ((B1.out.ret hb2).alloc (.cells #[.string M, .string T, .int .i64 pg, .int .i64 pf] 36))
  have C2 := Lib.hid (LnAt.new w2 (.string M) (.string T) (.int .i64 pg) (.int .i64 pf))
  clear hb2 q1 A1 B1 QH
  obtain ⟨x0, x1, x2, x3, x4, _, _, _, _⟩ := A2.out
  go_wp2_with fail
  refine (WH.out _).mono ?_
  rintro e w3 ⟨rfl, hb3⟩
  clear x0 x1 x2 x3 x4
  have q3 := q2.trans (hb3.mono q2.size)
  have A3 := Lib.hid (A2.out.ret hb3)
  have B3 := Lib.hid (B2.out.ret hb3)
  have C3 := Lib.hid (C2.out.ret hb3)
  clear hb3 q2 A2 B2 C2 WH
  obtain ⟨x0, x1, x2, x3, x4, _, _, _, _⟩ := A3.out
  go_wp2_with fail
  refine (VH.out _).mono ?_
  rintro e w4 ⟨rfl, hb4⟩
  clear x0 x1 x2 x3 x4
  have q4 := q3.trans (hb4.mono q3.size)
  have A4 := Lib.hid (A3.out.ret hb4)
  have B4 := Lib.hid (B3.out.ret hb4)
  have C4 := Lib.hid (C3.out.ret hb4)
  clear hb4 q3 A3 B3 C3 VH
  obtain ⟨x0, x1, x2, x3, x4, _, _, _, _⟩ := A4.out
  go_wp2_with fail
  refine (JH.out _).mono ?_
  rintro e w5 ⟨rfl, hb5⟩
  clear x0 x1 x2 x3 x4
  have q5 := q4.trans (hb5.mono q4.size)
  have A5 := Lib.hid (A4.out.ret hb5)
  have B5 := Lib.hid (B4.out.ret hb5)
  have C5 := Lib.hid (C4.out.ret hb5)
  clear hb5 q4 A4 B4 C4 JH
  obtain ⟨x0, x1, x2, x3, x4, _, _, _, _⟩ := A5.out
  go_wp2_with fail
  refine (IH.out _).mono ?_
  rintro e w6 ⟨rfl, hb6⟩
  clear x0 x1 x2 x3 x4
  have q6 := q5.trans (hb6.mono q5.size)
  have B6 := Lib.hid (B5.out.ret hb6)
  have C6 := Lib.hid (C5.out.ret hb6)
  clear hb6 q5 A5 B5 C5 IH
  go_wp2_with fail
  refine (SH.out _ (HT.out.ret q6)).mono ?_
  rintro e w7 ⟨rfl, hb7⟩
  have q7 := q6.trans (hb7.mono q6.size)
  have B7 := Lib.hid (B6.out.ret hb7)
  have C7 := Lib.hid (C6.out.ret hb7)
  clear hb7 q6 B6 C6 SH
  go_wp2_with fail
  refine (RH.out _).mono ?_
  rintro e w8 ⟨rfl, hb8⟩
  have q8 := q7.trans (hb8.mono q7.size)
  obtain ⟨x0, x1, x2, x3, x4, _, _, _, _⟩ := B7.out.ret hb8
  obtain ⟨y0, y1, y2, y3, y4, _, _, _, _⟩ := C7.out.ret hb8
  clear hb8 q7 B7 C7 RH HT HM
  go_wp2_with fail
  go_ret
  exact ⟨ret_b (by first | rfl | simp), q8⟩
end Go.Proofs.YtnfgpcccmbblcaaDoor
