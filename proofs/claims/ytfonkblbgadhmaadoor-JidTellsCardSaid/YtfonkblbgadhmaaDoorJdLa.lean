/- law19: is, odd, alive. PRINTED BY PROGRAM (gen_jla.py). -/
import Derived.Test.YtfonkblbgadhmaaDoorJdK
namespace Go.Proofs.YtfonkblbgadhmaaDoor
open Go.RowKit Go.Lib

/-- addresses, compared. -/
def jE (a b c x y z : ByteArray) : Bool := a.toList == x.toList && (b.toList == y.toList && c.toList == z.toList)
set_option maxHeartbeats 1000000 in
theorem eq_jid (a b c x y z : ByteArray) (w : World) : (Op.equalIn 10000 23 (jV a b c) (jV x y z)).run Tryd.prog w = .ok (jE a b c x y z) w := by
  have u3 := Tryd.underlying9
  have hS : Tryd.prog.underlying 23 = some (.struct (Tryd.prog.fieldsOf 23)) := by kernel_rfl
  have hp : Tryd.prog.stoodInHeld 23 = false := by kernel_rfl
  rw [show (10000 : Nat) = 9999 + 1 from rfl, run_equalIn_agg w 9999 23 _ _ hS hp]
  simp only [Program.fieldsOf, Tryd.underlying23]
  go_simp
  unfold jE
  clear u3 hS hp
  by_cases h1 : a.toList = x.toList <;> by_cases h2 : b.toList = y.toList <;> by_cases h3 : c.toList = z.toList <;> simp [*]
theorem eg_jid : Tryd.prog.eqGuardType Tryd.prog.depth 23 = false := by kernel_rfl
theorem eql_jid (a b c x y z : ByteArray) (w : World) : (binOp .eql 23 (jV a b c) (jV x y z)).run Tryd.prog w = .ok (.bool (jE a b c x y z)) w := by
  rw [run_eql_struct, eq_jid]
  rfl
theorem neq_jid (a b c x y z : ByteArray) (w : World) : (binOp .neq 23 (jV a b c) (jV x y z)).run Tryd.prog w = .ok (.bool (!jE a b c x y z)) w := by
  rw [run_neq_struct, eq_jid]
  rfl
theorem jE_iff (a b c x y z : ByteArray) : jE a b c x y z = decide (a = x ∧ b = y ∧ c = z) := by
  have e : ∀ u v : ByteArray, (u.toList = v.toList) ↔ u = v := fun u v => by
    rw [Lib.toList_data, Lib.toList_data]
    exact ⟨fun h => str_ext h, fun h => by rw [h]⟩
  unfold jE
  rw [Bool.eq_iff_iff]
  simp [e]
theorem jE_self (a b c : ByteArray) : jE a b c a b c = true := by rw [jE_iff]; simp
/-- is that a text's address? -/
def isP (s l d r : List UInt8) : Bool := prsP s && decide (jLoc s = l ∧ jDom s = d ∧ jRes s = r)
theorem jE_jB (x y z : List UInt8) (l d r : ByteArray) : jE (jB x) (jB y) (jB z) l d r = decide (x = l.data.toList ∧ y = d.data.toList ∧ z = r.data.toList) := by
  rw [jE_iff]
  have e : ∀ (u : List UInt8) (v : ByteArray), (jB u = v) ↔ u = v.data.toList := fun u v => ⟨fun h => by rw [← h, jB_list], fun h => str_ext (by rw [jB_list, h])⟩
  simp only [e]
set_option maxHeartbeats 2000000 in
theorem l19_is (s l d r : ByteArray) (w : World) (hs : s.size ≤ 10000) (hm : ML w) : Calls Tryd.prog 10 #[.string s, .string l, .string d, .string r] w (Ret w (.bool (isP s.data.toList l.data.toList d.data.toList r.data.toList))) := by
  have P := jd_Parse s w hs hm
  have EQ := eql_jid
  have EG := eg_jid
  unfold prsV at P
  unfold isP
  cases hp : prsP s.data.toList with
  | true =>
    rw [hp, if_pos rfl] at P
    rw [Bool.true_and, ← jE_jB]
    have PH := Lib.hid P
    obtain ⟨X, hX⟩ : ∃ X, jB (jLoc s.data.toList) = X := ⟨_, rfl⟩
    obtain ⟨Y, hY⟩ : ∃ X, jB (jDom s.data.toList) = X := ⟨_, rfl⟩
    obtain ⟨Z, hZ⟩ : ∃ X, jB (jRes s.data.toList) = X := ⟨_, rfl⟩
    rw [hX, hY, hZ] at PH ⊢
    clear P hp hX hY hZ
    go_enter Tryd.func10, Tryd.ntmps10
    go_wp2_with fail
    refine PH.out.mono ?_
    rintro e w1 ⟨rfl, hb⟩
    go_wp2_with fail
    go_ret
    exact ⟨rfl, hb.alloc hb.size _⟩
  | false =>
    rw [hp, if_neg (by decide)] at P
    have PH := Lib.hid P
    clear P hp EQ EG
    go_enter Tryd.func10, Tryd.ntmps10
    go_wp2_with fail
    refine PH.out.mono ?_
    rintro e w1 ⟨rfl, hb⟩
    go_wp2_with fail
    go_ret
    exact ⟨rfl, hb.alloc hb.size _⟩
set_option maxHeartbeats 2000000 in
theorem l19_odd (s : ByteArray) (w : World) (hs : s.size ≤ 10000) (hm : ML w) : Calls Tryd.prog 18 #[.string s] w (Ret w (.bool (!prsP s.data.toList))) := by
  have P := jd_Parse s w hs hm
  have EQ := eql_jid
  have EG := eg_jid
  have ES := jE_self ⟨#[]⟩ ⟨#[]⟩ ⟨#[]⟩
  unfold prsV at P
  cases hp : prsP s.data.toList with
  | true =>
    rw [hp, if_pos rfl] at P
    have PH := Lib.hid P
    clear P hp EQ EG ES
    go_enter Tryd.func18, Tryd.ntmps18
    go_wp2_with fail
    refine PH.out.mono ?_
    rintro e w1 ⟨rfl, hb⟩
    go_wp2_with fail
    go_ret
    exact ⟨rfl, hb.alloc hb.size _⟩
  | false =>
    rw [hp, if_neg (by decide)] at P
    have PH := Lib.hid P
    clear P hp
    go_enter Tryd.func18, Tryd.ntmps18
    go_wp2_with fail
    refine PH.out.mono ?_
    rintro e w1 ⟨rfl, hb⟩
    go_wp2_with fail
    go_ret
    exact ⟨rfl, hb.alloc hb.size _⟩
end Go.Proofs.YtfonkblbgadhmaaDoor
