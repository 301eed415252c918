/- line.Write, line.Judge: the walks. -/
import Derived.Test.YtnfgpcccmbblcaaDoorLnB
import Derived.Test.YtnfgpcccmbblcaaDoorTab
namespace Go.Proofs.YtnfgpcccmbblcaaDoor
open Go.RowKit

theorem dec1' : ∀ n : Fin 10, Lib.decDigits n.val = [UInt8.ofNat (48 + n.val)] := by decide +kernel
theorem dec1 {g : Int} (h0 : 0 ≤ g) (h9 : g ≤ 9) : Lib.decDigits g.toNat = [dC g] := dec1' ⟨g.toNat, by omega⟩
theorem itoa1 (g : Int) (w : World) (h0 : 0 ≤ g) (h9 : g ≤ 9) : Calls Tryd.prog 56 #[.int .i64 g] w fun e w' => e = .returned (.string ⟨#[dC g]⟩) ∧ w' = w := by
  obtain ⟨n, rfl⟩ : ∃ n : Nat, g = (n : Int) := ⟨g.toNat, by omega⟩
  have := Tryd.strconv_Itoa_small n (by omega) w
  have e := dec1 h0 h9
  rw [Int.toNat_natCast] at e
  rwa [e] at this
/-- What Write answers. -/
def lnWr (m t : List UInt8) (g s : Int) : Value := if lnMay m t g s = true then .tuple #[.string ⟨(lnTxt m t g s).toArray⟩, .int .i64 0] else .tuple #[.string ⟨#[]⟩, .int .i64 8]
theorem lnWr_text (m t : ByteArray) (g s : Int) : (⟨(lnTxt m.data.toList t.data.toList g s).toArray⟩ : ByteArray) = (((((((m ++ ⟨#[32]⟩) ++ t) ++ ⟨#[32]⟩) ++ ⟨#[72, 84, 84, 80, 47]⟩) ++ ⟨#[dC g]⟩) ++ ⟨#[46]⟩) ++ ⟨#[dC s]⟩) := by
  apply str_ext
  simp [lnTxt, http]
set_option maxHeartbeats 4000000 in
set_option maxRecDepth 100000 in
theorem ln_Write (m t : ByteArray) (g s : Int) (w : World) (hm : m.size ≤ 1000000) (ht : t.size ≤ 1000000) :
    Calls Tryd.prog 23 #[lnV m t g s] w (Ret w (lnWr m.data.toList t.data.toList g s)) := by
  have MY0 := fun w => ln_may m t g s w hm ht
  have hp := @lnMay_parts m.data.toList t.data.toList g s
  unfold lnWr
  obtain ⟨K, hK⟩ : ∃ K, lnMay m.data.toList t.data.toList g s = K := ⟨_, rfl⟩
  rw [hK] at MY0 hp ⊢
  have MY := Lib.hid MY0
  clear MY0 hK
  cases K with
  | false =>
    clear hp
    go_enter Tryd.func23, Tryd.ntmps23
    go_wp2_with fail
    refine (MY.out _).mono ?_
    rintro e w2 ⟨rfl, hb2⟩
    go_wp2_with fail
    go_ret2
    exact ⟨rfl, ((Below.refl _ w).alloc (Nat.le_refl _) _).trans (hb2.mono (by simp))⟩
  | true =>
    obtain ⟨_, _, i1, i2, i3, i4⟩ := hp rfl
    rw [if_pos rfl, lnWr_text]
    go_enter Tryd.func23, Tryd.ntmps23
    go_wp2_with fail
    refine (MY.out _).mono ?_
    rintro e w2 ⟨rfl, hb2⟩
    have d0 := (bcell hb2).1 w.heap.size 0 (by simp)
    have d1 := (bcell hb2).1 w.heap.size 1 (by simp)
    have d2 := (bcell hb2).1 w.heap.size 2 (by simp)
    have d3 := (bcell hb2).1 w.heap.size 3 (by simp)
    simp at d0 d1 d2 d3
    have q2 : Below w.heap.size w w2 := ((Below.refl _ w).alloc (Nat.le_refl _) _).trans (hb2.mono (by simp))
    clear hb2 MY hp
    go_wp2_with fail
    go_quiet ((go_at_call 56; exact Calls.quiet_of_same (itoa1 _ _ (by omega) (by omega))))
    go_wp2_with fail
    go_ret2
    exact ⟨rfl, q2.trans ((below_drewN w2 _).mono q2.size)⟩
/-- What Judge answers. -/
def post : List UInt8 := [80, 79, 83, 84]
def bindT : List UInt8 := [47, 104, 116, 116, 112, 45, 98, 105, 110, 100]
def jdg (m t : List UInt8) (g s : Int) : Int := if g = 1 ∧ s = 1 then (if t = bindT then (if m = post then 200 else 405) else 404) else 505
def lnJ (m t : List UInt8) (g s : Int) : Value := if lnMay m t g s = true then .tuple #[.int .i64 (jdg m t g s), .int .i64 0] else .tuple #[.int .i64 0, .int .i64 8]
set_option maxHeartbeats 4000000 in
set_option maxRecDepth 100000 in
theorem ln_Judge (m t : ByteArray) (g s : Int) (w : World) (hm : m.size ≤ 1000000) (ht : t.size ≤ 1000000) :
    Calls Tryd.prog 19 #[lnV m t g s] w (Ret w (lnJ m.data.toList t.data.toList g s)) := by
  have MY0 := fun w => ln_may m t g s w hm ht
  unfold lnJ
  obtain ⟨K, hK⟩ : ∃ K, lnMay m.data.toList t.data.toList g s = K := ⟨_, rfl⟩
  rw [hK] at MY0 ⊢
  have MY := Lib.hid MY0
  clear MY0 hK
  cases K with
  | false =>
    go_enter Tryd.func19, Tryd.ntmps19
    go_wp2_with fail
    refine (MY.out _).mono ?_
    rintro e w2 ⟨rfl, hb2⟩
    go_wp2_with fail
    go_ret2
    exact ⟨rfl, ((Below.refl _ w).alloc (Nat.le_refl _) _).trans (hb2.mono (by simp))⟩
  | true =>
    rw [if_pos rfl]
    obtain ⟨J, hJ⟩ : ∃ J, jdg m.data.toList t.data.toList g s = J := ⟨_, rfl⟩
    rw [hJ]
    have HJ := Lib.hid hJ
    clear hJ
    go_enter Tryd.func19, Tryd.ntmps19
    go_wp2_with fail
    refine (MY.out _).mono ?_
    rintro e w2 ⟨rfl, hb2⟩
    have d0 := (bcell hb2).1 w.heap.size 0 (by simp)
    have d1 := (bcell hb2).1 w.heap.size 1 (by simp)
    have d2 := (bcell hb2).1 w.heap.size 2 (by simp)
    have d3 := (bcell hb2).1 w.heap.size 3 (by simp)
    simp at d0 d1 d2 d3
    have q2 : Below w.heap.size w w2 := ((Below.refl _ w).alloc (Nat.le_refl _) _).trans (hb2.mono (by simp))
    clear hb2 MY
    go_wp2_with fail
    all_goals
      go_ret2
      refine ⟨?_, q2⟩
      rw [← HJ.out]
      clear HJ d0 d1 d2 d3 q2 hm ht
      unfold jdg bindT post
      simp_all [Lib.toList_data]
end Go.Proofs.YtnfgpcccmbblcaaDoor
