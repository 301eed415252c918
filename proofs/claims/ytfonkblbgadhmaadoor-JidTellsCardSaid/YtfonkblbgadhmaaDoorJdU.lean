/- The document's texts (tidewaiterref05): All, Is. -/
import Derived.Test.YtfonkblbgadhmaaDoorJdT
import Derived.Test.YtfonkblbgadhmaaDoorJdD
namespace Go.Proofs.YtfonkblbgadhmaaDoor
open Go.RowKit Go.Lib

def AllIs (w : World) (b : Bool) (e : Ending) (w' : World) : Prop := ∃ v, e = .returned (.tuple #[v, .bool b]) ∧ Below w.heap.size w w'
set_option maxHeartbeats 1000000 in
theorem r5_All (s : ByteArray) (w : World) (hs : s.size ≤ 10000) : Calls Tryd.prog 81 #[.string s] w (AllIs w (txP s.data.toList)) := by
  obtain ⟨i0, hi, hz0, hz1, hz2⟩ := info_parts vinfo_int
  obtain ⟨O, hO⟩ : ∃ O, txP s.data.toList = O := ⟨_, rfl⟩
  rw [hO]
  have HO := Lib.hid hO
  clear hO
  go_enter Tryd.func81, Tryd.ntmps81
  go_wp2_with fail
  go_loopw [0, 4] (fun t v wx => ∃ (r : ByteArray) (n : Nat) (xs : List Value), r.size + n ≤ s.size ∧ t = .string r ∧ txP r.data.toList = O ∧ wx.ownsRow w.heap.size 3 1 v n xs ∧ Below w.heap.size w wx) (fun t _ _ => strLen t)
  case atStart => exact ⟨s, 0, [], by omega, rfl, HO.out, World.ownsRow_nil _ _ _ _, Below.refl _ _⟩
  case round =>
    obtain ⟨r, n, xs, hle, rfl, htx, hown, hbw⟩ := hrel
    have hsz := hbw.size
    by_cases h0 : 0 < r.size
    · have hne := ne_nil_of_pos h0
      have hne2 : r.data.toList ≠ [] := by rw [← Lib.toList_data]; exact hne
      have he : (r.toList == []) = false := by simpa using hne
      have C := r5_One r wr (by omega) h0
      rw [txP_ok _ hne2] at htx
      have hok := okL_sz r.data.toList
      rw [size_toList] at hok
      cases hk : okL r.data.toList with
      | false =>
        rw [hk, if_neg (by decide)] at C
        rw [hk, Bool.false_and] at htx
        have CH := Lib.hid C
        subst htx
        clear C hne2 hok hk
        go_wp2_with fail
        refine CH.out.mono ?_
        rintro e w1 ⟨m, rfl, hb⟩
        go_wp2_with fail
        go_ret2
        exact ⟨_, rfl, hbw.trans (hb.mono hsz)⟩
      | true =>
        obtain ⟨k1, k2⟩ := hok hk
        rw [hk, if_pos rfl] at C
        rw [hk, Bool.true_and] at htx
        obtain ⟨K, hK⟩ : ∃ K, szL r.data.toList = K := ⟨_, rfl⟩
        rw [hK] at C htx k1 k2
        rw [← ext_tail] at htx
        have e0 : ((K : Int) == 0) = false := beq_eq_false_iff_ne.2 (by omega)
        have hes : (r.extract K r.size).size = r.size - K := by rw [← size_toList, ext_tail, List.length_drop, size_toList]
        have CH := Lib.hid C
        have HT := Lib.hid htx
        have HES := Lib.hid hes
        clear C htx hne2 hok hk hK hes
        go_wp2_with fail
        refine CH.out.mono ?_
        rintro e w1 ⟨m, rfl, hb⟩
        have hown1 := own_below hown hb
        have hbw1 := hbw.trans (hb.mono hsz)
        have hsz1 := hbw1.size
        clear hb hown hbw
        go_wp2_with (at_builtin; refine wpList_app1 rfl _ _ 75 rfl w.heap.size 3 i0 (.int .i64 0) 8 Tryd.underlying75 hi hz0 hz1 hz2 rfl _ _ _ rfl hown1 (.int .i64 m) rfl rfl (by omega) (by omega) (by omega) ?_; intro v' w2 hown' hbel)
        have hb3 := hbel _ hbw1
        have HO2 := Lib.hid hown'
        clear hown' hbel hown1 hbw1 hi hz0 hz1 hz2
        go_wp2_with fail
        go_roundw
        case rel => exact ⟨r.extract K r.size, n + 1, _, by rw [HES.out]; omega, rfl, HT.out, HO2.out, hb3⟩
        case measure => simp only [strLen]; rw [HES.out]; omega
    · have hz : r.data.toList = [] := List.eq_nil_of_length_eq_zero (by rw [size_toList]; omega)
      have hz2 : r.toList = [] := by rw [Lib.toList_data]; exact hz
      have he3 : (r.toList == []) = true := by rw [hz2]; rfl
      rw [hz, txP_nil] at htx
      subst htx
      clear hz hz2
      go_wp2_with fail
      go_ret2
      exact ⟨_, rfl, hbw⟩
theorem r5_Is (s : ByteArray) (w : World) (hs : s.size ≤ 10000) : Calls Tryd.prog 69 #[.string s] w (Ret w (.bool (txP s.data.toList))) := by
  have C := Lib.hid (r5_All s w hs)
  obtain ⟨O, hO⟩ : ∃ O, txP s.data.toList = O := ⟨_, rfl⟩
  rw [hO] at C ⊢
  go_enter Tryd.func69, Tryd.ntmps69
  go_wp2_with fail
  refine C.out.mono ?_
  rintro e w1 ⟨v, rfl, hb⟩
  go_wp2_with fail
  go_ret
  exact ⟨rfl, hb⟩
end Go.Proofs.YtfonkblbgadhmaaDoor
