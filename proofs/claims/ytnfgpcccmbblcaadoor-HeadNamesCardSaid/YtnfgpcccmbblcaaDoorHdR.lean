/- law14's odd and lost, where they hold. -/
import Derived.Test.YtnfgpcccmbblcaaDoorHdQ
namespace Go.Proofs.YtnfgpcccmbblcaaDoor
open Go.RowKit

set_option maxHeartbeats 4000000 in
theorem hd_odd (s : ByteArray) (w : World) (hs : s.size ≤ 1000000) (hm : ML w) (h : hdE s.data.toList = 140) : Calls Tryd.prog 34 #[.string s] w (Ret w (.bool true)) := by
  have P0 := hd_Parse s w hs hm
  unfold HdIs at P0
  rw [h, hdE_bad (l := s.data.toList) (by rw [h]; decide)] at P0
  have P := Lib.hid P0
  clear P0 hm h
  go_enter Tryd.func34, Tryd.ntmps34
  go_wp2_with fail
  refine (P.out).mono ?_
  rintro e w1 ⟨u, rfl, hu, hb1⟩
  obtain ⟨a, ca, rfl⟩ := hu.form
  rw [show ([] : List Pr).length = 0 from rfl] at hu ⊢
  clear hu
  go_wp2_with fail
  go_ret
  exact ⟨rfl, hb1⟩
set_option maxHeartbeats 4000000 in
theorem hd_lost (v : Value) (ps : List Pr) (w : World) (hv : IsPairs v ps w) (hl : ps.length ≤ 1000) (hz : ∀ p ∈ ps, p.1.length ≤ 1000000) (hz2 : ∀ p ∈ ps, p.2.length ≤ 1000000) (h : frm ps = (0, 0, 140)) :
    Calls Tryd.prog 35 #[v] w (Ret w (.bool true)) := by
  have F0 := hd_Frame v ps w hv hl hz hz2
  rw [h] at F0
  have F := Lib.hid F0
  clear F0 h hv
  go_enter Tryd.func35, Tryd.ntmps35
  go_wp2_with fail
  refine (F.out).mono ?_
  rintro e w1 ⟨rfl, hb1⟩
  unfold frmT
  go_wp2_with fail
  go_ret
  exact ⟨rfl, hb1⟩
end Go.Proofs.YtnfgpcccmbblcaaDoor
