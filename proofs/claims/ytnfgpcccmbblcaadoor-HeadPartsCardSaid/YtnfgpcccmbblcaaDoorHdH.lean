/- head.Parse: texts that are too long; the contract. -/
import Derived.Test.YtnfgpcccmbblcaaDoorHdF
namespace Go.Proofs.YtnfgpcccmbblcaaDoor
open Go.RowKit

attribute [local go_sem] Oper.semAt_some

/-- What holds at the first goto: nothing deferred. -/
def HdK (l : List UInt8) (w : World) (a : Act) (W : World) : Prop :=
  hdV l = [] ∧ (∃ v, Boxed W w.heap.size 22 v) ∧ Below w.heap.size w W ∧
    ∃ y0 y1 y4 y5 y6 y7 y8 y9 y10 y11 y12 y13 y14 y15 y16 y17 y18 y19 y20 y21 y22 y23 y24 y25 y26 y27 y28 y29 y30 y31 y32 y33 y34 y35 y36 y37 y38 y39 y40 y41 y42 y43 y44 y45 y46 y47 y48 y49 y50, a = { tmps := #[y0, y1, .pointer (some ⟨w.heap.size, 0, none⟩), .int .i64 (hdE l), y4, y5, y6, y7, y8, y9, y10, y11, y12, y13, y14, y15, y16, y17, y18, y19, y20, y21, y22, y23, y24, y25, y26, y27, y28, y29, y30, y31, y32, y33, y34, y35, y36, y37, y38, y39, y40, y41, y42, y43, y44, y45, y46, y47, y48, y49, y50], defers := [] }
set_option maxRecDepth 100000 in
set_option maxHeartbeats 4000000 in
theorem hd_Parse_big (s : ByteArray) (w : World) (hs : 16384 < s.size) (hs2 : s.size ≤ 1000000) : Calls Tryd.prog 13 #[.string s] w (HdIs s.data.toList w) := by
  have hE : hdE s.data.toList = 4 := by unfold hdE; rw [if_pos (by rw [size_toList]; exact hs)]
  have hV := hdE_bad (l := s.data.toList) (by rw [hE]; decide)
  have HE := Lib.hid (And.intro hE hV)
  clear hE hV
  have g0 : (16384 : Int) < s.size := by omega
  have g00 : decide ((16384 : Int) < s.size) = true := decide_eq_true g0
  refine (callsIn_wide (n := 3)).1 ?_
  refine callsIn_of_wp_marks Tryd.func13 rfl trivial ?_ rfl
  simp only [Tryd.ntmps13, List.size_toArray, List.length_cons, List.length_nil, Nat.reduceAdd, Nat.reduceSub, Array.replicate_succ, Array.replicate_zero, List.push_toArray, List.append_toArray, List.nil_append, List.cons_append]
  refine wpIn_wide.2 ?_
  go_wp2_with fail
  refine wp_scope_jumps 0 (HdK s.data.toList w) (fun _ _ => 0) (by rfl) ?_ ?_
  · refine (wpIn_wide (n := 3)).1 ?_
    gi_wp2_with fail
    refine wpIn_goto ?_
    refine ⟨rfl, HE.out.2, ⟨_, Boxed.new w 22 (.slice none 0 0)⟩, (Below.refl _ w).alloc (Nat.le_refl _) _, ?_⟩
    rw [HE.out.1]
    exact ⟨_, _, _, _, _, _, _, _, _, _, _, _, _, _, _, _, _, _, _, _, _, _, _, _, _, _, _, _, _, _, _, _, _, _, _, _, _, _, _, _, _, _, _, _, _, _, _, _, _, rfl⟩
  · rintro a W ⟨hV, ⟨v, hv⟩, hB, y0, y1, y4, y5, y6, y7, y8, y9, y10, y11, y12, y13, y14, y15, y16, y17, y18, y19, y20, y21, y22, y23, y24, y25, y26, y27, y28, y29, y30, y31, y32, y33, y34, y35, y36, y37, y38, y39, y40, y41, y42, y43, y44, y45, y46, y47, y48, y49, y50, rfl⟩
    have hc := hv.cell
    have hfz := hv.frozen
    obtain ⟨E, hE⟩ : ∃ E, hdE s.data.toList = E := ⟨_, rfl⟩
    have HE2 := Lib.hid hE
    rw [hE]
    clear hE
    have hv2 := hv.set (.slice none 0 0)
    go_wp2_with fail
    exact ⟨_, hd_ret rfl rfl rfl hv2, .slice none 0 0, by rw [HE2.out]; rfl, by rw [hV]; exact IsPairs.nil _, hB.setCell (p := ⟨w.heap.size, 0, none⟩) (Nat.le_refl _) _⟩
theorem hd_Parse (s : ByteArray) (w : World) (hs : s.size ≤ 1000000) (hm : ML w) : Calls Tryd.prog 13 #[.string s] w (HdIs s.data.toList w) := by
  by_cases h : 16384 < s.size
  · exact hd_Parse_big s w h hs
  · exact hd_Parse_in s w (by omega) hm
end Go.Proofs.YtnfgpcccmbblcaaDoor
