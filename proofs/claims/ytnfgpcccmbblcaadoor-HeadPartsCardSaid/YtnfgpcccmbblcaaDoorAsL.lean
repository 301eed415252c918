/- ascii.listed: an iterator over a list's parts; its state is the captured string. -/
import Derived.Test.YtnfgpcccmbblcaaDoorAsK
import Derived.Test.YtnfgpcccmbblcaaDoorRange
import Derived.RangeFuncNested
import Derived.RangeFuncBound
import Derived.RangeFuncCalls
import Derived.RangeFuncLeaves
import Derived.RangeFuncBox
import Derived.WalkKit
import Derived.OwnWalkIn
import Derived.TacticsInMore
import Derived.LoopNIn
import Derived.LoopIn
namespace Go.Proofs.YtnfgpcccmbblcaaDoor
open Go.RowKit

attribute [local go_sem] Oper.semAt_some

def boxLen (B : Nat) (W : World) : Nat := match W.cell? ⟨B, 0, none⟩ with | some (.string s) => s.size | _ => 0
theorem boxLen_eq {B : Nat} {W : World} {s : ByteArray} (h : Boxed W B 9 (.string s)) : boxLen B W = s.size := by
  unfold boxLen
  rw [h.cell]
def encL (x : List UInt8) : Array Value := #[.string ⟨x.toArray⟩]
theorem grown_of_below {w w' : World} (h : Below w.heap.size w w') (row : Option Nat) : w.grownBy w' row := ⟨h.os, h.tape, h.output, h.size, fun k hk _ => h.block k hk⟩
theorem boxed_below {B : Nat} {t : TypeId} {v : Value} {w w' : World} (h : Boxed w B t v) (hb : Below w.heap.size w w') : Boxed w' B t v := (hb.block B h.lt).trans h

set_option maxRecDepth 100000 in
set_option maxHeartbeats 8000000 in
theorem listed1_seq (B : Nat) (s : ByteArray) (w : World) (hs : s.size ≤ 1000000) (hbox : Boxed w B 9 (.string s)) :
    SeqV Tryd.prog 126 #[.pointer (some ⟨B, 0, none⟩)] encL B (fun xs => xs = lstP s.data.toList) (fun _ => True) (lstP s.data.toList).length w := by
  intro l J Jx W hb hJ hJx hY h0
  have hbW : Boxed W B 9 (.string s) := boxed_below hbox hb
  have HY := Lib.hid hY
  have HJ := Lib.hid hJ
  clear hY hJ hb hbox hJx
  refine callsIn_of_wp Tryd.func126 rfl trivial ?_ rfl
  simp only [Tryd.ntmps126, List.size_toArray, List.length_cons, List.length_nil, Nat.reduceAdd, Nat.reduceSub, Array.replicate_succ, Array.replicate_zero, List.push_toArray, List.append_toArray, List.nil_append, List.cons_append]
  gi_wp2_with fail
  gi_loopw [3] (fun _ wr => ∃ (pre : List (List UInt8)) (r : ByteArray), Boxed wr B 9 (.string r) ∧ lstP s.data.toList = pre ++ lstP r.data.toList ∧ r.size ≤ 1000000 ∧ J pre wr) (fun _ wr => boxLen B wr)
  case atStart => exact ⟨[], s, hbW, rfl, hs, h0⟩
  case round =>
    obtain ⟨pre, r, hbx, hp, hr, hJs⟩ := hrel
    have hc := hbx.cell
    have HBX := Lib.hid hbx
    have HP := Lib.hid hp
    have HJS := Lib.hid hJs
    clear hp hJs hbx hbW h0
    by_cases h0 : r.size = 0
    · obtain rfl : r = ⟨#[]⟩ := str_ext (List.eq_nil_of_length_eq_zero (by rw [size_toList]; exact h0))
      clear h0
      gi_wp2_with fail
      go_end0
      have he : lstP s.data.toList = pre := HP.out.trans (List.append_nil _)
      exact ⟨⟨_, rfl⟩, .inl (by rw [he]; exact HJS.out)⟩
    · have e1 := isEmpty_of_pos (s := r) (by omega)
      have e2 := ne_nil_of_pos (s := r) (by omega)
      have C := fun w => st_Cut1 r 44 w hr
      have hstep := lstP_step r.data.toList
      have hlt := cR_lt 44 (l := r.data.toList) (fun h => h0 (by rw [← size_toList, h]; rfl))
      have hle := cA_le 44 r.data.toList
      obtain ⟨x, hx⟩ : ∃ x, cA 44 r.data.toList = x := ⟨_, rfl⟩
      obtain ⟨y, hy⟩ : ∃ y, cR 44 r.data.toList = y := ⟨_, rfl⟩
      obtain ⟨f, hf⟩ : ∃ f, r.data.toList.contains 44 = f := ⟨_, rfl⟩
      rw [hx, hy, hf] at C
      rw [hx, hy] at hstep
      rw [hx, size_toList] at hle
      rw [hy, size_toList] at hlt
      obtain ⟨X, hX⟩ : ∃ X : ByteArray, ⟨x.toArray⟩ = X := ⟨_, rfl⟩
      obtain ⟨Y, hY⟩ : ∃ Y : ByteArray, ⟨y.toArray⟩ = Y := ⟨_, rfl⟩
      rw [hX, hY] at C
      have hXl : X.data.toList = x := by rw [← hX]
      have hYl : Y.data.toList = y := by rw [← hY]
      have hXs : X.size ≤ 1000000 := by rw [← size_toList, hXl]; omega
      have hYs : Y.size ≤ 1000000 := by rw [← size_toList, hYl]; omega
      have hYr : Y.size < r.size := by rw [← size_toList, hYl]; exact hlt
      have T := fun w => as_Trim X w hXs
      rw [hXl] at T
      obtain ⟨t, ht⟩ : ∃ t, trm x = t := ⟨_, rfl⟩
      rw [ht] at T hstep
      have htl : t.length ≤ 1000000 := by
        rw [← ht]
        exact Nat.le_trans (trm_le _) (by rw [← hXl, size_toList]; exact hXs)
      obtain ⟨Z, hZ⟩ : ∃ Z : ByteArray, ⟨t.toArray⟩ = Z := ⟨_, rfl⟩
      rw [hZ] at T
      have hZl : Z.data.toList = t := by rw [← hZ]
      have hZs : Z.size ≤ 1000000 := by rw [← size_toList, hZl]; exact htl
      have CH := Lib.hid C
      have TH := Lib.hid T
      have HS := Lib.hid hstep
      have HYL := Lib.hid hYl
      have HZL := Lib.hid hZl
      have HLT := Lib.hid hYr
      clear C T hstep hYl hZl hXl hX hY hZ hx hy hf ht hlt hle htl hYr hXs
      by_cases hz : Z.size = 0
      · obtain rfl : Z = ⟨#[]⟩ := str_ext (List.eq_nil_of_length_eq_zero (by rw [size_toList]; exact hz))
        have hnew : lstP s.data.toList = pre ++ lstP Y.data.toList := by
          rw [HP.out, HS.out, ← HZL.out, HYL.out]
          rfl
        have HNW := Lib.hid hnew
        clear hnew hz
        gi_wp2_with fail
        refine ⟨trivial, callsIn_wide.2 ((CH.out _).mono ?_)⟩
        rintro e w1 ⟨rfl, hb1⟩
        gi_wp2_with fail
        refine ⟨trivial, callsIn_wide.2 ((TH.out _).mono ?_)⟩
        rintro e w2 ⟨rfl, hb2⟩
        have hb12 : Below wr.heap.size wr w2 := hb1.trans (hb2.mono hb1.size)
        have hbx2 := boxed_below HBX.out hb12
        have hc2 := hbx2.cell
        have hf2 := hbx2.frozen
        have HBX2 := Lib.hid hbx2
        have HJ2 := Lib.hid (HJ.out pre wr w2 none HJS.out (grown_of_below hb12 _) (fun r e => by cases e))
        clear hbx2
        gi_wp2_with fail
        refine ⟨trivial, ?_⟩
        gi_wp2_with fail
        refine ⟨fun f hf => (by cases hf), ?_⟩
        gi_wp2_with fail
        go_roundw
        case rel => exact ⟨pre, Y, HBX2.out.set _, HNW.out, hYs, HJ.out _ _ _ (some B) HJ2.out (grownBy_setCell' _ _ _) (fun r e => by cases e; rfl)⟩
        case measure =>
          rw [boxLen_eq (HBX2.out.set _), boxLen_eq HBX.out]
          exact HLT.out
      · have z1 := isEmpty_of_pos (s := Z) (by omega)
        have z2 := ne_nil_of_pos (s := Z) (by omega)
        have hsome : lstP s.data.toList = pre ++ (lowL t :: lstP Y.data.toList) := by
          rw [HP.out, HS.out, if_neg, HYL.out]
          · rfl
          · intro h
            apply hz
            rw [← size_toList, HZL.out, List.isEmpty_iff.1 h]
            rfl
        have L := fun w => as_Lower Z w hZs
        rw [HZL.out] at L
        obtain ⟨q, hq⟩ : ∃ q, lowL t = q := ⟨_, rfl⟩
        rw [hq] at L hsome
        have LH := Lib.hid L
        have HSM := Lib.hid hsome
        clear L hsome hq hz
        gi_wp2_with fail
        refine ⟨trivial, callsIn_wide.2 ((CH.out _).mono ?_)⟩
        rintro e w1 ⟨rfl, hb1⟩
        gi_wp2_with fail
        refine ⟨trivial, callsIn_wide.2 ((TH.out _).mono ?_)⟩
        rintro e w2 ⟨rfl, hb2⟩
        gi_wp2_with fail
        refine ⟨trivial, callsIn_wide.2 ((LH.out _).mono ?_)⟩
        rintro e w3 ⟨rfl, hb3⟩
        have hb13 : Below wr.heap.size wr w3 := (hb1.trans (hb2.mono hb1.size)).trans (hb3.mono (Nat.le_trans hb1.size hb2.size))
        have hbx3 := boxed_below HBX.out hb13
        have hJ3 := HJ.out pre wr w3 none HJS.out (grown_of_below hb13 _) (fun r e => by cases e)
        obtain ⟨fn, tmps, assign, body, hy, hR⟩ := HY.out pre q w3 hJ3 (by rw [HSM.out]; simp)
        have HBX3 := Lib.hid hbx3
        have HR := Lib.hid hR
        clear hbx3 hR hJ3
        unfold encL at hy
        gi_wp2_with fail
        refine HR.out.mono ?_
        rintro e w4 (⟨rfl, hJ4, hk4⟩ | ⟨rfl, hJ4⟩)
        · have hbx4 : Boxed w4 B 9 (.string r) := hk4.2.trans HBX3.out
          have hc4 := hbx4.cell
          have hf4 := hbx4.frozen
          have HBX4 := Lib.hid hbx4
          have HJ4 := Lib.hid hJ4
          clear hbx4 hJ4
          gi_wp2_with fail
          go_roundw
          case rel => exact ⟨pre ++ [q], Y, HBX4.out.set _, by rw [HSM.out]; simp, hYs, HJ.out _ _ _ (some B) HJ4.out (grownBy_setCell' _ _ _) (fun r e => by cases e; rfl)⟩
          case measure =>
            rw [boxLen_eq (HBX4.out.set _), boxLen_eq HBX.out]
            exact HLT.out
        · have HJ4 := Lib.hid hJ4
          clear hJ4
          gi_wp2_with fail
          refine bodyPost_ret (results_none rfl _ _ _) rfl ?_
          exact ⟨⟨_, rfl⟩, .inr ⟨pre ++ [q], trivial, HJ4.out⟩⟩
/-- listed: the string boxed, and the iterator over that box. -/
theorem as_listed (s : ByteArray) (w : World) : Calls Tryd.prog 103 #[.string s] w (fun e w' => e = .returned (.func (.func 126) #[] #[.pointer (some ⟨w.heap.size, 0, none⟩)]) ∧ w' = w.alloc (.cells #[.string s] 9)) := by
  go_enter Tryd.func103, Tryd.ntmps103
  go_wp2_with fail
  go_ret
  exact ⟨rfl, rfl⟩
end Go.Proofs.YtnfgpcccmbblcaaDoor
