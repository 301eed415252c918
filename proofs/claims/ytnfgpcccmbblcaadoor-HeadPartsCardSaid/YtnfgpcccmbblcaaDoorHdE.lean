/- head.lines: its iterator's contract. -/
import Derived.Test.YtnfgpcccmbblcaaDoorHdP
import Derived.Test.YtnfgpcccmbblcaaDoorHdA
import Derived.Test.YtnfgpcccmbblcaaDoorSpl
import Derived.Test.YtnfgpcccmbblcaaDoorRangeG
import Derived.Test.YtnfgpcccmbblcaaDoorAsL
import Derived.Lib.IndexMore
namespace Go.Proofs.YtnfgpcccmbblcaaDoor
open Go.RowKit

attribute [local go_sem] Oper.semAt_some

theorem pre_two (c d : UInt8) (r : List UInt8) : ([13, 10] : List UInt8).isPrefixOf (c :: d :: r) = decide (c = 13 ∧ d = 10) := by
  rw [Bool.eq_iff_iff, decide_eq_true_eq]
  simp only [List.isPrefixOf, Bool.and_eq_true, beq_iff_eq, and_true]
  constructor
  · rintro ⟨h1, h2⟩
    exact ⟨h1.symm, h2.symm⟩
  · rintro ⟨h1, h2⟩
    exact ⟨h1.symm, h2.symm⟩
theorem index_crA : ∀ l : List UInt8, Lib.index l [13, 10] = match crA l with | none => -1 | some (x, _) => (x.length : Int)
  | [] => rfl
  | [c] => by
    have h : ([13, 10] : List UInt8).isPrefixOf [c] = false := by simp [List.isPrefixOf]
    unfold Lib.index
    rw [h]
    rfl
  | c :: d :: r => by
    have ih := index_crA (d :: r)
    rw [Lib.index, pre_two]
    simp only [crA]
    by_cases h : c = 13 ∧ d = 10
    · rw [if_pos h, decide_eq_true h]
      rfl
    · rw [if_neg h, decide_eq_false h, ih]
      cases crA (d :: r) with
      | none => rfl
      | some z =>
        obtain ⟨x, y⟩ := z
        have hne : (((x.length : Nat) : Int) == -1) = false := by
          rw [beq_eq_false_iff_ne]
          omega
        simp [hne]
def cutX (l : List UInt8) : List UInt8 := match crA l with | some (x, _) => x | none => l
theorem cut_crA (l : List UInt8) : Lib.cut l [13, 10] = (cutX l, lnR l, lnB l) := by
  unfold Lib.cut cutX lnR lnB
  rw [index_crA]
  cases h : crA l with
  | none => rfl
  | some z =>
    obtain ⟨x, y⟩ := z
    simp only [Option.isSome_some]
    rw [if_pos (by omega), crA_split l h]
    simp
theorem lns_step {l : List UInt8} (h0 : l ≠ []) : lns l = (cutX l, lnB l) :: lns (lnR l) := by
  unfold cutX lnR lnB
  cases h : crA l with
  | none =>
    rw [lns_none h0 h]
    rfl
  | some z =>
    obtain ⟨x, y⟩ := z
    rw [lns_some h]
    rfl
theorem cutX_le (l : List UInt8) : (cutX l).length ≤ l.length := by
  unfold cutX
  cases h : crA l with
  | none => exact Nat.le_refl _
  | some z =>
    obtain ⟨x, y⟩ := z
    have := crA_lt h
    simp only
    omega
theorem lnR_lt {l : List UInt8} (h0 : l ≠ []) : (lnR l).length < l.length := by
  unfold lnR
  cases h : crA l with
  | none => exact List.length_pos_iff.2 h0
  | some z =>
    obtain ⟨x, y⟩ := z
    have := crA_lt h
    simp only
    omega
theorem hd_Cut (s : ByteArray) (w : World) (hs : s.size ≤ 1000000) (hm : ML w) : Calls Tryd.prog 50 #[.string s, .string ⟨#[13, 10]⟩] w (Ret w (.tuple #[.string ⟨(cutX s.data.toList).toArray⟩, .string ⟨(lnR s.data.toList).toArray⟩, .bool (lnB s.data.toList)])) := by
  obtain ⟨_, m, hm⟩ := hm
  refine (Tryd.strings_Cut s ⟨#[13, 10]⟩ m w (by omega) hm).mono ?_
  rintro e w' ⟨rfl, n, rfl⟩
  rw [show (⟨#[13, 10]⟩ : ByteArray).data.toList = [13, 10] from rfl, cut_crA]
  exact ⟨rfl, below_drewN _ _⟩
theorem lns_mem : ∀ (n : Nat) (l : List UInt8), l.length ≤ n → ∀ x ∈ lns l, x.1.length ≤ l.length := by
  intro n
  induction n with
  | zero =>
    intro l hl x hx
    obtain rfl : l = [] := List.eq_nil_of_length_eq_zero (by omega)
    cases hx
  | succ n ih =>
    intro l hl x hx
    by_cases h0 : l = []
    · subst h0
      cases hx
    · rw [lns_step h0] at hx
      have h1 := lnR_lt h0
      rcases List.mem_cons.1 hx with rfl | hx
      · exact cutX_le l
      · have := ih _ (by omega) x hx
        omega
def encP (x : List UInt8 × Bool) : Array Value := #[.string ⟨x.1.toArray⟩, .bool x.2]
set_option maxRecDepth 100000 in
set_option maxHeartbeats 8000000 in
theorem lines1_seq (B : Nat) (s : ByteArray) (w : World) (hs : s.size ≤ 1000000) (hbox : Boxed w B 9 (.string s)) :
    SeqG Tryd.prog 89 #[.pointer (some ⟨B, 0, none⟩)] encP B (fun xs => xs = lns s.data.toList) (fun pre => pre <+: lns s.data.toList) (lns s.data.toList).length ML (fun x => x ∈ lns s.data.toList) w := by
  intro l J Jx W hb hJ hJx hG hY h0
  have hbW : Boxed W B 9 (.string s) := boxed_below hbox hb
  have HY := Lib.hid hY
  have HJ := Lib.hid hJ
  have HG := Lib.hid hG
  clear hY hJ hb hbox hJx hG
  refine callsIn_of_wp Tryd.func89 rfl trivial ?_ rfl
  simp only [Tryd.ntmps89, List.size_toArray, List.length_cons, List.length_nil, Nat.reduceAdd, Nat.reduceSub, Array.replicate_succ, Array.replicate_zero, List.push_toArray, List.append_toArray, List.nil_append, List.cons_append]
  gi_wp2_with fail
  gi_loopw [3] (fun _ wr => ∃ (pre : List (List UInt8 × Bool)) (r : ByteArray), Boxed wr B 9 (.string r) ∧ lns s.data.toList = pre ++ lns r.data.toList ∧ r.size ≤ 1000000 ∧ J pre wr) (fun _ wr => boxLen B wr)
  case atStart => exact ⟨[], s, hbW, rfl, hs, h0⟩
  case round =>
    obtain ⟨pre, r, hbx, hp, hr, hJs⟩ := hrel
    have hc := hbx.cell
    have HBX := Lib.hid hbx
    have HP := Lib.hid hp
    have HJS := Lib.hid hJs
    clear hp hJs hbx hbW h0
    by_cases h0 : r.size = 0
    · obtain rfl : r = ⟨#[]⟩ := str_ext (List.eq_nil_of_length_eq_zero (by rw [size_toList]; exact h0))
      clear h0
      gi_wp2_with fail
      go_end0
      have he : lns s.data.toList = pre := HP.out.trans (List.append_nil _)
      exact ⟨⟨_, rfl⟩, .inl (by rw [he]; exact HJS.out)⟩
    · have e1 := isEmpty_of_pos (s := r) (by omega)
      have e2 := ne_nil_of_pos (s := r) (by omega)
      have hne : r.data.toList ≠ [] := fun h => h0 (by rw [← size_toList, h]; rfl)
      have C := hd_Cut r wr hr (HG.out pre wr HJS.out)
      have hstep := lns_step hne
      have hlt := lnR_lt hne
      obtain ⟨x, hx⟩ : ∃ x, cutX r.data.toList = x := ⟨_, rfl⟩
      obtain ⟨y, hy⟩ : ∃ x, lnR r.data.toList = x := ⟨_, rfl⟩
      obtain ⟨f, hf⟩ : ∃ f, lnB r.data.toList = f := ⟨_, rfl⟩
      rw [hx, hy, hf] at C hstep
      rw [hy, size_toList] at hlt
      obtain ⟨X, hX⟩ : ∃ X : ByteArray, ⟨x.toArray⟩ = X := ⟨_, rfl⟩
      obtain ⟨Y, hY⟩ : ∃ Y : ByteArray, ⟨y.toArray⟩ = Y := ⟨_, rfl⟩
      rw [hX, hY] at C
      have hYl : Y.data.toList = y := by rw [← hY]
      have hYr : Y.size < r.size := by rw [← size_toList, hYl]; exact hlt
      have hYs : Y.size ≤ 1000000 := by omega
      have CH := Lib.hid C
      have hsm : lns s.data.toList = pre ++ ((x, f) :: lns Y.data.toList) := by rw [HP.out, hstep, hYl]
      have HSM := Lib.hid hsm
      have HLT := Lib.hid hYr
      have HX := Lib.hid hX
      clear C hstep hYl hX hY hx hy hf hlt hYr hsm hne
      gi_wp2_with fail
      refine ⟨trivial, callsIn_wide.2 ((CH.out).mono ?_)⟩
      rintro e w3 ⟨rfl, hb13⟩
      have hbx3 := boxed_below HBX.out hb13
      have hJ3 := HJ.out pre wr w3 none HJS.out (grown_of_below hb13 _) (fun r e => by cases e)
      obtain ⟨fn, tmps, assign, body, hy, hR⟩ := HY.out pre (x, f) w3 hJ3 (by rw [HSM.out]; simp) (by rw [HSM.out]; simp)
      have HBX3 := Lib.hid hbx3
      have HR := Lib.hid hR
      clear hbx3 hR hJ3
      unfold encP at hy
      simp only [HX.out] at hy
      gi_wp2_with fail
      refine HR.out.mono ?_
      rintro e w4 (⟨rfl, hJ4, hk4⟩ | ⟨rfl, hJ4⟩)
      · have hbx4 : Boxed w4 B 9 (.string r) := hk4.2.trans HBX3.out
        have hc4 := hbx4.cell
        have hf4 := hbx4.frozen
        have HBX4 := Lib.hid hbx4
        have HJ4 := Lib.hid hJ4
        clear hbx4 hJ4
        gi_wp2_with fail
        go_roundw
        case rel => exact ⟨pre ++ [(x, f)], Y, HBX4.out.set _, by rw [HSM.out]; simp, hYs, HJ.out _ _ _ (some B) HJ4.out (grownBy_setCell' _ _ _) (fun r e => by cases e; rfl)⟩
        case measure =>
          rw [boxLen_eq (HBX4.out.set _), boxLen_eq HBX.out]
          exact HLT.out
      · have HJ4 := Lib.hid hJ4
        clear hJ4
        gi_wp2_with fail
        refine bodyPost_ret (results_none rfl _ _ _) rfl ?_
        exact ⟨⟨_, rfl⟩, .inr ⟨pre ++ [(x, f)], by rw [HSM.out]; exact ⟨lns Y.data.toList, by simp⟩, HJ4.out⟩⟩
theorem hd_lines (s : ByteArray) (w : World) : Calls Tryd.prog 49 #[.string s] w (fun e w' => e = .returned (.func (.func 89) #[] #[.pointer (some ⟨w.heap.size, 0, none⟩)]) ∧ w' = w.alloc (.cells #[.string s] 9)) := by
  go_enter Tryd.func49, Tryd.ntmps49
  go_wp2_with fail
  go_ret
  exact ⟨rfl, rfl⟩
end Go.Proofs.YtnfgpcccmbblcaaDoor
