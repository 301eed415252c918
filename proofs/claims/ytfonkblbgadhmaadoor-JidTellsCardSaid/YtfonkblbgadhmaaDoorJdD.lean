/- text.Points and text.Check. -/
import Derived.Test.YtfonkblbgadhmaaDoorJdC
import Derived.Lib.OthersKept
import Derived.Lib.TrimUEq
namespace Go.Proofs.YtfonkblbgadhmaaDoor
open Go.RowKit Go.Lib

theorem vinfo_int : (Tryd.prog.info? 3).map (fun i => (i.zero, i.size, i.bytes)) = some (some (.int .i64 0), 1, 8) := by kernel_rfl
theorem fffdN (n b0 b1 b2 b3 r k : Nat) (h : decodeN n b0 b1 b2 b3 = (r, k)) (h0 : b0 < 256) (h1 : b1 < 256) (hr : r = 65533) : k = 1 ↔ ¬ (2 < n ∧ b0 = 239 ∧ b1 = 191 ∧ b2 = 189) := by
  unfold decodeN at h
  repeat' split at h
  all_goals
    obtain ⟨e1, e2⟩ := Prod.mk.inj h
    omega
theorem u8N (a : UInt8) (n : Nat) (hn : n < 256) : (UInt8.ofNat n == a) = decide (a.toNat = n) := by
  rw [Bool.eq_iff_iff, beq_iff_eq, decide_eq_true_eq]
  constructor
  · rintro rfl
    simp [UInt8.toNat_ofNat', Nat.mod_eq_of_lt hn]
  · rintro rfl
    simp
theorem pre_iff (l : List UInt8) : Lib.hasPrefix l [239, 191, 189] = decide (2 < l.length ∧ (l.getD 0 0).toNat = 239 ∧ (l.getD 1 0).toNat = 191 ∧ (l.getD 2 0).toNat = 189) := by
  match l with
  | [] => rfl
  | [a] => simp [Lib.hasPrefix, List.isPrefixOf]
  | [a, b] => simp [Lib.hasPrefix, List.isPrefixOf]
  | a :: b :: c :: l =>
    have e1 := u8N a 239 (by decide)
    have e2 := u8N b 191 (by decide)
    have e3 := u8N c 189 (by decide)
    show ((UInt8.ofNat 239) == a && ((UInt8.ofNat 191) == b && ((UInt8.ofNat 189) == c && List.isPrefixOf [] l))) = _
    rw [e1, e2, e3]
    simp [List.isPrefixOf]
theorem fffd (l : List UInt8) (h : (decodeL l).1 = 65533) : Lib.hasPrefix l [239, 191, 189] = !decide ((decodeL l).2 = 1) := by
  rw [pre_iff]
  have e := fffdN l.length _ _ _ _ (decodeL l).1 (decodeL l).2 (by rw [← decodeL_N]) (UInt8.toNat_lt _) (UInt8.toNat_lt _) h
  rw [← decide_not]
  exact decide_eq_decide.2 ⟨fun h1 h2 => e.1 h2 h1, fun h1 => Decidable.not_not.1 fun h2 => h1 (e.2 h2)⟩
theorem own_iter {wr : World} {B n : Nat} {e : TypeId} {v : Value} {xs : List Value} (h : wr.ownsRow (B + 1) e 1 v n xs) (s : ByteArray) (pos : Nat) : (wr.iterAt B s pos).ownsRow (B + 1) e 1 v n xs := by
  refine h.kept (row := some B) ⟨rfl, rfl, rfl, by rw [iterAt_size]; exact Nat.le_refl _, fun i _ hne => iterAt_other _ _ _ _ _ (fun e => hne (by rw [e]))⟩ ?_
  cases hk : v.ownBlock with
  | none => exact .inl rfl
  | some k =>
    right
    intro e
    have := h.lt k hk
    cases e
    omega
set_option maxHeartbeats 4000000 in
theorem tx_Points (s : ByteArray) (w : World) (hs : s.size ≤ 10000) : Calls Tryd.prog 64 #[.string s] w fun e w' => (∃ v, e = .returned (.tuple #[v, .int .i64 (if txP s.data.toList then 0 else 50)])) ∧ Below w.heap.size w w' := by
  obtain ⟨O, hO⟩ : ∃ O : Int, (if txP s.data.toList then 0 else 50) = O := ⟨_, rfl⟩
  rw [hO]
  have HO := Lib.hid hO
  clear hO
  obtain ⟨i0, hi, hz0, hz1, hz2⟩ := info_parts vinfo_int
  have zs : decide ((16384 : Int) < s.size) = false := decide_eq_false (by omega)
  have HP := Lib.hid fun x w => Tryd.strings_HasPrefix x ⟨#[239, 191, 189]⟩ w
  have HM := Lib.hid tx_May
  go_enter Tryd.func64, Tryd.ntmps64
  go_wp2_with fail
  go_loopg [2] s.size (fun gf v wx => ∃ pos n xs, wx.heap[w.heap.size]? = some (.stringIter s pos) ∧ Below w.heap.size w wx ∧ wx.ownsRow (w.heap.size + 1) 3 1 v n xs ∧ n ≤ pos ∧ (if txP (s.data.toList.drop pos) then 0 else 50) = O ∧ s.size ≤ pos + gf ∧ pos ≤ s.size + 4)
  case atStart => exact ⟨0, 0, [], World.iter_heap w s 0, (Below.refl _ w).alloc (Nat.le_refl _) _, World.ownsRow_nil _ _ _ _, Nat.le_refl _, HO.out, by omega, by omega⟩
  case round =>
    obtain ⟨pos, n, xs, hit, hbw, hown, hn, hO, hfu, hp4⟩ := hrel
    by_cases hps : pos < s.size
    · obtain ⟨g', rfl⟩ : ∃ g', gk = g' + 1 := ⟨gk - 1, by omega⟩
      have hnx : ∀ ty, (Instr.next (.pointer (some ⟨w.heap.size, 0, none⟩)) true ty).run Tryd.prog wr = _ := fun ty => Lib.run_next_any_at wr w.heap.size s pos ty hit hps
      have hwd := Lib.width_pos s pos
      have hrl := Lib.rune_le s pos
      have hne : s.data.toList.drop pos ≠ [] := by
        intro e
        have := congrArg List.length e
        rw [List.length_drop, size_toList] at this
        simp at this
        omega
      obtain ⟨t, ht⟩ : ∃ t, txP (s.data.toList.drop pos) = t := ⟨_, rfl⟩
      rw [ht] at hO
      rw [txP_step _ hne] at ht
      have hF := fffd (s.data.toList.drop pos)
      have hle := decodeL_le (s.data.toList.drop pos) hne
      rw [decodeL_drop] at ht hF hle
      rw [List.length_drop, size_toList] at hle
      obtain ⟨R, hR⟩ : ∃ R, (Utf8.decode s pos).1 = R := ⟨_, rfl⟩
      obtain ⟨K, hK⟩ : ∃ K, (Utf8.decode s pos).2 = K := ⟨_, rfl⟩
      rw [hR, hK] at hnx ht hF
      rw [hK] at hwd hle
      rw [hR] at hrl
      rw [List.drop_drop] at ht
      have hit2 := Lib.iterAt_heap wr w.heap.size s pos (pos + K) hit
      have hbw2 := Lib.below_iterAt hbw (k := w.heap.size) (Nat.le_refl _) s (pos + K)
      have hown2 : (wr.iterAt w.heap.size s (pos + K)).ownsRow (w.heap.size + 1) 3 1 u2 n xs := own_iter hown s (pos + K)
      obtain ⟨W, hWd⟩ : ∃ W, wr.iterAt w.heap.size s (pos + K) = W := ⟨_, rfl⟩
      rw [hWd] at hnx hit2 hbw2 hown2
      have hltW : w.heap.size < W.heap.size := (Array.getElem?_eq_some_iff.1 hit2).1
      have MH := Lib.hid fun w => HM.out R hrl w
      have hg1 : (0 : Int) ≤ R := by omega
      have hg2 : (R : Int) ≤ 1114111 := by omega
      have hx : (s.extract pos s.size).data.toList = s.data.toList.drop pos := ext_tail s pos
      have PH := fun w => HP.out (s.extract pos s.size) w
      rw [hx] at PH
      have HWN := Lib.hid hown2
      have HBW := Lib.hid hbw2
      clear hown2 hown hbw hbw2 hit hx hne hWd HP HM
      by_cases h1 : R = 65533
      · have hr1 : ((R : Int) == 65533) = true := by rw [h1]; rfl
        have hF' := hF h1
        clear hF
        rw [hF'] at PH
        by_cases h2 : K = 1
        · rw [if_pos (.inl ⟨h1, h2⟩)] at ht
          rw [decide_eq_true h2] at PH
          subst ht
          have PHH := Lib.hid PH
          clear PH MH hi hz0 hz1 hz2 h1 h2 hF'
          subst hO
          go_wp2_with fail
          refine (PHH.out _).mono ?_
          rintro e w1 ⟨rfl, rfl⟩
          go_wp2_with fail
          go_ret2
          exact ⟨⟨_, rfl⟩, HBW.out⟩
        · have hm : mayP R = true := by rw [h1]; rfl
          rw [if_neg (fun h => h.elim (fun h => h2 h.2) (fun h => by rw [hm] at h; cases h))] at ht
          rw [← ht] at hO
          rw [decide_eq_false h2] at PH
          have PHH := Lib.hid PH
          rw [hm] at MH
          have OH := Lib.hid hO
          clear PH h1 h2 hF' hO hm
          go_wp2_with fail
          refine (PHH.out _).mono ?_
          rintro e w1 ⟨rfl, rfl⟩
          go_wp2_with fail
          refine (MH.out _).mono ?_
          rintro e w1 ⟨rfl, rfl⟩
          go_wp2_with (at_builtin; refine wpList_app1 rfl _ _ 75 rfl (w.heap.size + 1) 3 i0 (.int .i64 0) 8 Tryd.underlying75 hi hz0 hz1 hz2 rfl _ _ _ rfl HWN.out (.int .i64 (R : Int)) rfl rfl (by omega) (by omega) (by omega) ?_; intro v' w2 hown' hbel)
          have hb2 := (hbel _ (Below.refl _ _)).block _ (Nat.lt_succ_self _)
          have hb3 := hbel _ (Below.refl _ _)
          have HO2 := Lib.hid hown'
          clear hown' hbel hi hz0 hz1 hz2
          go_wp2_with fail
          go_roundg g'
          case measure => omega
          case rel => exact ⟨pos + K, n + 1, _, hb2.trans hit2, HBW.out.trans (hb3.mono (Nat.le_succ _)), HO2.out, by omega, OH.out, by omega, by omega⟩
      · have hr1 : ((R : Int) == 65533) = false := beq_eq_false_iff_ne.2 (by omega)
        obtain ⟨m, hm⟩ : ∃ m, mayP R = m := ⟨_, rfl⟩
        rw [hm] at ht MH
        cases m with
        | false =>
          rw [if_pos (.inr rfl)] at ht
          subst ht
          subst hO
          clear hF PH hm h1 hi hz0 hz1 hz2
          go_wp2_with fail
          refine (MH.out _).mono ?_
          rintro e w1 ⟨rfl, rfl⟩
          go_wp2_with fail
          go_ret2
          exact ⟨⟨_, rfl⟩, HBW.out⟩
        | true =>
          rw [if_neg (fun h => h.elim (fun h => h1 h.1) (fun h => by cases h))] at ht
          rw [← ht] at hO
          have OH := Lib.hid hO
          clear hF PH hm h1 hO
          go_wp2_with fail
          refine (MH.out _).mono ?_
          rintro e w1 ⟨rfl, rfl⟩
          go_wp2_with (at_builtin; refine wpList_app1 rfl _ _ 75 rfl (w.heap.size + 1) 3 i0 (.int .i64 0) 8 Tryd.underlying75 hi hz0 hz1 hz2 rfl _ _ _ rfl HWN.out (.int .i64 (R : Int)) rfl rfl (by omega) (by omega) (by omega) ?_; intro v' w2 hown' hbel)
          have hb2 := (hbel _ (Below.refl _ _)).block _ (Nat.lt_succ_self _)
          have hb3 := hbel _ (Below.refl _ _)
          have HO2 := Lib.hid hown'
          clear hown' hbel hi hz0 hz1 hz2
          go_wp2_with fail
          go_roundg g'
          case measure => omega
          case rel => exact ⟨pos + K, n + 1, _, hb2.trans hit2, HBW.out.trans (hb3.mono (Nat.le_succ _)), HO2.out, by omega, OH.out, by omega, by omega⟩
    · have hd : s.data.toList.drop pos = [] := List.drop_eq_nil_of_le (by rw [size_toList]; omega)
      rw [hd, txP_nil, if_pos rfl] at hO
      subst hO
      have hnx : ∀ ty, (Instr.next (.pointer (some ⟨w.heap.size, 0, none⟩)) true ty).run Tryd.prog wr = _ := fun ty => Lib.run_next_end_at wr w.heap.size s pos ty hit hps
      clear hown hi hz0 hz1 hz2 hd
      go_wp2_with fail
      go_ret2
      exact ⟨⟨_, rfl⟩, hbw⟩
theorem tx_Check (s : ByteArray) (w : World) (hs : s.size ≤ 10000) : Calls Tryd.prog 45 #[.string s] w (Ret w (.int .i64 (if txP s.data.toList then 0 else 50))) := by
  have P0 := tx_Points s w hs
  obtain ⟨O, hO⟩ : ∃ O : Int, (if txP s.data.toList then 0 else 50) = O := ⟨_, rfl⟩
  rw [hO] at P0 ⊢
  have P := Lib.hid P0
  clear P0 hO
  go_enter Tryd.func45, Tryd.ntmps45
  go_wp2_with fail
  refine P.out.mono ?_
  rintro e w1 ⟨⟨v, rfl⟩, hb⟩
  go_wp2_with fail
  go_ret
  exact ⟨rfl, hb⟩
end Go.Proofs.YtfonkblbgadhmaaDoor
