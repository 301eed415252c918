/- JdC, JdD, JdE, JdF: put together by mergetpl.py. -/
import Derived.Test.YtjgeiieiinmdnaaGreatDoorKa
import Derived.Test.YtjgeiieiinmdnaaGreatDoorGc
import Derived.Laws.RangeString
import Derived.Lib.OthersKept
import Derived.Lib.TrimUEq
import Derived.Lib.IndexAny
import Derived.Shelf.Strings.FuncGrows
namespace Go.Proofs.YtjgeiieiinmdnaaGreatDoor
open Go.RowKit Go.Lib

set_option maxHeartbeats 4000000 in
theorem tx_May (n : Nat) (hn : n ≤ 1114111) (w : World) : Calls Tryz.prog 256 #[.int .i64 n] w fun e w' => e = .returned (.bool (mayP n)) ∧ w' = w := by
 have e0 : (.int .i64 (n : Int) : Value) = .int .i64 (n : Int) := rfl
 by_cases h9 : n = 9 ∨ n = 10 ∨ n = 13
 ·have hm : mayP n = true := by rcases h9 with rfl | rfl | rfl <;> rfl
  rw [hm]
  rcases h9 with rfl | rfl | rfl
  ·go_enter Tryz.func256, Tryz.ntmps256
   go_wp2_with fail
   go_ret
   exact ⟨rfl, rfl⟩
  ·go_enter Tryz.func256, Tryz.ntmps256
   go_wp2_with fail
   go_ret
   exact ⟨rfl, rfl⟩
  ·go_enter Tryz.func256, Tryz.ntmps256
   go_wp2_with fail
   go_ret
   exact ⟨rfl, rfl⟩
 ·have z1 : ((n : Int) == 9) = false := beq_eq_false_iff_ne.2 (by omega)
  have z2 : ((n : Int) == 10) = false := beq_eq_false_iff_ne.2 (by omega)
  have z3 : ((n : Int) == 13) = false := beq_eq_false_iff_ne.2 (by omega)
  by_cases h32 : n < 32
  ·have hm : mayP n = false := by
    unfold mayP
    rw [if_pos h32]
    simp; omega
   rw [hm]
   have z4 : decide ((n : Int) < 32) = true := decide_eq_true (by omega)
   clear hm h9
   go_enter Tryz.func256, Tryz.ntmps256
   go_wp2_with fail
   go_ret
   exact ⟨rfl, rfl⟩
  ·have z4 : decide ((n : Int) < 32) = false := decide_eq_false (by omega)
   by_cases he : n = 65534
   ·subst he
    rw [show mayP 65534 = false from rfl]
    go_enter Tryz.func256, Tryz.ntmps256
    go_wp2_with fail
    go_ret
    exact ⟨rfl, rfl⟩
   ·by_cases hf : n = 65535
    ·subst hf
     rw [show mayP 65535 = false from rfl]
     go_enter Tryz.func256, Tryz.ntmps256
     go_wp2_with fail
     go_ret
     exact ⟨rfl, rfl⟩
    ·have z5 : ((n : Int) == 65534) = false := beq_eq_false_iff_ne.2 (by omega)
     have z6 : ((n : Int) == 65535) = false := beq_eq_false_iff_ne.2 (by omega)
     have z7 : decide ((1114111 : Int) < n) = false := decide_eq_false (by omega)
     have hv : Lib.validRune (n : Int) = mayP n := by
      unfold Lib.validRune mayP
      rw [if_neg h32]
      have d1 : (n == 65534) = false := by simpa using he
      have d2 : (n == 65535) = false := by simpa using hf
      have d3 : decide (n ≤ 1114111) = true := decide_eq_true hn
      rw [d1, d2, d3, ← Bool.decide_or]
      simp only [Bool.true_and, Bool.not_false, Bool.and_true]
      exact decide_eq_decide.2 (by omega)
     have V := fun w => Tryz.utf8_ValidRune (n : Int) w
     rw [hv] at V
     have VH := Lib.hid V
     clear V hv h9
     have g1 : (0 : Int) ≤ n := by omega
     have g2 : (n : Int) ≤ 1114111 := by omega
     go_enter Tryz.func256, Tryz.ntmps256
     go_wp2_with fail
     refine (VH.out _).mono ?_
     rintro e w1 ⟨rfl, rfl⟩
     go_wp2_with fail
     go_ret
     exact ⟨rfl, rfl⟩
end Go.Proofs.YtjgeiieiinmdnaaGreatDoor
namespace Go.Proofs.YtjgeiieiinmdnaaGreatDoor
open Go.RowKit Go.Lib

theorem vinfo_int : (Tryz.prog.info? 3).map (fun i => (i.zero, i.size, i.bytes)) = some (some (.int .i64 0), 1, 8) := by kernel_rfl
theorem fffdN (n b0 b1 b2 b3 r k : Nat) (h : decodeN n b0 b1 b2 b3 = (r, k)) (h0 : b0 < 256) (h1 : b1 < 256) (hr : r = 65533) : k = 1 ↔ ¬ (2 < n ∧ b0 = 239 ∧ b1 = 191 ∧ b2 = 189) := by
 unfold decodeN at h
 repeat' split at h
 all_goals
  obtain ⟨e1, e2⟩ := Prod.mk.inj h
  omega
theorem u8N (a : UInt8) (n : Nat) (hn : n < 256) : (UInt8.ofNat n == a) = decide (a.toNat = n) := by
 rw [Bool.eq_iff_iff, beq_iff_eq, decide_eq_true_eq]
 constructor
 ·rintro rfl
  simp [UInt8.toNat_ofNat', Nat.mod_eq_of_lt hn]
 ·rintro rfl
  simp
theorem pre_iff (l : List UInt8) : Lib.hasPrefix l [239, 191, 189] = decide (2 < l.length ∧ (l.getD 0 0).toNat = 239 ∧ (l.getD 1 0).toNat = 191 ∧ (l.getD 2 0).toNat = 189) := by
 match l with
 | [] => rfl
 | [a] => simp [Lib.hasPrefix, List.isPrefixOf]
 | [a, b] => simp [Lib.hasPrefix, List.isPrefixOf]
 | a :: b :: c :: l =>
  have e1 := u8N a 239 (by decide)
  have e2 := u8N b 191 (by decide)
  have e3 := u8N c 189 (by decide)
  show ((UInt8.ofNat 239) == a && ((UInt8.ofNat 191) == b && ((UInt8.ofNat 189) == c && List.isPrefixOf [] l))) = _
  rw [e1, e2, e3]
  simp [List.isPrefixOf]
theorem fffd (l : List UInt8) (h : (decodeL l).1 = 65533) : Lib.hasPrefix l [239, 191, 189] = !decide ((decodeL l).2 = 1) := by
 rw [pre_iff]
 have e := fffdN l.length _ _ _ _ (decodeL l).1 (decodeL l).2 (by rw [← decodeL_N]) (UInt8.toNat_lt _) (UInt8.toNat_lt _) h
 rw [← decide_not]
 exact decide_eq_decide.2 ⟨fun h1 h2 => e.1 h2 h1, fun h1 => Decidable.not_not.1 fun h2 => h1 (e.2 h2)⟩
theorem own_iter {wr : World} {B n : Nat} {e : TypeId} {v : Value} {xs : List Value} (h : wr.ownsRow (B + 1) e 1 v n xs) (s : ByteArray) (pos : Nat) : (wr.iterAt B s pos).ownsRow (B + 1) e 1 v n xs := by
 refine h.kept (row := some B) ⟨rfl, rfl, rfl, by rw [iterAt_size]; exact Nat.le_refl _, fun i _ hne => iterAt_other _ _ _ _ _ (fun e => hne (by rw [e]))⟩ ?_
 cases hk : v.ownBlock with
 | none => exact .inl rfl
 | some k =>
  right
  intro e
  have := h.lt k hk
  cases e
  omega
set_option maxHeartbeats 4000000 in
theorem tx_Points (s : ByteArray) (w : World) (hs : s.size ≤ 10000) : Calls Tryz.prog 227 #[.string s] w fun e w' => (∃ v, e = .returned (.tuple #[v, .int .i64 (if txP s.data.toList then 0 else 50)])) ∧ Below w.heap.size w w' := by
 obtain ⟨O, hO⟩ : ∃ O : Int, (if txP s.data.toList then 0 else 50) = O := ⟨_, rfl⟩
 rw [hO]
 have HO := Lib.hid hO
 clear hO
 obtain ⟨i0, hi, hz0, hz1, hz2⟩ := info_parts vinfo_int
 have zs : decide ((16384 : Int) < s.size) = false := decide_eq_false (by omega)
 have HP := Lib.hid fun x w => Tryz.strings_HasPrefix x ⟨#[239, 191, 189]⟩ w
 have HM := Lib.hid tx_May
 go_enter Tryz.func227, Tryz.ntmps227
 go_wp2_with fail
 go_loopg [2] s.size (fun gf v wx => ∃ pos n xs, wx.heap[w.heap.size]? = some (.stringIter s pos) ∧ Below w.heap.size w wx ∧ wx.ownsRow (w.heap.size + 1) 3 1 v n xs ∧ n ≤ pos ∧ (if txP (s.data.toList.drop pos) then 0 else 50) = O ∧ s.size ≤ pos + gf ∧ pos ≤ s.size + 4)
 case atStart => exact ⟨0, 0, [], World.iter_heap w s 0, (Below.refl _ w).alloc (Nat.le_refl _) _, World.ownsRow_nil _ _ _ _, Nat.le_refl _, HO.out, by omega, by omega⟩
 case round =>
  obtain ⟨pos, n, xs, hit, hbw, hown, hn, hO, hfu, hp4⟩ := hrel
  by_cases hps : pos < s.size
  ·obtain ⟨g', rfl⟩ : ∃ g', gk = g' + 1 := ⟨gk - 1, by omega⟩
   have hnx : ∀ ty, (Instr.next (.pointer (some ⟨w.heap.size, 0, none⟩)) true ty).run Tryz.prog wr = _ := fun ty => Lib.run_next_any_at wr w.heap.size s pos ty hit hps
   have hwd := Lib.width_pos s pos
   have hrl := Lib.rune_le s pos
   have hne : s.data.toList.drop pos ≠ [] := by
    intro e
    have := congrArg List.length e
    rw [List.length_drop, size_toList] at this
    simp at this
    omega
   obtain ⟨t, ht⟩ : ∃ t, txP (s.data.toList.drop pos) = t := ⟨_, rfl⟩
   rw [ht] at hO
   rw [txP_step _ hne] at ht
   have hF := fffd (s.data.toList.drop pos)
   have hle := decodeL_le (s.data.toList.drop pos) hne
   rw [decodeL_drop] at ht hF hle
   rw [List.length_drop, size_toList] at hle
   obtain ⟨R, hR⟩ : ∃ R, (Utf8.decode s pos).1 = R := ⟨_, rfl⟩
   obtain ⟨K, hK⟩ : ∃ K, (Utf8.decode s pos).2 = K := ⟨_, rfl⟩
   rw [hR, hK] at hnx ht hF
   rw [hK] at hwd hle
   rw [hR] at hrl
   rw [List.drop_drop] at ht
   have hit2 := Lib.iterAt_heap wr w.heap.size s pos (pos + K) hit
   have hbw2 := Lib.below_iterAt hbw (k := w.heap.size) (Nat.le_refl _) s (pos + K)
   have hown2 : (wr.iterAt w.heap.size s (pos + K)).ownsRow (w.heap.size + 1) 3 1 u2 n xs := own_iter hown s (pos + K)
   obtain ⟨W, hWd⟩ : ∃ W, wr.iterAt w.heap.size s (pos + K) = W := ⟨_, rfl⟩
   rw [hWd] at hnx hit2 hbw2 hown2
   have hltW : w.heap.size < W.heap.size := (Array.getElem?_eq_some_iff.1 hit2).1
   have MH := Lib.hid fun w => HM.out R hrl w
   have hg1 : (0 : Int) ≤ R := by omega
   have hg2 : (R : Int) ≤ 1114111 := by omega
   have hx : (s.extract pos s.size).data.toList = s.data.toList.drop pos := ext_tail s pos
   have PH := fun w => HP.out (s.extract pos s.size) w
   rw [hx] at PH
   have HWN := Lib.hid hown2
   have HBW := Lib.hid hbw2
   clear hown2 hown hbw hbw2 hit hx hne hWd HP HM
   by_cases h1 : R = 65533
   ·have hr1 : ((R : Int) == 65533) = true := by rw [h1]; rfl
    have hF' := hF h1
    clear hF
    rw [hF'] at PH
    by_cases h2 : K = 1
    ·rw [if_pos (.inl ⟨h1, h2⟩)] at ht
     rw [decide_eq_true h2] at PH
     subst ht
     have PHH := Lib.hid PH
     clear PH MH hi hz0 hz1 hz2 h1 h2 hF'
     subst hO
     go_wp2_with fail
     refine (PHH.out _).mono ?_
     rintro e w1 ⟨rfl, rfl⟩
     go_wp2_with fail
     go_ret2
     exact ⟨⟨_, rfl⟩, HBW.out⟩
    ·have hm : mayP R = true := by rw [h1]; rfl
     rw [if_neg (fun h => h.elim (fun h => h2 h.2) (fun h => by rw [hm] at h; cases h))] at ht
     rw [← ht] at hO
     rw [decide_eq_false h2] at PH
     have PHH := Lib.hid PH
     rw [hm] at MH
     have OH := Lib.hid hO
     clear PH h1 h2 hF' hO hm
     go_wp2_with fail
     refine (PHH.out _).mono ?_
     rintro e w1 ⟨rfl, rfl⟩
     go_wp2_with fail
     refine (MH.out _).mono ?_
     rintro e w1 ⟨rfl, rfl⟩
     go_wp2_with (at_builtin; refine wpList_app1 rfl _ _ 202 rfl (w.heap.size + 1) 3 i0 (.int .i64 0) 8 Tryz.underlying202 hi hz0 hz1 hz2 rfl _ _ _ rfl HWN.out (.int .i64 (R : Int)) rfl rfl (by omega) (by omega) (by omega) ?_; intro v' w2 hown' hbel)
     have hb2 := (hbel _ (Below.refl _ _)).block _ (Nat.lt_succ_self _)
     have hb3 := hbel _ (Below.refl _ _)
     have HO2 := Lib.hid hown'
     clear hown' hbel hi hz0 hz1 hz2
     go_wp2_with fail
     go_roundg g'
     case measure => omega
     case rel => exact ⟨pos + K, n + 1, _, hb2.trans hit2, HBW.out.trans (hb3.mono (Nat.le_succ _)), HO2.out, by omega, OH.out, by omega, by omega⟩
   ·have hr1 : ((R : Int) == 65533) = false := beq_eq_false_iff_ne.2 (by omega)
    obtain ⟨m, hm⟩ : ∃ m, mayP R = m := ⟨_, rfl⟩
    rw [hm] at ht MH
    cases m with
    | false =>
     rw [if_pos (.inr rfl)] at ht
     subst ht
     subst hO
     clear hF PH hm h1 hi hz0 hz1 hz2
     go_wp2_with fail
     refine (MH.out _).mono ?_
     rintro e w1 ⟨rfl, rfl⟩
     go_wp2_with fail
     go_ret2
     exact ⟨⟨_, rfl⟩, HBW.out⟩
    | true =>
     rw [if_neg (fun h => h.elim (fun h => h1 h.1) (fun h => by cases h))] at ht
     rw [← ht] at hO
     have OH := Lib.hid hO
     clear hF PH hm h1 hO
     go_wp2_with fail
     refine (MH.out _).mono ?_
     rintro e w1 ⟨rfl, rfl⟩
     go_wp2_with (at_builtin; refine wpList_app1 rfl _ _ 202 rfl (w.heap.size + 1) 3 i0 (.int .i64 0) 8 Tryz.underlying202 hi hz0 hz1 hz2 rfl _ _ _ rfl HWN.out (.int .i64 (R : Int)) rfl rfl (by omega) (by omega) (by omega) ?_; intro v' w2 hown' hbel)
     have hb2 := (hbel _ (Below.refl _ _)).block _ (Nat.lt_succ_self _)
     have hb3 := hbel _ (Below.refl _ _)
     have HO2 := Lib.hid hown'
     clear hown' hbel hi hz0 hz1 hz2
     go_wp2_with fail
     go_roundg g'
     case measure => omega
     case rel => exact ⟨pos + K, n + 1, _, hb2.trans hit2, HBW.out.trans (hb3.mono (Nat.le_succ _)), HO2.out, by omega, OH.out, by omega, by omega⟩
  ·have hd : s.data.toList.drop pos = [] := List.drop_eq_nil_of_le (by rw [size_toList]; omega)
   rw [hd, txP_nil, if_pos rfl] at hO
   subst hO
   have hnx : ∀ ty, (Instr.next (.pointer (some ⟨w.heap.size, 0, none⟩)) true ty).run Tryz.prog wr = _ := fun ty => Lib.run_next_end_at wr w.heap.size s pos ty hit hps
   clear hown hi hz0 hz1 hz2 hd
   go_wp2_with fail
   go_ret2
   exact ⟨⟨_, rfl⟩, hbw⟩
theorem tx_Check (s : ByteArray) (w : World) (hs : s.size ≤ 10000) : Calls Tryz.prog 193 #[.string s] w (Ret w (.int .i64 (if txP s.data.toList then 0 else 50))) := by
 have P0 := tx_Points s w hs
 obtain ⟨O, hO⟩ : ∃ O : Int, (if txP s.data.toList then 0 else 50) = O := ⟨_, rfl⟩
 rw [hO] at P0 ⊢
 have P := Lib.hid P0
 clear P0 hO
 go_enter Tryz.func193, Tryz.ntmps193
 go_wp2_with fail
 refine P.out.mono ?_
 rintro e w1 ⟨⟨v, rfl⟩, hb⟩
 go_wp2_with fail
 go_ret
 exact ⟨rfl, hb⟩
end Go.Proofs.YtjgeiieiinmdnaaGreatDoor
namespace Go.Proofs.YtjgeiieiinmdnaaGreatDoor
open Go.RowKit Go.Lib

theorem dropWhile_nil {p : UInt8 → Bool} : ∀ l : List UInt8, l.dropWhile p = [] ↔ l.all p = true
 | [] => by simp
 | a :: l => by
  rw [List.dropWhile_cons]
  cases h : p a with
  | true => simp only [if_true, List.all_cons, h, Bool.true_and]; exact dropWhile_nil l
  | false => simp [h]
theorem dropWhile_head {p : UInt8 → Bool} : ∀ (l : List UInt8) (a : UInt8) (r : List UInt8), l.dropWhile p = a :: r → p a = false
 | [], _, _, h => by simp at h
 | b :: l, a, r, h => by
  rw [List.dropWhile_cons] at h
  cases hb : p b with
  | true => rw [hb, if_pos rfl] at h; exact dropWhile_head l a r h
  | false =>
   rw [hb] at h
   simp only [Bool.false_eq_true, if_false] at h
   cases h
   exact hb
theorem trimS_all (l cs : List UInt8) : Lib.trimS l cs = [] ↔ l.all (cs.contains ·) = true := by
 unfold Lib.trimS Lib.trimLeftS Lib.trimRightS
 rw [dropWhile_nil, List.all_reverse]
 constructor
 ·intro h
  cases hd : l.reverse.dropWhile (cs.contains ·) with
  | nil => rw [dropWhile_nil, List.all_reverse] at hd; exact hd
  | cons a r =>
   have h1 := dropWhile_head _ _ _ hd
   rw [hd, List.all_cons, h1] at h
   cases h
 ·intro h
  rw [(dropWhile_nil l.reverse).2 (by rw [List.all_reverse]; exact h)]
  rfl

/-- strings.indexFunc where the function says no to each of the text's runes. -/
theorem st_indexFunc_none (g : Nat) (lb : Array Value) (eg : ∀ args w, (callFunc g args).run Tryz.prog w = .ok (.enter g args) w) (s : ByteArray) (w : World) (Q : Nat → Prop) (hQ : ∀ pos, pos < s.size → Q (Utf8.decode s pos).1)
  (hp : ∀ (W : World) (x : Nat), Q x → Below w.heap.size w W → Calls Tryz.prog g (#[.int .i32 x] ++ lb) W (Ret W (.bool false))) :
  Calls Tryz.prog 251 #[.string s, .func (.func g) #[] lb, .bool true] w (Ret w (.int .i64 (-1))) := by
 go_enter Tryz.func251, Tryz.ntmps251
 go_wp2_with fail
 go_loopg [] s.size (fun gf wx => ∃ pos : Nat, wx.heap[w.heap.size]? = some (.stringIter s pos) ∧ Below w.heap.size w wx ∧ s.size ≤ pos + gf)
 case atStart => exact ⟨0, World.iter_heap w s 0, (Below.refl _ w).alloc (Nat.le_refl _) _, by omega⟩
 case round =>
  obtain ⟨pos, hit, hbw, hfu⟩ := hrel
  by_cases hps : pos < s.size
  ·obtain ⟨g', rfl⟩ : ∃ g', gk = g' + 1 := ⟨gk - 1, by omega⟩
   have hnx : ∀ ty, (Instr.next (.pointer (some ⟨w.heap.size, 0, none⟩)) true ty).run Tryz.prog wr = _ := fun ty => Lib.run_next_any_at wr w.heap.size s pos ty hit hps
   have hwd := Lib.width_pos s pos
   have hq := hQ pos hps
   obtain ⟨R, hR⟩ : ∃ R, (Utf8.decode s pos).1 = R := ⟨_, rfl⟩
   obtain ⟨K, hK⟩ : ∃ K, (Utf8.decode s pos).2 = K := ⟨_, rfl⟩
   rw [hR, hK] at hnx
   rw [hR] at hq
   rw [hK] at hwd
   have hit2 := Lib.iterAt_heap wr w.heap.size s pos (pos + K) hit
   have hbw2 := Lib.below_iterAt hbw (k := w.heap.size) (Nat.le_refl _) s (pos + K)
   obtain ⟨W, hWd⟩ : ∃ W, wr.iterAt w.heap.size s (pos + K) = W := ⟨_, rfl⟩
   rw [hWd] at hnx hit2 hbw2
   have hltW : w.heap.size < W.heap.size := (Array.getElem?_eq_some_iff.1 hit2).1
   have cS := Lib.hid (hp W R hq hbw2)
   have HB := Lib.hid hbw2
   clear hp hbw2 hbw hWd
   go_wp2_with (go_at_fn g; refine cS.out.mono ?_; rintro e W' ⟨rfl, hbc⟩)
   have hb2 := HB.out.trans (hbc.mono HB.out.size)
   have hit3 := (hbc.block _ hltW).trans hit2
   clear hbc
   go_wp2_with fail
   go_roundg g'
   case measure => omega
   case rel => exact ⟨pos + K, hit3, hb2, by omega⟩
  ·have hnx : ∀ ty, (Instr.next (.pointer (some ⟨w.heap.size, 0, none⟩)) true ty).run Tryz.prog wr = _ := fun ty => Lib.run_next_end_at wr w.heap.size s pos ty hit hps
   clear hp
   go_wp2_with fail
   go_ret
   exact ⟨rfl, hbw⟩
theorem st_has_none (g : Nat) (lb : Array Value) (eg : ∀ args w, (callFunc g args).run Tryz.prog w = .ok (.enter g args) w) (s : ByteArray) (w : World) (Q : Nat → Prop) (hQ : ∀ pos, pos < s.size → Q (Utf8.decode s pos).1)
  (hp : ∀ (W : World) (x : Nat), Q x → Below w.heap.size w W → Calls Tryz.prog g (#[.int .i32 x] ++ lb) W (Ret W (.bool false))) :
  Calls Tryz.prog 190 #[.string s, .func (.func g) #[] lb] w (Ret w (.bool false)) := by
 have H := Lib.hid (st_indexFunc_none g lb eg s w Q hQ hp)
 have I : Calls Tryz.prog 225 #[.string s, .func (.func g) #[] lb] w (Ret w (.int .i64 (-1))) := by
  go_enter Tryz.func225, Tryz.ntmps225
  go_wp2_with fail
  refine H.out.mono ?_
  rintro e w1 ⟨rfl, hb⟩
  go_wp2_with fail
  go_ret
  exact ⟨rfl, hb⟩
 have IH := Lib.hid I
 clear I H hp hQ
 go_enter Tryz.func190, Tryz.ntmps190
 go_wp2_with fail
 refine IH.out.mono ?_
 rintro e w1 ⟨rfl, hb⟩
 go_wp2_with fail
 go_ret
 exact ⟨rfl, hb⟩
theorem jd_of11 (L : Nat) (set : ByteArray) (x : Nat) (w : World) (hL : w.cell? ⟨L, 0, none⟩ = some (.string set)) (hx : x < 128) (hc : set.data.toList.contains x.toUInt8 = true) :
  Calls Tryz.prog 191 #[.int .i32 x, .pointer (some ⟨L, 0, none⟩)] w (Ret w (.bool false)) := by
 have C := fun w => Tryz.strings_ContainsRune_ascii set (x : Int) w (by omega) (by omega)
 rw [show ((x : Int)).toNat = x from rfl, ← contains_iff_indexByte, hc] at C
 have CH := Lib.hid C
 clear C hc
 go_enter Tryz.func191, Tryz.ntmps191
 go_wp2_with fail
 refine (CH.out _).mono ?_
 rintro e w1 ⟨rfl, rfl⟩
 go_wp2_with fail
 go_ret
 exact ⟨rfl, Below.refl _ _⟩
theorem dec_ascii (s : ByteArray) (set : List UInt8) (h : s.data.toList.all (set.contains ·) = true) (ha : set.all (fun b => decide (b.toNat < 128)) = true) (pos : Nat) (hp : pos < s.size) : (Utf8.decode s pos).1 < 128 ∧ set.contains (Utf8.decode s pos).1.toUInt8 = true := by
 rw [← decodeL_drop, drop_cons s pos hp]
 have hm : s[pos] ∈ s.data.toList := List.mem_of_getElem? (getElem_data s pos hp)
 have h1 := List.all_eq_true.1 h _ hm
 have h2 := List.all_eq_true.1 ha s[pos] (by simpa using h1)
 rw [decodeL_ascii _ _ (by simpa using h2)]
 refine ⟨by simpa using h2, ?_⟩
 rw [show s[pos].toNat.toUInt8 = s[pos] from UInt8.ofNat_toNat]
 exact h1
theorem e_of11 : ∀ args w, (callFunc 191 args).run Tryz.prog w = .ok (.enter 191 args) w := enters_of Tryz.func191 (by kernel_rfl) rfl
set_option maxHeartbeats 4000000 in
theorem jd_of1 (L : Nat) (set s : ByteArray) (w : World) (hL : w.cell? ⟨L, 0, none⟩ = some (.string set)) (hl : L < w.heap.size) (hs : s.size ≤ 10000) (hz : set.size ≤ 1000) (ha : set.data.toList.all (fun b => decide (b.toNat < 128)) = true) :
  Calls Tryz.prog 188 #[.string s, .pointer (some ⟨L, 0, none⟩)] w (Ret w (.bool (s.data.toList.all (set.data.toList.contains ·)))) := by
 have T := fun w => Any.strings_Trim_laid Tryz.lays160 (by kernel_rfl) s set w (by omega) (by omega) (ascii_of_all ha)
 obtain ⟨X, hX⟩ : ∃ X : ByteArray, ⟨(Lib.trimS s.data.toList set.data.toList).toArray⟩ = X := ⟨_, rfl⟩
 have hXl : X.data.toList = Lib.trimS s.data.toList set.data.toList := by rw [← hX]
 have hTA := trimS_all s.data.toList set.data.toList
 rw [← hXl] at hTA
 rw [hX] at T
 have TH := Lib.hid T
 have hX2 : X.toList = X.data.toList := Lib.toList_data X
 clear T hX hXl
 obtain ⟨t, ht⟩ : ∃ t, s.data.toList.all (set.data.toList.contains ·) = t := ⟨_, rfl⟩
 rw [ht] at hTA ⊢
 cases t with
 | false =>
  have hne : ¬ X.data.toList = [] := fun e => by have := hTA.1 e; cases this
  rw [← hX2] at hne
  have hq : (X.toList == []) = false := by simpa using hne
  clear hTA hX2 ht ha
  go_enter Tryz.func188, Tryz.ntmps188
  go_wp2_with fail
  refine (TH.out _).mono ?_
  rintro e w1 ⟨rfl, hb⟩
  go_wp2_with fail
  go_ret
  exact ⟨rfl, hb⟩
 | true =>
  have he := hTA.2 rfl
  rw [← hX2] at he
  have hq : (X.toList == []) = true := by rw [he]; rfl
  have HD := Lib.hid (dec_ascii s _ ht ha)
  clear hTA hX2 ht he ha
  go_enter Tryz.func188, Tryz.ntmps188
  go_wp2_with fail
  refine (TH.out _).mono ?_
  rintro e w1 ⟨rfl, hb⟩
  have hc1 := ((bcell hb).1 L 0 hl).trans hL
  have hz1 := hb.size
  have H := st_has_none 191 #[.pointer (some ⟨L, 0, none⟩)] e_of11 s w1 (fun x => x < 128 ∧ set.data.toList.contains x.toUInt8 = true) HD.out (fun W x hx hbw => jd_of11 L set x W (((bcell hbw).1 L 0 (by omega)).trans hc1) hx.1 hx.2)
  have HH := Lib.hid H
  clear H HD
  go_wp2_with fail
  refine HH.out.mono ?_
  rintro e w2 ⟨rfl, hb2⟩
  go_wp2_with fail
  go_ret
  exact ⟨rfl, hb.trans (hb2.mono hb.size)⟩
end Go.Proofs.YtjgeiieiinmdnaaGreatDoor
namespace Go.Proofs.YtjgeiieiinmdnaaGreatDoor
open Go.RowKit Go.Lib

abbrev plainB : ByteArray := ⟨#[97, 98, 99, 100, 101, 102, 103, 104, 105, 106, 107, 108, 109, 110, 111, 112, 113, 114, 115, 116, 117, 118, 119, 120, 121, 122, 48, 49, 50, 51, 52, 53, 54, 55, 56, 57]⟩
abbrev locB : ByteArray := ⟨#[97, 98, 99, 100, 101, 102, 103, 104, 105, 106, 107, 108, 109, 110, 111, 112, 113, 114, 115, 116, 117, 118, 119, 120, 121, 122, 48, 49, 50, 51, 52, 53, 54, 55, 56, 57, 46, 45, 95]⟩
abbrev domB : ByteArray := ⟨#[97, 98, 99, 100, 101, 102, 103, 104, 105, 106, 107, 108, 109, 110, 111, 112, 113, 114, 115, 116, 117, 118, 119, 120, 121, 122, 48, 49, 50, 51, 52, 53, 54, 55, 56, 57, 46, 45]⟩
theorem plain_A (c : UInt8) : plainB.data.toList.contains c = jdA c := by
 have := all256 (q := fun c => plainB.data.toList.contains c == jdA c) (by decide +kernel) c
 simpa using this
theorem loc_L (c : UInt8) : locB.data.toList.contains c = jdL c := by
 have := all256 (q := fun c => locB.data.toList.contains c == jdL c) (by decide +kernel) c
 simpa using this
theorem dom_D (c : UInt8) : domB.data.toList.contains c = jdD c := by
 have := all256 (q := fun c => domB.data.toList.contains c == jdD c) (by decide +kernel) c
 simpa using this

/-! ### no byte below 32 -/
theorem low32N (n b0 b1 b2 b3 r k : Nat) (h : decodeN n b0 b1 b2 b3 = (r, k)) : (r < 32 ↔ b0 < 32) ∧ (32 ≤ b0 → k ≤ 4 ∧ (2 ≤ k → 32 ≤ b1) ∧ (3 ≤ k → 32 ≤ b2) ∧ (4 ≤ k → 32 ≤ b3)) := by
 unfold decodeN at h
 repeat' split at h
 all_goals
  obtain ⟨e1, e2⟩ := Prod.mk.inj h
  omega
theorem take_any (l : List UInt8) (k : Nat) (h0 : 32 ≤ (l.getD 0 0).toNat) (hk : k ≤ 4) (h1 : 2 ≤ k → 32 ≤ (l.getD 1 0).toNat) (h2 : 3 ≤ k → 32 ≤ (l.getD 2 0).toNat) (h3 : 4 ≤ k → 32 ≤ (l.getD 3 0).toNat) : (l.take k).any (fun c => decide (c.toNat < 32)) = false := by
 rw [List.any_eq_false]
 intro c hc
 obtain ⟨i, hi, rfl⟩ := List.mem_iff_getElem.1 hc
 rw [List.length_take] at hi
 rw [List.getElem_take, decide_eq_true_eq]
 have e : ∀ j (hj : j < l.length), l.getD j 0 = l[j] := fun j hj => by simp [List.getD, hj]
 have hi2 : i < l.length := by omega
 rcases Nat.lt_or_ge i 1 with h | h
 ·obtain rfl : i = 0 := by omega
  rw [e 0 hi2] at h0
  omega
 ·rcases Nat.lt_or_ge i 2 with h' | h'
  ·obtain rfl : i = 1 := by omega
   have := h1 (by omega)
   rw [e 1 hi2] at this
   omega
  ·rcases Nat.lt_or_ge i 3 with h'' | h''
   ·obtain rfl : i = 2 := by omega
    have := h2 (by omega)
    rw [e 2 hi2] at this
    omega
   ·obtain rfl : i = 3 := by omega
    have := h3 (by omega)
    rw [e 3 hi2] at this
    omega
theorem idx32G (s : ByteArray) : ∀ (f pos : Nat), s.size ≤ pos + f → decide (0 ≤ idxFuncFrom (fun x => decide (x < 32)) true s f pos) = (s.data.toList.drop pos).any (fun c => decide (c.toNat < 32))
 | 0, pos, h => by
  rw [List.drop_eq_nil_of_le (by rw [size_toList]; omega)]
  rfl
 | f + 1, pos, h => by
  unfold idxFuncFrom
  by_cases hp : pos < s.size
  ·rw [if_pos hp]
   have hN := low32N (s.data.toList.drop pos).length _ _ _ _ (Utf8.decode s pos).1 (Utf8.decode s pos).2 (by rw [← decodeL_N, decodeL_drop])
   have hw := Lib.width_pos s pos
   have hD := drop_cons s pos hp
   have h0 : ((s.data.toList.drop pos).getD 0 0) = s[pos] := by rw [hD]; rfl
   by_cases hr : (Utf8.decode s pos).1 < 32
   ·have hb := hN.1.1 hr
    rw [h0] at hb
    rw [if_pos (decide_eq_true hr), hD, List.any_cons, decide_eq_true hb, Bool.true_or]
    exact decide_eq_true (by omega)
   ·rw [if_neg (by simpa using hr)]
    have hb : 32 ≤ ((s.data.toList.drop pos).getD 0 0).toNat := by
     have := fun h => hr (hN.1.2 h)
     omega
    obtain ⟨k1, k2, k3, k4⟩ := hN.2 hb
    rw [idx32G s f _ (by omega), ← List.drop_drop]
    conv => rhs; rw [← List.take_append_drop (Utf8.decode s pos).2 (s.data.toList.drop pos), List.any_append, take_any _ _ hb k1 k2 k3 k4, Bool.false_or]
  ·rw [if_neg hp, List.drop_eq_nil_of_le (by rw [size_toList]; omega)]
   rfl
theorem idx32 (s : ByteArray) : decide (0 ≤ idxFunc (fun x => decide (x < 32)) true s) = !s.data.toList.all (fun c => decide (32 ≤ c.toNat)) := by
 have := idx32G s s.size 0 (by omega)
 rw [List.drop_zero] at this
 unfold idxFunc
 rw [this, List.not_all_eq_any_not]
 congr 1
 funext c
 rw [← decide_not]
 exact decide_eq_decide.2 (by omega)
theorem jd_words1 (x : Nat) (hx : x ≤ 1114111) (w : World) : Calls Tryz.prog 194 #[.int .i32 x] w fun e w' => e = .returned (.bool (decide (x < 32))) ∧ w' = w := by
 obtain ⟨t, ht⟩ : ∃ t, decide (x < 32) = t := ⟨_, rfl⟩
 rw [ht]
 have h1 : decide ((x : Int) < 32) = t := by rw [← ht]; exact decide_eq_decide.2 (by omega)
 clear ht
 go_enter Tryz.func194, Tryz.ntmps194
 go_wp2_with fail
 go_ret
 exact ⟨rfl, rfl⟩
theorem e_words1 : ∀ args w, (callFunc 194 args).run Tryz.prog w = .ok (.enter 194 args) w := enters_of Tryz.func194 (by kernel_rfl) rfl
set_option maxHeartbeats 4000000 in
theorem jd_words (s : ByteArray) (w : World) (hs : s.size ≤ 10000) : Calls Tryz.prog 149 #[.string s] w (Ret w (.bool (txP s.data.toList && s.data.toList.all fun c => decide (32 ≤ c.toNat)))) := by
 have T := fun w => tx_Check s w hs
 have F := fun w => Tryz.strings_ContainsFunc_grows 194 #[] e_words1 (fun x => decide (x < 32)) s w (fun W x hx _ => (jd_words1 x hx W).mono fun e w' ⟨h1, h2⟩ => ⟨h1, by rw [h2]; exact Below.refl _ _⟩)
 rw [idx32] at F
 obtain ⟨a, ha⟩ : ∃ a, txP s.data.toList = a := ⟨_, rfl⟩
 obtain ⟨b, hb⟩ : ∃ a, (s.data.toList.all fun c => decide (32 ≤ c.toNat)) = a := ⟨_, rfl⟩
 rw [ha] at T
 rw [hb] at F
 rw [ha, hb]
 have FH := Lib.hid F
 clear F ha hb
 cases a with
 | false =>
  have TH := Lib.hid T
  clear T
  go_enter Tryz.func149, Tryz.ntmps149
  go_wp2_with fail
  refine (TH.out _).mono ?_
  rintro e w1 ⟨rfl, hb1⟩
  go_wp2_with fail
  go_ret
  exact ⟨rfl, hb1⟩
 | true =>
  have TH := Lib.hid T
  clear T
  cases b with
  | true =>
   go_enter Tryz.func149, Tryz.ntmps149
   go_wp2_with fail
   refine (TH.out _).mono ?_
   rintro e w1 ⟨rfl, hb1⟩
   go_wp2_with fail
   refine (FH.out _).mono ?_
   rintro e w2 ⟨rfl, hb2⟩
   go_wp2_with fail
   go_ret
   exact ⟨rfl, hb1.trans (hb2.mono hb1.size)⟩
  | false =>
   go_enter Tryz.func149, Tryz.ntmps149
   go_wp2_with fail
   refine (TH.out _).mono ?_
   rintro e w1 ⟨rfl, hb1⟩
   go_wp2_with fail
   refine (FH.out _).mono ?_
   rintro e w2 ⟨rfl, hb2⟩
   go_wp2_with fail
   go_ret
   exact ⟨rfl, hb1.trans (hb2.mono hb1.size)⟩

/-! ### both ends, and no two points -/
theorem last_data (s : ByteArray) (h : 0 < s.size) : s.data.toList.getLastD 0 = s[s.size - 1]'(by omega) := by
 rw [List.getLastD_eq_getLast?, List.getLast?_eq_getElem?, size_toList, getElem_data s (s.size - 1) (by omega)]
 rfl
theorem head_data (s : ByteArray) (h : 0 < s.size) : s.data.toList.headD 0 = s[0]'h := by
 have := drop_cons s 0 h
 rw [List.drop_zero] at this
 rw [this]
 rfl
set_option maxHeartbeats 4000000 in
theorem jd_ends (s : ByteArray) (w : World) (hs : s.size ≤ 10000) (h0 : 0 < s.size) : Calls Tryz.prog 150 #[.string s] w fun e w' => e = .returned (.bool (jdA (s.data.toList.headD 0) && jdA (s.data.toList.getLastD 0))) ∧ w' = w := by
 have I := fun (c : UInt8) w => Tryz.strings_IndexByte plainB (c.toNat : Int) w
 have e : ∀ c : UInt8, ((c.toNat : Int)).toNat.toUInt8 = c := fun c => UInt8.ofNat_toNat
 simp only [e] at I
 have J : ∀ c : UInt8, decide (0 ≤ Lib.indexByte plainB.data.toList c) = jdA c := fun c => by rw [← contains_iff_indexByte, plain_A]
 rw [head_data s h0, last_data s h0]
 have hl : s.size - 1 < s.size := by omega
 have hk : ((s.size : Int) - 1) = ((s.size - 1 : Nat) : Int) := by omega
 obtain ⟨V, hV⟩ : ∃ V, Lib.indexByte plainB.data.toList s[0] = V := ⟨_, rfl⟩
 obtain ⟨U, hU⟩ : ∃ V, Lib.indexByte plainB.data.toList (s[s.size - 1]'hl) = V := ⟨_, rfl⟩
 have I1 := I s[0]
 have I2 := I (s[s.size - 1]'hl)
 have j1 := J s[0]
 have j2 := J (s[s.size - 1]'hl)
 rw [hV] at I1 j1
 rw [hU] at I2 j2
 obtain ⟨a, ha⟩ : ∃ a, jdA s[0] = a := ⟨_, rfl⟩
 obtain ⟨b, hb⟩ : ∃ a, jdA (s[s.size - 1]'hl) = a := ⟨_, rfl⟩
 rw [ha] at j1
 rw [hb] at j2
 rw [ha, hb]
 have H1 := Lib.hid I1
 have H2 := Lib.hid I2
 clear I J e I1 I2 hV hU ha hb
 cases a with
 | false =>
  have g1 : ¬ 0 ≤ V := of_decide_eq_false j1
  go_enter Tryz.func150, Tryz.ntmps150
  go_wp2_with fail
  refine (H1.out _).mono ?_
  rintro e w1 ⟨rfl, rfl⟩
  go_wp2_with fail
  go_ret
  exact ⟨rfl, rfl⟩
 | true =>
  have g1 : 0 ≤ V := of_decide_eq_true j1
  go_enter Tryz.func150, Tryz.ntmps150
  go_wp2_with fail
  refine (H1.out _).mono ?_
  rintro e w1 ⟨rfl, rfl⟩
  go_wp2_with fail
  refine (H2.out _).mono ?_
  rintro e w1 ⟨rfl, rfl⟩
  go_wp2_with fail
  go_ret
  exact ⟨rfl, rfl⟩
theorem dots_eq : ∀ l : List UInt8, Lib.contains l [46, 46] = dotsP l
 | [] => rfl
 | [a] => by simp [Lib.contains, Lib.index, List.isPrefixOf, dotsP]
 | a :: b :: l => by
  have ih := dots_eq (b :: l)
  unfold Lib.contains at ih ⊢
  unfold Lib.index dotsP
  have hp : ([46, 46] : List UInt8).isPrefixOf (a :: b :: l) = (a == 46 && b == 46) := by
   show ((46 : UInt8) == a && ((46 : UInt8) == b && true)) = _
   rw [Bool.and_true, beq_comm_u8 46 a, beq_comm_u8 46 b]
  rw [hp]
  cases (a == 46 && b == 46) with
  | true => rfl
  | false =>
   rw [Bool.false_or, ← ih]
   simp only [Bool.false_eq_true, if_false]
   split
   ·rename_i h
    rw [beq_iff_eq] at h
    rw [h]
   ·rename_i h
    have := index_ge (b :: l) [46, 46]
    have h' : Lib.index (b :: l) [46, 46] ≠ -1 := fun e => h (by rw [e]; rfl)
    rw [decide_eq_true (by omega), decide_eq_true (by omega)]
theorem jd_dots (s : ByteArray) (w : World) (hs : s.size ≤ 10000) (hm : ML w) : Calls Tryz.prog 151 #[.string s] w fun e w' => e = .returned (.bool (!dotsP s.data.toList)) ∧ w' = w := by
 obtain ⟨-, m, hm⟩ := hm
 have C := Tryz.strings_Contains s ⟨#[46, 46]⟩ m w (by omega) hm
 rw [show (ByteArray.mk #[46, 46]).data.toList = [46, 46] from rfl, dots_eq] at C
 have H := Lib.hid C
 clear C
 go_enter Tryz.func151, Tryz.ntmps151
 go_wp2_with fail
 refine H.out.mono ?_
 rintro e w1 ⟨rfl, rfl⟩
 go_wp2_with fail
 go_ret
 exact ⟨rfl, rfl⟩
end Go.Proofs.YtjgeiieiinmdnaaGreatDoor
