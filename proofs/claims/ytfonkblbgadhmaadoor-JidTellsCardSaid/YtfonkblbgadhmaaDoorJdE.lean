/- jid.of, jid.words, jid.ends, jid.dots: the conditions of a part. -/
import Derived.Test.YtfonkblbgadhmaaDoorJdD
import Derived.Lib.IndexAny
import Derived.Shelf.Strings.FuncGrows
namespace Go.Proofs.YtfonkblbgadhmaaDoor
open Go.RowKit Go.Lib

theorem dropWhile_nil {p : UInt8 → Bool} : ∀ l : List UInt8, l.dropWhile p = [] ↔ l.all p = true
  | [] => by simp
  | a :: l => by
    rw [List.dropWhile_cons]
    cases h : p a with
    | true => simp only [if_true, List.all_cons, h, Bool.true_and]; exact dropWhile_nil l
    | false => simp [h]
theorem dropWhile_head {p : UInt8 → Bool} : ∀ (l : List UInt8) (a : UInt8) (r : List UInt8), l.dropWhile p = a :: r → p a = false
  | [], _, _, h => by simp at h
  | b :: l, a, r, h => by
    rw [List.dropWhile_cons] at h
    cases hb : p b with
    | true => rw [hb, if_pos rfl] at h; exact dropWhile_head l a r h
    | false =>
      rw [hb] at h
      simp only [Bool.false_eq_true, if_false] at h
      cases h
      exact hb
theorem trimS_all (l cs : List UInt8) : Lib.trimS l cs = [] ↔ l.all (cs.contains ·) = true := by
  unfold Lib.trimS Lib.trimLeftS Lib.trimRightS
  rw [dropWhile_nil, List.all_reverse]
  constructor
  · intro h
    cases hd : l.reverse.dropWhile (cs.contains ·) with
    | nil => rw [dropWhile_nil, List.all_reverse] at hd; exact hd
    | cons a r =>
      have h1 := dropWhile_head _ _ _ hd
      rw [hd, List.all_cons, h1] at h
      cases h
  · intro h
    rw [(dropWhile_nil l.reverse).2 (by rw [List.all_reverse]; exact h)]
    rfl

/-- strings.indexFunc where the function says no to each of the text's runes. -/
theorem st_indexFunc_none (g : Nat) (lb : Array Value) (eg : ∀ args w, (callFunc g args).run Tryd.prog w = .ok (.enter g args) w) (s : ByteArray) (w : World) (Q : Nat → Prop) (hQ : ∀ pos, pos < s.size → Q (Utf8.decode s pos).1)
    (hp : ∀ (W : World) (x : Nat), Q x → Below w.heap.size w W → Calls Tryd.prog g (#[.int .i32 x] ++ lb) W (Ret W (.bool false))) :
    Calls Tryd.prog 76 #[.string s, .func (.func g) #[] lb, .bool true] w (Ret w (.int .i64 (-1))) := by
  go_enter Tryd.func76, Tryd.ntmps76
  go_wp2_with fail
  go_loopg [] s.size (fun gf wx => ∃ pos : Nat, wx.heap[w.heap.size]? = some (.stringIter s pos) ∧ Below w.heap.size w wx ∧ s.size ≤ pos + gf)
  case atStart => exact ⟨0, World.iter_heap w s 0, (Below.refl _ w).alloc (Nat.le_refl _) _, by omega⟩
  case round =>
    obtain ⟨pos, hit, hbw, hfu⟩ := hrel
    by_cases hps : pos < s.size
    · obtain ⟨g', rfl⟩ : ∃ g', gk = g' + 1 := ⟨gk - 1, by omega⟩
      have hnx : ∀ ty, (Instr.next (.pointer (some ⟨w.heap.size, 0, none⟩)) true ty).run Tryd.prog wr = _ := fun ty => Lib.run_next_any_at wr w.heap.size s pos ty hit hps
      have hwd := Lib.width_pos s pos
      have hq := hQ pos hps
      obtain ⟨R, hR⟩ : ∃ R, (Utf8.decode s pos).1 = R := ⟨_, rfl⟩
      obtain ⟨K, hK⟩ : ∃ K, (Utf8.decode s pos).2 = K := ⟨_, rfl⟩
      rw [hR, hK] at hnx
      rw [hR] at hq
      rw [hK] at hwd
      have hit2 := Lib.iterAt_heap wr w.heap.size s pos (pos + K) hit
      have hbw2 := Lib.below_iterAt hbw (k := w.heap.size) (Nat.le_refl _) s (pos + K)
      obtain ⟨W, hWd⟩ : ∃ W, wr.iterAt w.heap.size s (pos + K) = W := ⟨_, rfl⟩
      rw [hWd] at hnx hit2 hbw2
      have hltW : w.heap.size < W.heap.size := (Array.getElem?_eq_some_iff.1 hit2).1
      have cS := Lib.hid (hp W R hq hbw2)
      have HB := Lib.hid hbw2
      clear hp hbw2 hbw hWd
      go_wp2_with (go_at_fn g; refine cS.out.mono ?_; rintro e W' ⟨rfl, hbc⟩)
      have hb2 := HB.out.trans (hbc.mono HB.out.size)
      have hit3 := (hbc.block _ hltW).trans hit2
      clear hbc
      go_wp2_with fail
      go_roundg g'
      case measure => omega
      case rel => exact ⟨pos + K, hit3, hb2, by omega⟩
    · have hnx : ∀ ty, (Instr.next (.pointer (some ⟨w.heap.size, 0, none⟩)) true ty).run Tryd.prog wr = _ := fun ty => Lib.run_next_end_at wr w.heap.size s pos ty hit hps
      clear hp
      go_wp2_with fail
      go_ret
      exact ⟨rfl, hbw⟩
theorem st_has_none (g : Nat) (lb : Array Value) (eg : ∀ args w, (callFunc g args).run Tryd.prog w = .ok (.enter g args) w) (s : ByteArray) (w : World) (Q : Nat → Prop) (hQ : ∀ pos, pos < s.size → Q (Utf8.decode s pos).1)
    (hp : ∀ (W : World) (x : Nat), Q x → Below w.heap.size w W → Calls Tryd.prog g (#[.int .i32 x] ++ lb) W (Ret W (.bool false))) :
    Calls Tryd.prog 42 #[.string s, .func (.func g) #[] lb] w (Ret w (.bool false)) := by
  have H := Lib.hid (st_indexFunc_none g lb eg s w Q hQ hp)
  have I : Calls Tryd.prog 62 #[.string s, .func (.func g) #[] lb] w (Ret w (.int .i64 (-1))) := by
    go_enter Tryd.func62, Tryd.ntmps62
    go_wp2_with fail
    refine H.out.mono ?_
    rintro e w1 ⟨rfl, hb⟩
    go_wp2_with fail
    go_ret
    exact ⟨rfl, hb⟩
  have IH := Lib.hid I
  clear I H hp hQ
  go_enter Tryd.func42, Tryd.ntmps42
  go_wp2_with fail
  refine IH.out.mono ?_
  rintro e w1 ⟨rfl, hb⟩
  go_wp2_with fail
  go_ret
  exact ⟨rfl, hb⟩
theorem jd_of11 (L : Nat) (set : ByteArray) (x : Nat) (w : World) (hL : w.cell? ⟨L, 0, none⟩ = some (.string set)) (hx : x < 128) (hc : set.data.toList.contains x.toUInt8 = true) :
    Calls Tryd.prog 43 #[.int .i32 x, .pointer (some ⟨L, 0, none⟩)] w (Ret w (.bool false)) := by
  have C := fun w => Tryd.strings_ContainsRune_ascii set (x : Int) w (by omega) (by omega)
  rw [show ((x : Int)).toNat = x from rfl, ← contains_iff_indexByte, hc] at C
  have CH := Lib.hid C
  clear C hc
  go_enter Tryd.func43, Tryd.ntmps43
  go_wp2_with fail
  refine (CH.out _).mono ?_
  rintro e w1 ⟨rfl, rfl⟩
  go_wp2_with fail
  go_ret
  exact ⟨rfl, Below.refl _ _⟩
theorem dec_ascii (s : ByteArray) (set : List UInt8) (h : s.data.toList.all (set.contains ·) = true) (ha : set.all (fun b => decide (b.toNat < 128)) = true) (pos : Nat) (hp : pos < s.size) : (Utf8.decode s pos).1 < 128 ∧ set.contains (Utf8.decode s pos).1.toUInt8 = true := by
  rw [← decodeL_drop, drop_cons s pos hp]
  have hm : s[pos] ∈ s.data.toList := List.mem_of_getElem? (getElem_data s pos hp)
  have h1 := List.all_eq_true.1 h _ hm
  have h2 := List.all_eq_true.1 ha s[pos] (by simpa using h1)
  rw [decodeL_ascii _ _ (by simpa using h2)]
  refine ⟨by simpa using h2, ?_⟩
  rw [show s[pos].toNat.toUInt8 = s[pos] from UInt8.ofNat_toNat]
  exact h1
theorem e_of11 : ∀ args w, (callFunc 43 args).run Tryd.prog w = .ok (.enter 43 args) w := enters_of Tryd.func43 (by kernel_rfl) rfl
set_option maxHeartbeats 4000000 in
theorem jd_of1 (L : Nat) (set s : ByteArray) (w : World) (hL : w.cell? ⟨L, 0, none⟩ = some (.string set)) (hl : L < w.heap.size) (hs : s.size ≤ 10000) (hz : set.size ≤ 1000) (ha : set.data.toList.all (fun b => decide (b.toNat < 128)) = true) :
    Calls Tryd.prog 40 #[.string s, .pointer (some ⟨L, 0, none⟩)] w (Ret w (.bool (s.data.toList.all (set.data.toList.contains ·)))) := by
  have T := fun w => Any.strings_Trim_laid Tryd.lays160 (by kernel_rfl) s set w (by omega) (by omega) (ascii_of_all ha)
  obtain ⟨X, hX⟩ : ∃ X : ByteArray, ⟨(Lib.trimS s.data.toList set.data.toList).toArray⟩ = X := ⟨_, rfl⟩
  have hXl : X.data.toList = Lib.trimS s.data.toList set.data.toList := by rw [← hX]
  have hTA := trimS_all s.data.toList set.data.toList
  rw [← hXl] at hTA
  rw [hX] at T
  have TH := Lib.hid T
  have hX2 : X.toList = X.data.toList := Lib.toList_data X
  clear T hX hXl
  obtain ⟨t, ht⟩ : ∃ t, s.data.toList.all (set.data.toList.contains ·) = t := ⟨_, rfl⟩
  rw [ht] at hTA ⊢
  cases t with
  | false =>
    have hne : ¬ X.data.toList = [] := fun e => by have := hTA.1 e; cases this
    rw [← hX2] at hne
    have hq : (X.toList == []) = false := by simpa using hne
    clear hTA hX2 ht ha
    go_enter Tryd.func40, Tryd.ntmps40
    go_wp2_with fail
    refine (TH.out _).mono ?_
    rintro e w1 ⟨rfl, hb⟩
    go_wp2_with fail
    go_ret
    exact ⟨rfl, hb⟩
  | true =>
    have he := hTA.2 rfl
    rw [← hX2] at he
    have hq : (X.toList == []) = true := by rw [he]; rfl
    have HD := Lib.hid (dec_ascii s _ ht ha)
    clear hTA hX2 ht he ha
    go_enter Tryd.func40, Tryd.ntmps40
    go_wp2_with fail
    refine (TH.out _).mono ?_
    rintro e w1 ⟨rfl, hb⟩
    have hc1 := ((bcell hb).1 L 0 hl).trans hL
    have hz1 := hb.size
    have H := st_has_none 43 #[.pointer (some ⟨L, 0, none⟩)] e_of11 s w1 (fun x => x < 128 ∧ set.data.toList.contains x.toUInt8 = true) HD.out (fun W x hx hbw => jd_of11 L set x W (((bcell hbw).1 L 0 (by omega)).trans hc1) hx.1 hx.2)
    have HH := Lib.hid H
    clear H HD
    go_wp2_with fail
    refine HH.out.mono ?_
    rintro e w2 ⟨rfl, hb2⟩
    go_wp2_with fail
    go_ret
    exact ⟨rfl, hb.trans (hb2.mono hb.size)⟩
end Go.Proofs.YtfonkblbgadhmaaDoor
