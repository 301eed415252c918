/- num.Version, of every text. -/
import Derived.Test.YtgechifpappipaaDoorNumH
import Derived.Laws.BytesArg
namespace Go.Proofs.YtgechifpappipaaDoor
open Go.RowKit

theorem str_bytes2 {P : Program} (w : World) (src dst e : TypeId) (s : ByteArray) (hs : P.underlying src = some .string) (hd : P.underlying dst = some (.slice e)) (he : P.underlying e = some (.int .u8)) :
    ∃ cap C, (∀ j (h : j < s.size), C[j]? = some (.int .u8 (s[j].toNat : Int))) ∧ s.size ≤ cap ∧
      (convert src dst (.string s)).run P w = .ok (.slice (some ⟨w.heap.size, 0, none⟩) s.size cap) (w.alloc (.cells C e (C.size, C.size + 1))).drew :=
  ⟨grownCap w s.size 0 e, bytesRow s (grownCap w s.size 0 e), fun j h => bytesRow_at s _ j h, grownCap_ge _ _ _ _, run_bytes_of_string w src dst e s hs hd he⟩

/-- The bytes of a cut of a block that holds a text, as a text. -/
theorem conv_cut {P : Program} (w : World) (src dst e : TypeId) (g off : Nat) (l r : List UInt8) (cap : Nat) (hb : BytesAt w g l) (hs : P.underlying src = some (.slice e)) (he : P.underlying e = some (.int .u8)) (hd : P.underlying dst = some .string)
    (hr : ∀ j (h : j < r.length), ∃ h2 : off + j < l.length, l[off + j] = r[j]) :
    (convert src dst (.slice (some ⟨g, off, none⟩) r.length cap)).run P w = .ok (.string ⟨r.toArray⟩) w :=
  run_convert_bytes_back w src dst e ⟨g, off, none⟩ cap r hs he hd (fun j hj => by
    obtain ⟨h2, h3⟩ := hr j hj
    have h1 := hb (off + j) h2
    rw [h3] at h1
    rw [← h1]
    unfold Addr.add
    split
    · rename_i h0
      subst h0
      rfl
    · rfl)
theorem BytesAt.below {w w' : World} {g : Nat} {l : List UInt8} (h : BytesAt w g l) (hb : Below w.heap.size w w') (hg : g < w.heap.size) : BytesAt w' g l :=
  fun j hj => (hb.cell (p := ⟨g, j, none⟩) hg).trans (h j hj)

set_option maxHeartbeats 2000000 in
theorem num_Version_long (s : ByteArray) (w : World) (hs : s.size ≤ 9223372036854775807) (h : 16 < s.size) :
    Calls Tryd.prog 16 #[.string s] w (Ret w (.tuple #[.int .i64 0, .int .i64 0, .int .i64 60])) := by
  have h1 : 16 < (s.size : Int) := by omega
  go_enter Tryd.func16, Tryd.ntmps16
  go_wp2_with fail
  go_ret3
  exact ⟨rfl, by go_grown⟩

set_option maxHeartbeats 2000000 in
/-- A text with no point. -/
theorem num_Version_none (s : ByteArray) (w : World) (hs : s.size ≤ 16) (h : ∀ j (h : j < s.data.toList.length), s.data.toList[j] ≠ 46) :
    Calls Tryd.prog 16 #[.string s] w (Ret w (.tuple #[.int .i64 0, .int .i64 0, .int .i64 60])) := by
  obtain ⟨cap, C, hC, hcap, hcv⟩ := str_bytes2 (P := Tryd.prog) w 9 41 5 s Tryd.underlying9 Tryd.underlying41 Tryd.underlying5
  have hB : BytesAt ((w.alloc (.cells C 5 (C.size, C.size + 1))).drew) w.heap.size s.data.toList := fun j hj => (World.cell?_alloc_mark w C _ _ j).trans (hC j (by simpa using hj))
  have c := parted_none w.heap.size cap s.data.toList _ hB (by rw [size_toList]; exact hs) h
  rw [size_toList] at c
  have C1 := Lib.hid c
  have c2 := fun W => both_bad none none 0 0 0 0 ⟨#[]⟩ ⟨#[]⟩ W (fun W _ => run_convert_bytes_nil _ _ _ Tryd.underlying41 Tryd.underlying5 0 0 _ Tryd.underlying9) (fun W _ => run_convert_bytes_nil _ _ _ Tryd.underlying41 Tryd.underlying5 0 0 _ Tryd.underlying9) (by decide) (by decide) rfl
  have C2 := Lib.hid c2
  clear c c2 hB hC h
  have h1 : (s.size : Int) ≤ 16 := by omega
  go_enter Tryd.func16, Tryd.ntmps16
  go_wp2_with fail
  refine C1.out.mono ?_
  rintro e w1 ⟨rfl, hb1⟩
  obtain ⟨hc1, hf1, hz1, hB1⟩ := bfactsD (w := w) hb1 (by go_grown)
  go_wp2_with fail
  refine (C2.out _).mono ?_
  rintro e w2 ⟨rfl, hb2⟩
  go_wp2_with fail
  go_ret3
  exact ⟨rfl, hB1.trans (hb2.mono hB1.size)⟩

/-- What parted answers where there is a point: two slices that are the texts ahead of it and behind it. -/
theorem parted_texts (g cap : Nat) (l : List UInt8) (W : World) (hb : BytesAt W g l) (hg : g < W.heap.size) (hl : l.length ≤ 16) (hcap : l.length ≤ cap) (i : Nat) (hi : i < l.length) (hp : l[i] = 46) (h : ∀ j (h : j < i), l[j] ≠ 46) :
    ∃ (B : Option Addr) (m cb : Nat), Calls Tryd.prog 22 #[.slice (some ⟨g, 0, none⟩) l.length cap, .int .u8 46] W (Ret W (.tuple #[.slice (some ⟨g, 0, none⟩) i cap, .slice B m cb, .bool true])) ∧
      (∀ W', Below W.heap.size W W' → (convert 41 9 (.slice (some ⟨g, 0, none⟩) i cap)).run Tryd.prog W' = .ok (.string ⟨(l.take i).toArray⟩) W') ∧
      (∀ W', Below W.heap.size W W' → (convert 41 9 (.slice B m cb)).run Tryd.prog W' = .ok (.string ⟨(l.drop (i + 1)).toArray⟩) W') := by
  have hA : ∀ W', Below W.heap.size W W' → (convert 41 9 (.slice (some ⟨g, 0, none⟩) i cap)).run Tryd.prog W' = .ok (.string ⟨(l.take i).toArray⟩) W' := fun W' hW => by
    have := conv_cut (P := Tryd.prog) W' 41 9 5 g 0 l (l.take i) cap (hb.below hW hg) Tryd.underlying41 Tryd.underlying5 Tryd.underlying9 (fun j hj => by
      have hj2 : j < i := by simp at hj; omega
      exact ⟨by omega, by simp⟩)
    rw [List.length_take_of_le (by omega)] at this
    exact this
  by_cases hne : cap = i + 1
  · subst hne
    have hl1 : l.length = i + 1 := by omega
    refine ⟨some ⟨g, 0, none⟩, 0, 0, ?_, hA, fun W' _ => ?_⟩
    · have := parted_end g i l W hb hl hl1 hp h
      rw [hl1]
      exact this
    · rw [List.drop_of_length_le (by omega)]
      exact run_convert_bytes_back W' _ _ _ ⟨g, 0, none⟩ 0 [] Tryd.underlying41 Tryd.underlying5 Tryd.underlying9 (fun j hj => by simp at hj)
  · refine ⟨some ⟨g, i + 1, none⟩, l.length - (i + 1), cap - (i + 1), parted_some g cap l W hb hl hcap i hi hp h hne, hA, fun W' hW => ?_⟩
    have := conv_cut (P := Tryd.prog) W' 41 9 5 g (i + 1) l (l.drop (i + 1)) (cap - (i + 1)) (hb.below hW hg) Tryd.underlying41 Tryd.underlying5 Tryd.underlying9 (fun j hj => by
      have hj2 : j < l.length - (i + 1) := by simpa using hj
      exact ⟨by omega, by simp⟩)
    rw [List.length_drop] at this
    exact this

set_option maxHeartbeats 4000000 in
/-- A text with a point. -/
theorem num_Version_at (s : ByteArray) (w : World) (hs : s.size ≤ 16) (i : Nat) (hi : i < s.data.toList.length) (hp : s.data.toList[i] = 46) (h : ∀ j (h : j < i), s.data.toList[j] ≠ 46) :
    Calls Tryd.prog 16 #[.string s] w (Ret w (.tuple #[.int .i64 (((vsAt s.data.toList i).map (fun x => (x.1 : Int))).getD 0), .int .i64 (((vsAt s.data.toList i).map (fun x => (x.2 : Int))).getD 0), .int .i64 (if (vsAt s.data.toList i).isSome then 0 else 60)])) := by
  obtain ⟨cap, C, hC, hcap, hcv⟩ := str_bytes2 (P := Tryd.prog) w 9 41 5 s Tryd.underlying9 Tryd.underlying41 Tryd.underlying5
  have hB : BytesAt ((w.alloc (.cells C 5 (C.size, C.size + 1))).drew) w.heap.size s.data.toList := fun j hj => (World.cell?_alloc_mark w C _ _ j).trans (hC j (by simpa using hj))
  obtain ⟨B, m, cb, c, hA, hBB⟩ := parted_texts w.heap.size cap s.data.toList _ hB (by simp) (by rw [size_toList]; exact hs) (by rw [size_toList]; exact hcap) i hi hp h
  rw [size_toList] at c
  have C1 := Lib.hid c
  have h1 : (s.size : Int) ≤ 16 := by omega
  have la : (⟨(s.data.toList.take i).toArray⟩ : ByteArray).size ≤ 16 := by
    rw [← size_toList]
    have := List.length_take_le i s.data.toList
    have h16 := size_toList s
    simp at this ⊢
    omega
  have lb : (⟨(s.data.toList.drop (i + 1)).toArray⟩ : ByteArray).size ≤ 16 := by
    rw [← size_toList]
    have h16 := size_toList s
    simp
    omega
  have trans : ∀ {w1 W : World}, Below ((w.alloc (.cells C 5 (C.size, C.size + 1))).drew).heap.size ((w.alloc (.cells C 5 (C.size, C.size + 1))).drew) w1 → Below w1.heap.size w1 W → Below ((w.alloc (.cells C 5 (C.size, C.size + 1))).drew).heap.size ((w.alloc (.cells C 5 (C.size, C.size + 1))).drew) W := fun a b => a.trans (b.mono a.size)
  cases hok : (numOk (s.data.toList.take i) && numOk (s.data.toList.drop (i + 1)))
  · have hv : vsAt s.data.toList i = none := by unfold vsAt; rw [hok]; rfl
    rw [hv]
    have c2 := fun (w1 : World) (hb1 : Below ((w.alloc (.cells C 5 (C.size, C.size + 1))).drew).heap.size ((w.alloc (.cells C 5 (C.size, C.size + 1))).drew) w1) => both_bad (some ⟨w.heap.size, 0, none⟩) B i m cap cb ⟨(s.data.toList.take i).toArray⟩ ⟨(s.data.toList.drop (i + 1)).toArray⟩ w1 (fun W hW => hA W (trans hb1 hW)) (fun W hW => hBB W (trans hb1 hW)) la lb hok
    have C2 := Lib.hid c2
    clear c c2 hB hC h hA hBB hp hok hv trans la lb
    go_enter Tryd.func16, Tryd.ntmps16
    go_wp2_with fail
    refine C1.out.mono ?_
    rintro e w1 ⟨rfl, hb1⟩
    obtain ⟨hc1, hf1, hz1, hB1⟩ := bfactsD (w := w) hb1 (by go_grown)
    go_wp2_with fail
    refine (C2.out _ hb1).mono ?_
    rintro e w2 ⟨rfl, hb2⟩
    go_wp2_with fail
    go_ret3
    exact ⟨rfl, hB1.trans (hb2.mono hB1.size)⟩
  · have hk := hok
    rw [Bool.and_eq_true] at hk
    have c2 := fun (w1 : World) (hb1 : Below ((w.alloc (.cells C 5 (C.size, C.size + 1))).drew).heap.size ((w.alloc (.cells C 5 (C.size, C.size + 1))).drew) w1) => both_ok (some ⟨w.heap.size, 0, none⟩) B i m cap cb ⟨(s.data.toList.take i).toArray⟩ ⟨(s.data.toList.drop (i + 1)).toArray⟩ w1 (fun W hW => hA W (trans hb1 hW)) (fun W hW => hBB W (trans hb1 hW)) la lb hk.1 hk.2
    have hvs : vsAt s.data.toList i = if decide (valOf 0 (s.data.toList.take i) ≤ 99) && decide (valOf 0 (s.data.toList.drop (i + 1)) ≤ 99) then some (valOf 0 (s.data.toList.take i), valOf 0 (s.data.toList.drop (i + 1))) else none := by
      unfold vsAt
      rw [hok, Bool.true_and]
    have d1 := (dec_of_ok hk.1).2
    have d2 := (dec_of_ok hk.2).2
    rw [hvs]
    have e1 : (⟨(s.data.toList.take i).toArray⟩ : ByteArray).data.toList = s.data.toList.take i := rfl
    have e2 : (⟨(s.data.toList.drop (i + 1)).toArray⟩ : ByteArray).data.toList = s.data.toList.drop (i + 1) := rfl
    rw [e1, e2] at c2
    generalize valOf 0 (s.data.toList.take i) = u at c2 d1 ⊢
    generalize valOf 0 (s.data.toList.drop (i + 1)) = v at c2 d2 ⊢
    have C2 := Lib.hid c2
    clear c c2 hB hC h hA hBB hp hok hk hvs trans la lb e1 e2
    by_cases hu : u ≤ 99
    · by_cases hv : v ≤ 99
      · rw [decide_eq_true hu, decide_eq_true hv]
        show Calls _ _ _ _ (Ret w (.tuple #[.int .i64 u, .int .i64 v, .int .i64 0]))
        go_enter Tryd.func16, Tryd.ntmps16
        go_wp2_with fail
        refine C1.out.mono ?_
        rintro e w1 ⟨rfl, hb1⟩
        obtain ⟨hc1, hf1, hz1, hB1⟩ := bfactsD (w := w) hb1 (by go_grown)
        go_wp2_with fail
        refine (C2.out _ hb1).mono ?_
        rintro e w2 ⟨rfl, hb2⟩
        go_wp2_with fail
        go_ret3
        exact ⟨rfl, hB1.trans (hb2.mono hB1.size)⟩
      · rw [decide_eq_true hu, decide_eq_false hv]
        show Calls _ _ _ _ (Ret w (.tuple #[.int .i64 0, .int .i64 0, .int .i64 60]))
        go_enter Tryd.func16, Tryd.ntmps16
        go_wp2_with fail
        refine C1.out.mono ?_
        rintro e w1 ⟨rfl, hb1⟩
        obtain ⟨hc1, hf1, hz1, hB1⟩ := bfactsD (w := w) hb1 (by go_grown)
        go_wp2_with fail
        refine (C2.out _ hb1).mono ?_
        rintro e w2 ⟨rfl, hb2⟩
        go_wp2_with fail
        go_ret3
        exact ⟨rfl, hB1.trans (hb2.mono hB1.size)⟩
    · rw [decide_eq_false hu]
      show Calls _ _ _ _ (Ret w (.tuple #[.int .i64 0, .int .i64 0, .int .i64 60]))
      go_enter Tryd.func16, Tryd.ntmps16
      go_wp2_with fail
      refine C1.out.mono ?_
      rintro e w1 ⟨rfl, hb1⟩
      obtain ⟨hc1, hf1, hz1, hB1⟩ := bfactsD (w := w) hb1 (by go_grown)
      go_wp2_with fail
      refine (C2.out _ hb1).mono ?_
      rintro e w2 ⟨rfl, hb2⟩
      go_wp2_with fail
      go_ret3
      exact ⟨rfl, hB1.trans (hb2.mono hB1.size)⟩
/-- num.Version, of every text. -/
theorem num_Version (s : ByteArray) (w : World) (hs : s.size ≤ 9223372036854775807) :
    Calls Tryd.prog 16 #[.string s] w (Ret w (.tuple #[.int .i64 (vsA s.data.toList), .int .i64 (vsB s.data.toList), .int .i64 (vsE s.data.toList)])) := by
  by_cases h1 : 16 < s.size
  · obtain ⟨a, b, c⟩ := vs_no (vs_long (l := s.data.toList) (by rw [size_toList]; omega))
    rw [a, b, c]
    exact num_Version_long s w hs h1
  have hl : ¬ 16 < s.data.toList.length := by rw [size_toList]; exact h1
  cases hf : s.data.toList.findIdx? (· == 46) with
  | none =>
    have hv : vsOf s.data.toList = none := by unfold vsOf; rw [if_neg hl, hf]; rfl
    obtain ⟨a, b, c⟩ := vs_no hv
    rw [a, b, c]
    exact num_Version_none s w (by omega) (fun j hj e => by
      have := List.findIdx?_eq_none_iff.1 hf (s.data.toList[j]) (List.getElem_mem hj)
      rw [e] at this
      simp at this)
  | some i =>
    have hv : vsOf s.data.toList = vsAt s.data.toList i := by unfold vsOf; rw [if_neg hl, hf]; rfl
    obtain ⟨hi, hp, hn⟩ := List.findIdx?_eq_some_iff_getElem.1 hf
    unfold vsA vsB vsE
    rw [hv]
    exact num_Version_at s w (by omega) i hi (by simpa using hp) (fun j hj e => by
      have := hn j hj
      rw [e] at this
      simp at this)
end Go.Proofs.YtgechifpappipaaDoor
