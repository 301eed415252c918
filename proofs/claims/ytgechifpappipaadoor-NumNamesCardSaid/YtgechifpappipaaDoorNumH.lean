/- num.Version and the document's. -/
import Derived.Test.YtgechifpappipaaDoorNumA
import Derived.Test.YtgechifpappipaaDoorNumV
namespace Go.Proofs.YtgechifpappipaaDoor
open Go.RowKit

/-- A slice's cells are the bytes l. -/
def BytesAt (w : World) (g : Nat) (l : List UInt8) : Prop := ∀ j (h : j < l.length), w.cell? ⟨g, j, none⟩ = some (.int .u8 (l[j].toNat : Int))

set_option maxHeartbeats 2000000 in
theorem index_none (g cap : Nat) (l : List UInt8) (w : World) (hb : BytesAt w g l) (hl : l.length ≤ 16) (h : ∀ j (h : j < l.length), l[j] ≠ 46) :
    Calls Tryd.prog 25 #[.slice (some ⟨g, 0, none⟩) l.length cap, .int .u8 46] w (Ret w (.int .i64 (-1))) := by
  obtain ⟨n, hn⟩ : ∃ n, n = l.length := ⟨_, rfl⟩
  rw [← hn]
  have HB := Lib.hid hb
  have HH := Lib.hid h
  clear hb h
  have hn2 : n ≤ 16 := by omega
  have HN := Lib.hid hn
  clear hl hn
  go_enter Tryd.func25, Tryd.ntmps25
  go_wp2_with fail
  go_loop [8] (fun i => ∃ k : Nat, k ≤ n ∧ i = .int .i64 k) (fun i => n - (intOf i).toNat)
  case atStart => exact ⟨0, Nat.zero_le _, rfl⟩
  case round =>
    obtain ⟨k, hk, rfl⟩ := hrel
    by_cases hlt : k < n
    · have hkl : k < l.length := by have := HN.out; omega
      have hc := HB.out k hkl
      have hne := HH.out k hkl
      have q : ((46 : Int) == (l[k].toNat : Int)) = false := by
        apply beq_eq_false_iff_ne.2
        intro e
        apply hne
        apply UInt8.toNat_inj.1
        have h46 : (46 : UInt8).toNat = 46 := rfl
        omega
      have q2 : ¬ (46 : Int) = (l[k].toNat : Int) := by simpa using q
      generalize (l[k].toNat : Int) = z at hc q q2
      clear hne
      go_wp2
      go_round
      case rel => exact ⟨k + 1, by omega, by go_num⟩
      case measure => simp [intOf]; omega
    · go_wp2
      go_ret
      exact ⟨rfl, Below.refl _ _⟩
set_option maxHeartbeats 2000000 in
theorem index_some (g cap : Nat) (l : List UInt8) (w : World) (hb : BytesAt w g l) (hl : l.length ≤ 16) (i : Nat) (hi : i < l.length) (hp : l[i] = 46) (h : ∀ j (h : j < i), l[j] ≠ 46) :
    Calls Tryd.prog 25 #[.slice (some ⟨g, 0, none⟩) l.length cap, .int .u8 46] w (Ret w (.int .i64 i)) := by
  obtain ⟨n, hn⟩ : ∃ n, n = l.length := ⟨_, rfl⟩
  rw [← hn]
  have HB := Lib.hid hb
  have HH := Lib.hid h
  have HP := Lib.hid hp
  clear hb h hp
  have hn2 : n ≤ 16 := by omega
  have hin : i < n := by omega
  have HN := Lib.hid hn
  have HI := Lib.hid hi
  clear hl hn
  go_enter Tryd.func25, Tryd.ntmps25
  go_wp2_with fail
  go_loop [8] (fun x => ∃ k : Nat, k ≤ i ∧ x = .int .i64 k) (fun x => i - (intOf x).toNat)
  case atStart => exact ⟨0, Nat.zero_le _, rfl⟩
  case round =>
    obtain ⟨k, hk, rfl⟩ := hrel
    have hkn : (k : Int) < (n : Int) := by omega
    by_cases hlt : k < i
    · have hkl : k < l.length := by have := HI.out; omega
      have hc := HB.out k hkl
      have hne := HH.out k hlt
      have q : ((46 : Int) == (l[k].toNat : Int)) = false := by
        apply beq_eq_false_iff_ne.2
        intro e
        apply hne
        apply UInt8.toNat_inj.1
        have h46 : (46 : UInt8).toNat = 46 := rfl
        omega
      have q2 : ¬ (46 : Int) = (l[k].toNat : Int) := by simpa using q
      generalize (l[k].toNat : Int) = z at hc q q2
      clear hne
      go_wp2
      go_round
      case rel => exact ⟨k + 1, by omega, by go_num⟩
      case measure => simp [intOf]; omega
    · obtain rfl : k = i := by omega
      have hc := HB.out k HI.out
      rw [HP.out] at hc
      have hc2 : w.cell? ⟨g, k, none⟩ = some (.int .u8 46) := hc
      clear hc
      go_wp2
      go_ret
      exact ⟨rfl, Below.refl _ _⟩

set_option maxHeartbeats 2000000 in
theorem parted_none (g cap : Nat) (l : List UInt8) (w : World) (hb : BytesAt w g l) (hl : l.length ≤ 16) (h : ∀ j (h : j < l.length), l[j] ≠ 46) :
    Calls Tryd.prog 22 #[.slice (some ⟨g, 0, none⟩) l.length cap, .int .u8 46] w (Ret w (.tuple #[.slice none 0 0, .slice none 0 0, .bool false])) := by
  have c := index_none g cap l w hb hl h
  have C := Lib.hid c
  clear c hb h
  go_enter Tryd.func22, Tryd.ntmps22
  go_wp2_with fail
  refine C.out.mono ?_
  rintro e w1 ⟨rfl, hb⟩
  go_wp2_with fail
  go_ret3
  exact ⟨rfl, hb⟩
set_option maxHeartbeats 400000 in
theorem parted_some (g cap : Nat) (l : List UInt8) (w : World) (hb : BytesAt w g l) (hl : l.length ≤ 16) (hcap : l.length ≤ cap) (i : Nat) (hi : i < l.length) (hp : l[i] = 46) (h : ∀ j (h : j < i), l[j] ≠ 46) (hne : ¬ cap = i + 1) :
    Calls Tryd.prog 22 #[.slice (some ⟨g, 0, none⟩) l.length cap, .int .u8 46] w (Ret w (.tuple #[.slice (some ⟨g, 0, none⟩) i cap, .slice (some ⟨g, i + 1, none⟩) (l.length - (i + 1)) (cap - (i + 1)), .bool true])) := by
  have c := index_some g cap l w hb hl i hi hp h
  obtain ⟨n, hn⟩ : ∃ n, n = l.length := ⟨_, rfl⟩
  rw [← hn] at c ⊢
  have hin : i < n := by omega
  have hnc : n ≤ cap := by omega
  have hn2 : n ≤ 16 := by omega
  have C := Lib.hid c
  clear c hb h hp hn hl hcap
  have i1 : (i : Int) ≤ (n : Int) := by omega
  have i2 : (0 : Int) ≤ (i : Int) := by omega
  have i3 : ((i : Int) + 1) ≤ (n : Int) := by omega
  have i4 : IntKind.i64.wrap ((i : Int) + 1) = (i : Int) + 1 := by rw [IntKind.wrap_i64]; omega
  have i5 : (0 : Int) ≤ (i : Int) + 1 := by omega
  have i6 : (n : Int) ≤ (cap : Int) := by omega
  have i7 : ((i : Int) + 1).toNat = i + 1 := by omega
  have i8 : (i : Int) ≤ (cap : Int) := by omega
  have i9 : (i : Int) + 1 ≤ (cap : Int) := by omega
  go_enter Tryd.func22, Tryd.ntmps22
  go_wp2_with fail
  refine C.out.mono ?_
  rintro e w1 ⟨rfl, hb⟩
  go_wp2_with fail
  go_quiet (fail)
  go_wp2
  go_ret3
  exact ⟨rfl, below_drewN hb _⟩
set_option maxHeartbeats 400000 in
/-- .. where the slice has no room behind the point. -/
theorem parted_end (g i : Nat) (l : List UInt8) (w : World) (hb : BytesAt w g l) (hl : l.length ≤ 16) (hi : l.length = i + 1) (hp : l[i] = 46) (h : ∀ j (h : j < i), l[j] ≠ 46) :
    Calls Tryd.prog 22 #[.slice (some ⟨g, 0, none⟩) (i + 1) (i + 1), .int .u8 46] w (Ret w (.tuple #[.slice (some ⟨g, 0, none⟩) i (i + 1), .slice (some ⟨g, 0, none⟩) 0 0, .bool true])) := by
  have c := index_some g (i + 1) l w hb hl i (by omega) hp h
  rw [hi] at c
  have hn2 : i + 1 ≤ 16 := by omega
  have C := Lib.hid c
  clear c hb h hp hl
  have i2 : (0 : Int) ≤ (i : Int) := by omega
  have i4 : IntKind.i64.wrap ((i : Int) + 1) = (i : Int) + 1 := by rw [IntKind.wrap_i64]; omega
  have i5 : (0 : Int) ≤ (i : Int) + 1 := by omega
  have i7 : ((i : Int) + 1).toNat = i + 1 := by omega
  have i8 : (i : Int) ≤ (i : Int) + 1 := by omega
  have HI := Lib.hid hi
  go_enter Tryd.func22, Tryd.ntmps22
  go_wp2_with fail
  refine C.out.mono ?_
  rintro e w1 ⟨rfl, hb⟩
  go_wp2_with fail
  go_quiet (fail)
  go_wp2
  go_ret3
  exact ⟨by simp, below_drewN hb _⟩

set_option maxHeartbeats 400000 in
/-- both: two texts, read in one way (num.Read). -/
theorem both_ok (A B : Option Addr) (n m ca cb : Nat) (sa sb : ByteArray) (w : World) (hA : ∀ W, Below w.heap.size w W → (convert 41 9 (.slice A n ca)).run Tryd.prog W = .ok (.string sa) W) (hB : ∀ W, Below w.heap.size w W → (convert 41 9 (.slice B m cb)).run Tryd.prog W = .ok (.string sb) W)
    (ha : sa.size ≤ 16) (hb : sb.size ≤ 16) (h1 : numOk sa.data.toList = true) (h2 : numOk sb.data.toList = true) :
    Calls Tryd.prog 23 #[.slice A n ca, .slice B m cb, .func (.func 15) #[] #[]] w (Ret w (.tuple #[.int .i64 (valOf 0 sa.data.toList), .int .i64 (valOf 0 sb.data.toList), .int .i64 0])) := by
  have c1 := fun W => num_Read sa W (by omega)
  have c2 := fun W => num_Read sb W (by omega)
  obtain ⟨x1, x2⟩ := rd_good h1
  obtain ⟨y1, y2⟩ := rd_good h2
  rw [x1, x2] at c1
  rw [y1, y2] at c2
  generalize valOf 0 sa.data.toList = u at c1
  generalize valOf 0 sb.data.toList = v at c2
  have C1 := Lib.hid c1
  have C2 := Lib.hid c2
  have k1 := hA w (Below.refl _ _)
  have HB := Lib.hid hB
  clear c1 c2 hA hB x1 x2 y1 y2 h1 h2
  go_enter Tryd.func23, Tryd.ntmps23
  go_wp2_with fail
  refine (C1.out _).mono ?_
  rintro e w1 ⟨rfl, hb1⟩
  have k2 := HB.out w1 hb1
  go_wp2_with fail
  refine (C2.out _).mono ?_
  rintro e w2 ⟨rfl, hb2⟩
  go_wp2_with fail
  go_ret3
  exact ⟨by simp, hb1.trans (hb2.mono hb1.size)⟩
set_option maxHeartbeats 400000 in
theorem both_bad (A B : Option Addr) (n m ca cb : Nat) (sa sb : ByteArray) (w : World) (hA : ∀ W, Below w.heap.size w W → (convert 41 9 (.slice A n ca)).run Tryd.prog W = .ok (.string sa) W) (hB : ∀ W, Below w.heap.size w W → (convert 41 9 (.slice B m cb)).run Tryd.prog W = .ok (.string sb) W)
    (ha : sa.size ≤ 16) (hb : sb.size ≤ 16) (h : (numOk sa.data.toList && numOk sb.data.toList) = false) :
    Calls Tryd.prog 23 #[.slice A n ca, .slice B m cb, .func (.func 15) #[] #[]] w (Ret w (.tuple #[.int .i64 (rdN sa.data.toList), .int .i64 (rdN sb.data.toList), .int .i64 60])) := by
  have c1 := fun W => num_Read sa W (by omega)
  have c2 := fun W => num_Read sb W (by omega)
  have hx : rdE sa.data.toList = 0 ∧ rdE sb.data.toList = 60 ∨ rdE sa.data.toList = 60 ∧ rdE sb.data.toList = 0 ∨ rdE sa.data.toList = 60 ∧ rdE sb.data.toList = 60 := by
    revert h
    cases h1 : numOk sa.data.toList <;> cases h2 : numOk sb.data.toList <;> simp [rdE, h1, h2]
  generalize rdN sa.data.toList = u at c1
  generalize rdN sb.data.toList = v at c2
  have k1 := hA w (Below.refl _ _)
  have HB := Lib.hid hB
  clear hA hB h
  rcases hx with ⟨x1, x2⟩ | ⟨x1, x2⟩ | ⟨x1, x2⟩
  all_goals
    rw [x1] at c1
    rw [x2] at c2
    have C1 := Lib.hid c1
    have C2 := Lib.hid c2
    clear c1 c2 x1 x2
    go_enter Tryd.func23, Tryd.ntmps23
    go_wp2_with fail
    refine (C1.out _).mono ?_
    rintro e w1 ⟨rfl, hb1⟩
    have k2 := HB.out w1 hb1
    go_wp2_with fail
    refine (C2.out _).mono ?_
    rintro e w2 ⟨rfl, hb2⟩
    go_wp2_with fail
    go_ret3
    exact ⟨by simp, hb1.trans (hb2.mono hb1.size)⟩
end Go.Proofs.YtgechifpappipaaDoor
