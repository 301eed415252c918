/- chunk.Encode and the document's. -/
import Derived.Test.YthgmgmbjjjnhnaaGreatDoorFmt
import Derived.Test.YthgmgmbjjjnhnaaGreatDoorGn
namespace Go.Proofs.YthgmgmbjjjnhnaaGreatDoor
open Go.RowKit

theorem TabZ.drew {w : World} (h : TabZ w) : TabZ w.drew := h
theorem IsB.drew {B b : Nat} {bs : List Value} {w : World} (h : IsB B b bs w) : IsB B b bs w.drew := h

/-- What Encode answers. -/
def ecS (body : List UInt8) (xs : List Int) : List UInt8 := (encOf body xs).getD []
def ecE (body : List UInt8) (xs : List Int) : Int := if (encOf body xs).isSome then 0 else 2
theorem ec_none {body : List UInt8} {xs : List Int} (h : encOf body xs = none) : ecS body xs = [] ∧ ecE body xs = 2 := by simp [ecS, ecE, h]
theorem ec_some {body t : List UInt8} {xs : List Int} (h : encOf body xs = some t) : ecS body xs = t ∧ ecE body xs = 0 := by simp [ecS, ecE, h]
/-- A list of ints that lies in memory. -/
def IntsAt (b off : Nat) (xs : List Int) (w : World) : Prop := b < w.heap.size ∧ ∀ j (h : j < xs.length), w.cell? ⟨b, off + j, none⟩ = some (.int .i64 xs[j])
theorem IntsAt.ret {b off : Nat} {xs : List Int} {w w' : World} (h : IntsAt b off xs w) (hb : Below w.heap.size w w') : IntsAt b off xs w' :=
  ⟨Nat.lt_of_lt_of_le h.1 hb.size, fun j hj => ((bcell hb).1 _ _ h.1).trans (h.2 j hj)⟩
theorem encR_bad {body : List UInt8} {n : Int} {l : List Int} (h : n < 1 ∨ (body.length : Int) < n) : encR body (n :: l) = none := by
  simp only [encR]
  rw [if_pos h]
theorem encR_on {body : List UInt8} {m : Nat} {l : List Int} (h1 : 1 ≤ m) (h2 : m ≤ body.length) : encR body ((m : Int) :: l) = (encR (body.drop m) l).map fun r => hexOf 4 m ++ [13, 10] ++ body.take m ++ [13, 10] ++ r := by
  simp only [encR]
  rw [if_neg (by omega)]
  simp

theorem cut_size (hx : List UInt8) (r : ByteArray) {m : Nat} (h : m ≤ r.size) : (⟨hx.toArray⟩ ++ ⟨#[13, 10]⟩ ++ r.extract 0 m ++ ⟨#[13, 10]⟩ : ByteArray).size = hx.length + 2 + m + 2 := by
  rw [← size_toList, app_data, app_data, app_data, ext_data]
  have : (r.data.toList.take m).length = m := by rw [List.length_take, size_toList]; omega
  simp only [List.length_append, List.drop_zero, Nat.sub_zero, this]
  rfl
set_option maxHeartbeats 8000000 in
set_option maxRecDepth 100000 in
theorem ch_Encode_at (s : ByteArray) (b off cap : Nat) (xs : List Int) (hx : ∀ x ∈ xs, -9223372036854775808 ≤ x ∧ x ≤ 9223372036854775807) (hn : xs.length ≤ 1000000) (w : World) (ht : TabZ w) (hi : IntsAt b off xs w) (hs : s.size ≤ 8192) :
    Calls Tryz.prog 24 #[.string s, .slice (some ⟨b, off, none⟩) xs.length cap] w (Ret w (.tuple #[.string ⟨(ecS s.data.toList xs).toArray⟩, .int .i64 (ecE s.data.toList xs)])) := by
  have HT := Lib.hid ht
  have HI := Lib.hid hi
  have HX := Lib.hid hx
  have he : encOf s.data.toList xs = encR s.data.toList xs := by
    unfold encOf
    rw [if_neg (by rw [size_toList]; omega)]
  have HE := Lib.hid he
  have hbw := hi.1
  clear ht hi he hx
  go_enter Tryz.func24, Tryz.ntmps24
  go_wp2_with fail
  go_loopw [0, 14] (fun t i wr => ∃ (k : Nat) (r : ByteArray) (out : List UInt8), k ≤ xs.length ∧ i = .int .i64 k ∧ t = .string r ∧ r.size ≤ 8192 ∧ out.length ≤ 20 * k + 8192 - r.size ∧ IsB w.heap.size w.heap.size (Lib.byteCells out) wr ∧ encR s.data.toList xs = (encR r.data.toList (xs.drop k)).map (fun q => out ++ q) ∧ Below w.heap.size w wr ∧ w.heap.size < wr.heap.size) (fun _ i _ => xs.length - (intOf i).toNat)
  case atStart => exact ⟨0, s, [], Nat.zero_le _, rfl, rfl, hs, by simp, Lib.fresh_isBuilder _ _ _, by simp, by go_grown, by simp⟩
  case round =>
    obtain ⟨k, r, out, hk, rfl, rfl, hr, hout, hB, henc, hBw, hbs⟩ := hrel
    have HB := Lib.hid hB
    have HENC := Lib.hid henc
    have HBW := Lib.hid hBw
    clear hB henc hBw
    by_cases hlt : k < xs.length
    · have hcell := (HI.out.ret HBW.out).2 k hlt
      obtain ⟨x, hx⟩ : ∃ x, xs[k] = x := ⟨_, rfl⟩
      rw [hx] at hcell
      have hd : xs.drop k = x :: xs.drop (k + 1) := by rw [List.drop_eq_getElem_cons hlt, hx]
      have HD := Lib.hid hd
      have hxb := HX.out x (by rw [← hx]; exact List.getElem_mem hlt)
      clear hd hx
      by_cases h1 : x < 1
      · have hfin := ec_none (HE.out.trans (by rw [HENC.out, HD.out, encR_bad (.inl h1)]; rfl))
        have HF := Lib.hid hfin
        clear hfin
        go_wp2_with fail
        go_ret2
        rw [HF.out.1, HF.out.2]
        exact ⟨rfl, HBW.out⟩
      obtain ⟨m, rfl⟩ := Int.eq_ofNat_of_zero_le (by omega : 0 ≤ x)
      by_cases h2 : r.size < m
      · have hfin := ec_none (HE.out.trans (by rw [HENC.out, HD.out, encR_bad (.inr (by rw [size_toList]; omega))]; rfl))
        have HF := Lib.hid hfin
        have g1 : (1 : Int) ≤ m := by omega
        have g2 : (r.size : Int) < m := by omega
        clear hfin
        go_wp2_with fail
        go_ret2
        rw [HF.out.1, HF.out.2]
        exact ⟨rfl, HBW.out⟩
      have g1 : (1 : Int) ≤ m := by omega
      have g2 : (m : Int) ≤ r.size := by omega
      have g3 : m ≤ r.size := by omega
      have FM := fun w => fmt16 m (by omega) (by omega) w
      have hl4 := hexOf_len 4 m
      have hon := encR_on (body := r.data.toList) (l := xs.drop (k + 1)) (by omega : 1 ≤ m) (by rw [size_toList]; exact g3)
      obtain ⟨hx, ehx⟩ : ∃ l, hexOf 4 m = l := ⟨_, rfl⟩
      rw [ehx] at FM hl4 hon
      have hss := cut_size hx r g3
      have hss2 : hx.length + 2 + m + 2 ≤ 10000 := by omega
      have henc2 : encR s.data.toList xs = (encR (r.extract m r.size).data.toList (xs.drop (k + 1))).map fun q => (out ++ (hx ++ [13, 10] ++ r.data.toList.take m ++ [13, 10])) ++ q := by
        rw [HENC.out, HD.out, hon, Option.map_map, ext_tail]
        congr 1
        funext q
        simp
      have hr2 : (r.extract m r.size).size = r.size - m := by
        have := congrArg List.length (ext_data r m r.size)
        rw [size_toList, List.length_take, List.length_drop, size_toList] at this
        omega
      have hcells : Lib.byteCells out ++ Lib.strCells (⟨hx.toArray⟩ ++ ⟨#[13, 10]⟩ ++ r.extract 0 m ++ ⟨#[13, 10]⟩) = Lib.byteCells (out ++ (hx ++ [13, 10] ++ r.data.toList.take m ++ [13, 10])) := by
        rw [Lib.strCells_eq, app_data, app_data, app_data, ext_data]
        simp [Lib.byteCells]
      have hol : (out ++ (hx ++ [13, 10] ++ r.data.toList.take m ++ [13, 10])).length = out.length + (hx.length + 2 + m + 2) := by
        have : (r.data.toList.take m).length = m := by rw [List.length_take, size_toList]; omega
        simp only [List.length_append, List.length_cons, List.length_nil, this]
      have FMH := Lib.hid FM
      have HSS := Lib.hid hss
      have HENC2 := Lib.hid henc2
      have HR2 := Lib.hid hr2
      have HCL := Lib.hid hcells
      have HOL := Lib.hid hol
      clear FM ehx hon hss henc2 hr2 hcells hol
      have hlen : out.length ≤ 20000000 + 8192 := by omega
      go_wp2_with fail
      go_region_with (first
        | (go_at_call 44; refine (FMH.out wr.drew (TabZ.drew (HT.out.ret HBW.out))).mono ?_; rintro e w1 ⟨rfl, hb1⟩)
        | (go_at_call 43; refine (bl_WriteString w.heap.size w.heap.size (Lib.byteCells out) _ _ (by exact IsB.below (w := wr.drew) HB.out hb1) (by rw [Lib.byteCells_length, HSS.out]; omega) (by have := hb1.size; simp at this; omega)).mono ?_; rintro e w2 ⟨rfl, hB2, hb2⟩))
      have hB3 : IsB w.heap.size w.heap.size (Lib.byteCells (out ++ (hx ++ [13, 10] ++ r.data.toList.take m ++ [13, 10]))) w2 := .inr (HCL.out ▸ hB2)
      have hb3 : Below w.heap.size w w2 := (HBW.out.trans ((Below.drew (Below.refl _ wr)).trans (hb1.mono (by simp; omega)))).trans hb2
      have hsz2 : w.heap.size < w2.heap.size := by
        have h1 := hb1.size
        have h2 := hb2.size
        simp at h1
        omega
      have HB3 := Lib.hid hB3
      have Hb3 := Lib.hid hb3
      clear hB2 hB3 hb1 hb2 hb3
      go_wp2_with fail
      go_roundw
      case rel => exact ⟨k + 1, r.extract m r.size, out ++ (hx ++ [13, 10] ++ r.data.toList.take m ++ [13, 10]), by omega, by go_num, rfl, by rw [HR2.out]; omega, by rw [HOL.out, HR2.out]; omega, HB3.out, HENC2.out, Hb3.out, hsz2⟩
      case measure => simp [intOf]; omega
    · have hd : xs.drop k = [] := List.drop_eq_nil_of_le (by omega)
      have hBw2 : Below w.heap.size w wr := HBW.out
      by_cases h0 : r.size = 0
      · have hfin := ec_some (t := out ++ [48, 13, 10, 13, 10]) (HE.out.trans (by rw [HENC.out, hd]; simp only [encR]; rw [if_pos (List.eq_nil_of_length_eq_zero (by rw [size_toList]; exact h0))]; rfl))
        have HF := Lib.hid hfin
        clear hfin hd
        obtain rfl : r = ⟨#[]⟩ := str_ext (List.eq_nil_of_length_eq_zero (by rw [size_toList]; exact h0))
        have hlen : out.length ≤ 20000000 + 8192 := by omega
        clear hBw2 hout
        go_wp2_with fail
        refine (Tryz.Builder_String_any w.heap.size w.heap.size out wr HB.out (by omega)).mono ?_
        rintro e w2 ⟨rfl, hb2⟩
        go_wp2_with fail
        go_ret2
        rw [HF.out.1, HF.out.2]
        exact ⟨ret_2 (congrArg Value.string (str_append2 _ _)) rfl, HBW.out.trans hb2⟩
      · have hfin := ec_none (HE.out.trans (by rw [HENC.out, hd]; simp only [encR]; rw [if_neg (by intro e; have := congrArg List.length e; rw [size_toList] at this; exact h0 this)]; rfl))
        have HF := Lib.hid hfin
        have e1 := isEmpty_of_pos (s := r) (by omega)
        have e2 := ne_nil_of_pos (s := r) (by omega)
        clear hfin hd hBw2
        go_wp2_with fail
        go_ret2
        rw [HF.out.1, HF.out.2]
        exact ⟨rfl, HBW.out⟩

set_option maxHeartbeats 2000000 in
theorem ch_Encode_long (s : ByteArray) (v : Value) (xs : List Int) (w : World) (hs : 8192 < s.size) :
    Calls Tryz.prog 24 #[.string s, v] w (Ret w (.tuple #[.string ⟨(ecS s.data.toList xs).toArray⟩, .int .i64 (ecE s.data.toList xs)])) := by
  have hfin := ec_none (body := s.data.toList) (xs := xs) (by unfold encOf; rw [if_pos (by rw [size_toList]; exact hs)])
  rw [hfin.1, hfin.2]
  clear hfin
  have h1 : (8192 : Int) < s.size := by omega
  go_enter Tryz.func24, Tryz.ntmps24
  go_wp2_with fail
  go_ret2
  exact ⟨rfl, Below.refl _ _⟩
set_option maxHeartbeats 2000000 in
theorem ch_Encode_none (s : ByteArray) (a : Option Addr) (cap : Nat) (w : World) (hs : s.size ≤ 8192) :
    Calls Tryz.prog 24 #[.string s, .slice a 0 cap] w (Ret w (.tuple #[.string ⟨(ecS s.data.toList []).toArray⟩, .int .i64 (ecE s.data.toList [])])) := by
  have he : encOf s.data.toList [] = encR s.data.toList [] := by
    unfold encOf
    rw [if_neg (by rw [size_toList]; omega)]
  by_cases h0 : s.size = 0
  · obtain rfl : s = ⟨#[]⟩ := str_ext (List.eq_nil_of_length_eq_zero (by rw [size_toList]; exact h0))
    have hfin := ec_some (t := [48, 13, 10, 13, 10]) (he.trans rfl)
    rw [hfin.1, hfin.2]
    clear hfin he h0
    go_enter Tryz.func24, Tryz.ntmps24
    go_wp2_with fail
    go_loopw [0, 14] (fun t i wr => t = .string ⟨#[]⟩ ∧ i = .int .i64 0 ∧ IsB w.heap.size w.heap.size (Lib.byteCells []) wr ∧ Below w.heap.size w wr ∧ w.heap.size < wr.heap.size) (fun _ _ _ => 0)
    case atStart => exact ⟨rfl, rfl, Lib.fresh_isBuilder _ _ _, by go_grown, by simp⟩
    case round =>
      obtain ⟨rfl, rfl, hB, hBw, hlt⟩ := hrel
      have HB := Lib.hid hB
      have HBW := Lib.hid hBw
      clear hB hBw
      go_wp2_with fail
      refine (Tryz.Builder_String_any w.heap.size w.heap.size [] _ HB.out (by omega)).mono ?_
      rintro e w2 ⟨rfl, hb2⟩
      go_wp2_with fail
      go_ret2
      exact ⟨rfl, HBW.out.trans hb2⟩
  · have hfin := ec_none (he.trans (by simp only [encR]; rw [if_neg (by intro e; have := congrArg List.length e; rw [size_toList] at this; exact h0 this)]))
    rw [hfin.1, hfin.2]
    have e1 := isEmpty_of_pos (s := s) (by omega)
    have e2 := ne_nil_of_pos (s := s) (by omega)
    clear hfin he h0
    go_enter Tryz.func24, Tryz.ntmps24
    go_wp2_with fail
    go_loopw [0, 14] (fun t i wr => t = .string s ∧ i = .int .i64 0 ∧ Below w.heap.size w wr) (fun _ _ _ => 0)
    case atStart => exact ⟨rfl, rfl, by go_grown⟩
    case round =>
      obtain ⟨rfl, rfl, hBw⟩ := hrel
      have HBW := Lib.hid hBw
      clear hBw
      go_wp2_with fail
      go_ret2
      exact ⟨rfl, HBW.out⟩
/-- A value that is a list of ints. -/
def IsInts (v : Value) (xs : List Int) (w : World) : Prop := ∃ a cap, v = .slice a xs.length cap ∧ (xs = [] ∨ ∃ b off, a = some ⟨b, off, none⟩ ∧ IntsAt b off xs w)
theorem IsInts.ret {v : Value} {xs : List Int} {w w' : World} (h : IsInts v xs w) (hb : Below w.heap.size w w') : IsInts v xs w' := by
  obtain ⟨a, cap, h1, h2⟩ := h
  refine ⟨a, cap, h1, ?_⟩
  rcases h2 with h2 | ⟨b, off, h2, h3⟩
  · exact .inl h2
  · exact .inr ⟨b, off, h2, h3.ret hb⟩
theorem ch_Encode (s : ByteArray) (v : Value) (xs : List Int) (hx : ∀ x ∈ xs, -9223372036854775808 ≤ x ∧ x ≤ 9223372036854775807) (hn : xs.length ≤ 1000000) (w : World) (ht : TabZ w) (hi : IsInts v xs w) :
    Calls Tryz.prog 24 #[.string s, v] w (Ret w (.tuple #[.string ⟨(ecS s.data.toList xs).toArray⟩, .int .i64 (ecE s.data.toList xs)])) := by
  by_cases hs : 8192 < s.size
  · exact ch_Encode_long s v xs w hs
  obtain ⟨a, cap, rfl, h | ⟨b, off, rfl, h⟩⟩ := hi
  · subst h
    exact ch_Encode_none s a cap w (by omega)
  · exact ch_Encode_at s b off cap xs hx hn w ht h (by omega)
end Go.Proofs.YthgmgmbjjjnhnaaGreatDoor
