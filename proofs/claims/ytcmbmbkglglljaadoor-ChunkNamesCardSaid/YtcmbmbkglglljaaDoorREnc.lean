/- The document's Encode of chunks. -/
import Derived.Test.YtcmbmbkglglljaaDoorEnc
import Derived.Deep.RegionHeld3
namespace Go.Proofs.YtcmbmbkglglljaaDoor
open Go.RowKit

/-- 'string([]byte{c})'. -/
theorem conv_one {P : Program} (w : World) (src dst e : TypeId) (c : UInt8) (v : Int) (hv : v = (c.toNat : Int)) (hs : P.underlying src = some (.slice e)) (he : P.underlying e = some (.int .u8)) (hd : P.underlying dst = some .string) :
    (convert src dst (.slice (some ⟨w.heap.size, 0, none⟩) 1 1)).run P (w.alloc (.cells #[.int .u8 v] e)) = .ok (.string ⟨#[c]⟩) (w.alloc (.cells #[.int .u8 v] e)) :=
  run_convert_bytes_back (P := P) (w.alloc (.cells #[.int .u8 v] e)) src dst e ⟨w.heap.size, 0, none⟩ 1 [c] hs he hd (fun j hj => by
    obtain rfl : j = 0 := by simp at hj; omega
    subst hv
    simp [Addr.add])
theorem hexD_lo {d : Nat} (h : d ≤ 9) : (hexD d).toNat = 48 + d := by
  unfold hexD
  rw [if_neg (by omega), UInt8.toNat_ofNat']
  exact Nat.mod_eq_of_lt (by omega)
theorem hexD_hi {d : Nat} (h : 9 < d) (h' : d < 16) : (hexD d).toNat = 87 + d := by
  unfold hexD
  rw [if_pos h, UInt8.toNat_ofNat']
  exact Nat.mod_eq_of_lt (by omega)
set_option maxHeartbeats 2000000 in
theorem r16_hex (n : Nat) (hn : n < 65536) (w : World) : Calls Tryd.prog 42 #[.int .i64 n] w (Ret w (.string ⟨(hexOf 4 n).toArray⟩)) := by
  go_enter Tryd.func42, Tryd.ntmps42
  go_wp2_with fail
  go_loopw [0, 3] (fun i s wr => ∃ (m f : Nat) (t : ByteArray), m < 16 ^ f ∧ f + t.size ≤ 4 ∧ i = .int .i64 m ∧ s = .string t ∧ hexOf 4 n = hexOf f m ++ t.data.toList ∧ Below w.heap.size w wr) (fun i _ _ => (intOf i).toNat)
  case atStart => exact ⟨n, 4, ⟨#[]⟩, by simpa using hn, Nat.le_refl _, rfl, rfl, by simp, by go_grown⟩
  case round =>
    obtain ⟨m, f, t, hm, hf, rfl, rfl, hd, hBw⟩ := hrel
    have hm4 : m < 65536 := by
      have : 16 ^ f ≤ 16 ^ 4 := Nat.pow_le_pow_right (by omega) (by omega)
      omega
    have HD := Lib.hid hd
    have HM := Lib.hid hm
    clear hd hm
    have hsz := hBw.size
    by_cases h0 : 0 < m
    · have hf0 : f ≠ 0 := by
        intro e
        have := HM.out
        rw [e] at this
        simp at this
        omega
      obtain ⟨g, rfl⟩ : ∃ g, f = g + 1 := ⟨f - 1, by omega⟩
      have hstep := hexOf_step (f := g) (m := m) (by omega)
      have hm2 : m / 16 < 16 ^ g := by have := HM.out; rw [Nat.pow_succ] at this; omega
      have HM2 := Lib.hid hm2
      clear hm2 hf0
      by_cases h9 : 9 < m % 16
      · obtain ⟨c, ec⟩ : ∃ c, hexD (m % 16) = c := ⟨_, rfl⟩
        have hc : 87 + (m : Int) % 16 = (c.toNat : Int) := by rw [← ec, hexD_hi h9 (by omega)]; omega
        have hcv := conv_one (P := Tryd.prog) wr 29 9 5 c (87 + (m : Int) % 16) hc Tryd.underlying29 Tryd.underlying5 Tryd.underlying9
        rw [ec] at hstep
        have HS := Lib.hid hstep
        have h9' : 9 < (m : Int) % 16 := by omega
        clear ec hc hstep h9
        go_wp2
        go_roundw
        case rel => exact ⟨m / 16, g, ⟨#[c]⟩ ++ t, HM2.out, by rw [ByteArray.size_append, show (⟨#[c]⟩ : ByteArray).size = 1 from rfl]; omega, by go_num, rfl, by rw [HD.out, HS.out]; simp, by go_grown⟩
        case measure => simp [intOf]; omega
      · obtain ⟨c, ec⟩ : ∃ c, hexD (m % 16) = c := ⟨_, rfl⟩
        have hc : 48 + (m : Int) % 16 = (c.toNat : Int) := by rw [← ec, hexD_lo (by omega)]; omega
        have hcv := conv_one (P := Tryd.prog) wr 29 9 5 c (48 + (m : Int) % 16) hc Tryd.underlying29 Tryd.underlying5 Tryd.underlying9
        rw [ec] at hstep
        have HS := Lib.hid hstep
        have h9' : ¬ 9 < (m : Int) % 16 := by omega
        clear ec hc hstep h9
        go_wp2
        go_roundw
        case rel => exact ⟨m / 16, g, ⟨#[c]⟩ ++ t, HM2.out, by rw [ByteArray.size_append, show (⟨#[c]⟩ : ByteArray).size = 1 from rfl]; omega, by go_num, rfl, by rw [HD.out, HS.out]; simp, by go_grown⟩
        case measure => simp [intOf]; omega
    · obtain rfl : m = 0 := by omega
      go_wp2
      go_ret
      refine ⟨?_, by go_grown⟩
      rw [HD.out, hexOf_zero]
      exact ret_s (str_mk t).symm
theorem encR_len (l : List Int) : ∀ (body t : List UInt8), encR body l = some t → l.length ≤ body.length := by
  induction l with
  | nil => intro body t _; simp
  | cons n l ih =>
    intro body t h
    simp only [encR] at h
    split at h
    · cases h
    · rename_i hn
      obtain ⟨r, hr, _⟩ := Option.map_eq_some_iff.1 h
      have := ih _ _ hr
      simp only [List.length_drop, List.length_cons] at this ⊢
      omega
theorem cut_size2 (out hx : List UInt8) (s : ByteArray) (a m : Nat) : (⟨out.toArray⟩ ++ ⟨hx.toArray⟩ ++ ⟨#[13, 10]⟩ ++ s.extract a (a + m) ++ ⟨#[13, 10]⟩ : ByteArray) = ⟨(out ++ (hx ++ [13, 10] ++ (s.data.toList.drop a).take m ++ [13, 10])).toArray⟩ := by
  apply str_ext
  rw [app_data, app_data, app_data, app_data, ext_data, show a + m - a = m by omega]
  simp
set_option maxHeartbeats 8000000 in
set_option maxRecDepth 100000 in
theorem r16_Encode_at (s : ByteArray) (b off cap : Nat) (xs : List Int) (hx : ∀ x ∈ xs, -9223372036854775808 ≤ x ∧ x ≤ 9223372036854775807) (w : World) (hi : IntsAt b off xs w) (hs : s.size ≤ 8192) (hxs : xs.length ≤ s.size) :
    Calls Tryd.prog 19 #[.string s, .slice (some ⟨b, off, none⟩) xs.length cap] w (Ret w (.tuple #[.string ⟨(ecS s.data.toList xs).toArray⟩, .int .i64 (ecE s.data.toList xs)])) := by
  have HI := Lib.hid hi
  have HX := Lib.hid hx
  have he : encOf s.data.toList xs = encR s.data.toList xs := by
    unfold encOf
    rw [if_neg (by rw [size_toList]; omega)]
  have HE := Lib.hid he
  have hbw := hi.1
  have d0 : decide ((8192 : Int) < s.size) = false := by simp; omega
  have d1 : decide (s.size < xs.length) = false := by simp; omega
  clear hi he hx
  go_enter Tryd.func19, Tryd.ntmps19
  go_wp2_with fail
  go_loopw [6, 7, 8] (fun t a i wr => ∃ (k at' : Nat) (out : List UInt8), k ≤ xs.length ∧ at' ≤ s.size ∧ i = .int .i64 k ∧ a = .int .i64 at' ∧ t = .string ⟨out.toArray⟩ ∧ out.length ≤ 20 * k + at' ∧ encR s.data.toList xs = (encR (s.data.toList.drop at') (xs.drop k)).map (fun q => out ++ q) ∧ Below w.heap.size w wr) (fun _ _ i _ => xs.length - (intOf i).toNat)
  case atStart => exact ⟨0, 0, [], Nat.zero_le _, Nat.zero_le _, rfl, rfl, rfl, by simp, by simp, by go_grown⟩
  case round =>
    obtain ⟨k, at', out, hk, hat, rfl, rfl, rfl, hout, henc, hBw⟩ := hrel
    have HENC := Lib.hid henc
    have HBW := Lib.hid hBw
    have hwz : w.heap.size ≤ wr.heap.size := hBw.size
    clear henc hBw
    by_cases hlt : k < xs.length
    · have hcell := (HI.out.ret HBW.out).2 k hlt
      have hbr : b < wr.heap.size := (HI.out.ret HBW.out).1
      obtain ⟨x, hx⟩ : ∃ x, xs[k] = x := ⟨_, rfl⟩
      rw [hx] at hcell
      have hd : xs.drop k = x :: xs.drop (k + 1) := by rw [List.drop_eq_getElem_cons hlt, hx]
      have HD := Lib.hid hd
      have hxb := HX.out x (by rw [← hx]; exact List.getElem_mem hlt)
      have e0 : IntKind.i64.wrap ((s.size : Int) - at') = (s.size : Int) - at' := IntWalk.i64_in _ (by omega)
      clear hd hx
      by_cases h1 : x < 1
      · have hfin := ec_none (HE.out.trans (by rw [HENC.out, HD.out, encR_bad (.inl h1)]; rfl))
        have HF := Lib.hid hfin
        clear hfin
        go_wp2_with fail
        go_ret2
        rw [HF.out.1, HF.out.2]
        exact ⟨rfl, HBW.out⟩
      obtain ⟨m, rfl⟩ := Int.eq_ofNat_of_zero_le (by omega : 0 ≤ x)
      have g1 : (1 : Int) ≤ m := by omega
      by_cases h2 : s.size - at' < m
      · have hfin := ec_none (HE.out.trans (by rw [HENC.out, HD.out, encR_bad (.inr (by rw [List.length_drop, size_toList]; omega))]; rfl))
        have HF := Lib.hid hfin
        have g2 : (s.size : Int) - at' < m := by omega
        clear hfin
        go_wp2_with fail
        go_ret2
        rw [HF.out.1, HF.out.2]
        exact ⟨rfl, HBW.out⟩
      have g2 : (m : Int) ≤ (s.size : Int) - at' := by omega
      have g3 : at' + m ≤ s.size := by omega
      have FM := fun w => r16_hex m (by omega) w
      have hl4 := hexOf_len 4 m
      have hon := encR_on (body := s.data.toList.drop at') (l := xs.drop (k + 1)) (by omega : 1 ≤ m) (by rw [List.length_drop, size_toList]; omega)
      obtain ⟨hx, ehx⟩ : ∃ l, hexOf 4 m = l := ⟨_, rfl⟩
      rw [ehx] at FM hl4 hon
      have hcs := cut_size2 out hx s at' m
      obtain ⟨out2, ho2⟩ : ∃ l, out ++ (hx ++ [13, 10] ++ (s.data.toList.drop at').take m ++ [13, 10]) = l := ⟨_, rfl⟩
      have henc2 : encR s.data.toList xs = (encR (s.data.toList.drop (at' + m)) (xs.drop (k + 1))).map fun q => out2 ++ q := by
        rw [HENC.out, HD.out, hon, Option.map_map, List.drop_drop, ← ho2]
        congr 1
        funext q
        simp
      have hol : out2.length = out.length + (hx.length + 2 + m + 2) := by
        have : ((s.data.toList.drop at').take m).length = m := by rw [List.length_take, List.length_drop, size_toList]; omega
        rw [← ho2]
        simp only [List.length_append, List.length_cons, List.length_nil, this]
      rw [ho2] at hcs
      have FMH := Lib.hid FM
      have HCS := Lib.hid hcs
      have HENC2 := Lib.hid henc2
      have HOL := Lib.hid hol
      clear FM ehx hon hcs henc2 hol ho2
      have hlen : out.length ≤ 200000 := by omega
      have e1 : IntKind.i64.wrap ((at' : Int) + m) = (at' : Int) + m := IntWalk.i64_in _ (by omega)
      have e2 : ((at' : Int) + m).toNat = at' + m := by omega
      have e3 : (0 : Int) ≤ (at' : Int) + m := by omega
      have f1 : (at' : Int) + m ≤ s.size := by omega
      have f2 : (at' : Int) ≤ (at' : Int) + m := by omega
      have n1 : ¬ 9223372036854775807 < out.length + hx.length := by omega
      have n2 : ¬ 9223372036854775807 < out.length + hx.length + 2 := by omega
      have n3 : ¬ 9223372036854775807 < out.length + hx.length + 2 + m := by omega
      have n4 : ¬ 9223372036854775807 < out.length + hx.length + 2 + m + 2 := by omega
      go_wp2_with fail
      go_region_held3 (fun w' => w'.cell? ⟨b, off + k, none⟩ = some (.int .i64 m)) (simp (maxDischargeDepth := 9) [go_sem, *])
        (first
          | (go_at_call 42; refine (FMH.out _).mono ?_; rintro e w2 ⟨rfl, hb2⟩; obtain ⟨hc2, hf2, hz2, hB3⟩ := bfactsD (w := w) hb2 (by exact HBW.out); (try simp only [World.size_alloc] at hz2); have zz2 : b < w2.heap.size := (by omega)))
      rw [HCS.out]
      go_wp2_with fail
      go_roundw
      case rel => exact ⟨k + 1, at' + m, out2, by omega, g3, by go_num, by go_num, rfl, by rw [HOL.out]; omega, HENC2.out, hB3⟩
      case measure => simp [intOf]; omega
    · have hd : xs.drop k = [] := List.drop_eq_nil_of_le (by omega)
      have hBw2 : Below w.heap.size w wr := HBW.out
      by_cases h0 : at' = s.size
      · have hfin := ec_some (t := out ++ [48, 13, 10, 13, 10]) (HE.out.trans (by rw [HENC.out, hd]; simp only [encR]; rw [if_pos (List.drop_eq_nil_of_le (by rw [size_toList]; omega))]; rfl))
        have HF := Lib.hid hfin
        have hne : ((at' : Int) != (s.size : Int)) = false := by rw [h0]; simp
        have n1 : ¬ 9223372036854775807 < out.length + 5 := by omega
        clear hfin hd h0
        go_wp2_with fail
        go_ret2
        rw [HF.out.1, HF.out.2]
        exact ⟨ret_2 (congrArg Value.string (str_append2 _ _)) rfl, hBw2⟩
      · have hfin := ec_none (HE.out.trans (by rw [HENC.out, hd]; simp only [encR]; rw [if_neg (by intro e; have := congrArg List.length e; rw [List.length_drop, size_toList] at this; simp at this; omega)]; rfl))
        have HF := Lib.hid hfin
        have hne : ((at' : Int) != (s.size : Int)) = true := by rw [bne_iff_ne]; omega
        clear hfin hd
        go_wp2_with fail
        go_ret2
        rw [HF.out.1, HF.out.2]
        exact ⟨rfl, hBw2⟩
set_option maxHeartbeats 2000000 in
theorem r16_Encode_long (s : ByteArray) (a : Option Addr) (n cap : Nat) (xs : List Int) (w : World) (hn : n = xs.length) (hs : s.size ≤ 9223372036854775807) (hb : 8192 < s.size ∨ s.size < n) :
    Calls Tryd.prog 19 #[.string s, .slice a n cap] w (Ret w (.tuple #[.string ⟨(ecS s.data.toList xs).toArray⟩, .int .i64 (ecE s.data.toList xs)])) := by
  have hfin := ec_none (body := s.data.toList) (xs := xs) (by
    unfold encOf
    split
    · rfl
    · rename_i h
      rw [size_toList] at h
      cases hr : encR s.data.toList xs with
      | none => rfl
      | some t =>
        have := encR_len _ _ _ hr
        rw [size_toList] at this
        omega)
  rw [hfin.1, hfin.2]
  clear hfin hn
  by_cases h1 : 8192 < s.size
  · have h2 : (8192 : Int) < s.size := by omega
    clear hb h1
    go_enter Tryd.func19, Tryd.ntmps19
    go_wp2_with fail
    go_ret2
    exact ⟨rfl, Below.refl _ _⟩
  · have h2 : ¬ (8192 : Int) < s.size := by omega
    have h3 : s.size < n := by omega
    clear hb h1
    go_enter Tryd.func19, Tryd.ntmps19
    go_wp2_with fail
    go_ret2
    exact ⟨rfl, Below.refl _ _⟩
set_option maxHeartbeats 2000000 in
theorem r16_Encode_none (s : ByteArray) (a : Option Addr) (cap : Nat) (w : World) (hs : s.size ≤ 8192) :
    Calls Tryd.prog 19 #[.string s, .slice a 0 cap] w (Ret w (.tuple #[.string ⟨(ecS s.data.toList []).toArray⟩, .int .i64 (ecE s.data.toList [])])) := by
  have he : encOf s.data.toList [] = encR s.data.toList [] := by
    unfold encOf
    rw [if_neg (by rw [size_toList]; omega)]
  by_cases h0 : s.size = 0
  · obtain rfl : s = ⟨#[]⟩ := str_ext (List.eq_nil_of_length_eq_zero (by rw [size_toList]; exact h0))
    have hfin := ec_some (t := [48, 13, 10, 13, 10]) (he.trans rfl)
    rw [hfin.1, hfin.2]
    clear hfin he h0
    go_enter Tryd.func19, Tryd.ntmps19
    go_wp2_with fail
    go_loop [6, 7, 8] (fun t a i => t = .string ⟨#[]⟩ ∧ a = .int .i64 0 ∧ i = .int .i64 0) (fun _ _ _ => 0)
    case atStart => exact ⟨rfl, rfl, rfl⟩
    case round =>
      obtain ⟨rfl, rfl, rfl⟩ := hrel
      go_wp2_with fail
      go_ret2
      exact ⟨rfl, Below.refl _ _⟩
  · have hfin := ec_none (he.trans (by simp only [encR]; rw [if_neg (by intro e; have := congrArg List.length e; rw [size_toList] at this; exact h0 this)]))
    rw [hfin.1, hfin.2]
    have hne : ((0 : Int) != (s.size : Int)) = true := by rw [bne_iff_ne]; omega
    have hne2 : ¬ s.size = 0 := h0
    clear hfin he h0
    go_enter Tryd.func19, Tryd.ntmps19
    go_wp2_with fail
    go_loop [6, 7, 8] (fun t a i => t = .string ⟨#[]⟩ ∧ a = .int .i64 0 ∧ i = .int .i64 0) (fun _ _ _ => 0)
    case atStart => exact ⟨rfl, rfl, rfl⟩
    case round =>
      obtain ⟨rfl, rfl, rfl⟩ := hrel
      go_wp2_with fail
      go_ret2
      exact ⟨rfl, Below.refl _ _⟩
theorem r16_Encode (s : ByteArray) (v : Value) (xs : List Int) (hx : ∀ x ∈ xs, -9223372036854775808 ≤ x ∧ x ≤ 9223372036854775807) (w : World) (hi : IsInts v xs w) (hs : s.size ≤ 9223372036854775807) :
    Calls Tryd.prog 19 #[.string s, v] w (Ret w (.tuple #[.string ⟨(ecS s.data.toList xs).toArray⟩, .int .i64 (ecE s.data.toList xs)])) := by
  obtain ⟨a, cap, rfl, h⟩ := hi
  by_cases hb : 8192 < s.size ∨ s.size < xs.length
  · exact r16_Encode_long s a _ cap xs w rfl hs hb
  rcases h with h | ⟨b, off, rfl, h⟩
  · subst h
    exact r16_Encode_none s a cap w (by omega)
  · exact r16_Encode_at s b off cap xs hx w h (by omega) (by omega)
end Go.Proofs.YtcmbmbkglglljaaDoor
