/- slices.IndexFunc and ContainsFunc at the predicates of Token and Plain; ascii.Token, ascii.Plain. -/
import Derived.Test.YtnfgpcccmbblcaaDoorAsH
namespace Go.Proofs.YtnfgpcccmbblcaaDoor
open Go.RowKit

set_option maxHeartbeats 4000000 in
theorem idx_plain (B n cap : Nat) (l : List UInt8) (hn : l.length = n) (hn2 : n ≤ 1000000) (w : World) (hc : ∀ j (h : j < l.length), w.cell? ⟨B, j, none⟩ = some (.int .u8 l[j].toNat)) :
    Calls Tryd.prog 101 #[.slice (some ⟨B, 0, none⟩) n cap, .func (.func 91) #[] #[]] w fun e w' => ∃ m : Int, e = .returned (.int .i64 m) ∧ decide (0 ≤ m) = l.any (fun c => !plnC c) ∧ w' = w := by
  have HC := Lib.hid hc
  have HN := Lib.hid hn
  clear hc hn
  go_enter Tryd.func101, Tryd.ntmps101
  go_wp2_with fail
  go_loop [8] (fun i => ∃ k : Nat, k ≤ n ∧ i = .int .i64 k ∧ (l.take k).any (fun c => !plnC c) = false) (fun i => n - (intOf i).toNat)
  case atStart => exact ⟨0, Nat.zero_le _, rfl, rfl⟩
  case round =>
    obtain ⟨k, hk, rfl, hno⟩ := hrel
    have HNO := Lib.hid hno
    clear hno
    by_cases hlt : k < n
    · have hx : k < l.length := by have := HN.out; omega
      have hcell := HC.out k hx
      have P := fun w => as_plainP l[k] w
      obtain ⟨c, hcc⟩ : ∃ c, l[k] = c := ⟨_, rfl⟩
      rw [hcc] at hcell
      simp only [hcc] at P
      have hsn : (l.take (k + 1)).any (fun c => !plnC c) = !plnC c := by
        rw [List.take_succ_eq_append_getElem hx, List.any_append, HNO.out, hcc]
        simp
      cases hp : plnC c with
      | true =>
        rw [hp] at hsn
        simp only [hp] at P
        have PH := Lib.hid P
        have HS := Lib.hid hsn
        clear P hsn hp hcc
        go_wp2_with fail
        refine (PH.out _).mono ?_
        rintro e w1 ⟨rfl, rfl⟩
        go_wp2_with fail
        go_round
        case rel => exact ⟨k + 1, by omega, by go_num, HS.out⟩
        case measure => simp [intOf]; omega
      | false =>
        simp only [hp] at P
        have PH := Lib.hid P
        have hany : l.any (fun c => !plnC c) = true := by
          rw [List.any_eq_true]
          exact ⟨c, by rw [← hcc]; exact List.getElem_mem hx, by simp [hp]⟩
        have HA := Lib.hid hany
        clear P hsn hp hcc hany
        go_wp2_with fail
        refine (PH.out _).mono ?_
        rintro e w1 ⟨rfl, rfl⟩
        go_wp2_with fail
        go_ret
        exact ⟨(k : Int), rfl, by rw [HA.out]; simp, rfl⟩
    · have hno := HNO.out
      rw [List.take_of_length_le (by have := HN.out; omega)] at hno
      have HNO2 := Lib.hid hno
      clear hno
      go_wp2_with fail
      go_ret
      exact ⟨-1, rfl, by rw [HNO2.out]; rfl, rfl⟩
theorem has_plain (B n cap : Nat) (l : List UInt8) (hn : l.length = n) (hn2 : n ≤ 1000000) (w : World) (hc : ∀ j (h : j < l.length), w.cell? ⟨B, j, none⟩ = some (.int .u8 l[j].toNat)) :
    Calls Tryd.prog 70 #[.slice (some ⟨B, 0, none⟩) n cap, .func (.func 91) #[] #[]] w fun e w' => e = .returned (.bool (l.any (fun c => !plnC c))) ∧ w' = w := by
  have C := Lib.hid (idx_plain B n cap l hn hn2 w hc)
  obtain ⟨p, hp⟩ : ∃ p, l.any (fun c => !plnC c) = p := ⟨_, rfl⟩
  rw [hp] at C ⊢
  clear hc hn hp
  go_enter Tryd.func70, Tryd.ntmps70
  go_wp2_with fail
  refine (C.out).mono ?_
  rintro e w1 ⟨m, rfl, hm, rfl⟩
  cases p with
  | true =>
    have g : (0 : Int) ≤ m := of_decide_eq_true hm
    clear hm
    go_wp2_with fail
    go_ret
    exact ⟨ret_b (by first | rfl | simp [g]), rfl⟩
  | false =>
    have g : ¬ (0 : Int) ≤ m := of_decide_eq_false hm
    clear hm
    go_wp2_with fail
    go_ret
    exact ⟨ret_b (by first | rfl | simp [g]), rfl⟩

set_option maxHeartbeats 4000000 in
theorem idx_token (B n cap K : Nat) (l : List UInt8) (hn : l.length = n) (hn2 : n ≤ 1000000) (w : World) (hc : ∀ j (h : j < l.length), w.cell? ⟨B, j, none⟩ = some (.int .u8 l[j].toNat)) (hA : ∀ c : UInt8, c.toNat < 128 → w.cell? ⟨K, c.toNat, none⟩ = some (.bool (tokC c))) :
    Calls Tryd.prog 101 #[.slice (some ⟨B, 0, none⟩) n cap, .func (.func 71) #[] #[.pointer (some ⟨K, 0, none⟩)]] w fun e w' => ∃ m : Int, e = .returned (.int .i64 m) ∧ decide (0 ≤ m) = l.any (fun c => !tokC c) ∧ w' = w := by
  have HC := Lib.hid hc
  have HN := Lib.hid hn
  have HAH := Lib.hid hA
  clear hc hn hA
  go_enter Tryd.func101, Tryd.ntmps101
  go_wp2_with fail
  go_loop [8] (fun i => ∃ k : Nat, k ≤ n ∧ i = .int .i64 k ∧ (l.take k).any (fun c => !tokC c) = false) (fun i => n - (intOf i).toNat)
  case atStart => exact ⟨0, Nat.zero_le _, rfl, rfl⟩
  case round =>
    obtain ⟨k, hk, rfl, hno⟩ := hrel
    have HNO := Lib.hid hno
    clear hno
    by_cases hlt : k < n
    · have hx : k < l.length := by have := HN.out; omega
      have hcell := HC.out k hx
      have P := fun w => fun (hw : l[k].toNat < 128 → w.cell? ⟨K, l[k].toNat, none⟩ = some (.bool (tokC l[k]))) => as_tokenP l[k] K w hw
      obtain ⟨c, hcc⟩ : ∃ c, l[k] = c := ⟨_, rfl⟩
      rw [hcc] at hcell
      simp only [hcc] at P
      have hsn : (l.take (k + 1)).any (fun c => !tokC c) = !tokC c := by
        rw [List.take_succ_eq_append_getElem hx, List.any_append, HNO.out, hcc]
        simp
      cases hp : tokC c with
      | true =>
        rw [hp] at hsn
        simp only [hp] at P
        have PH := Lib.hid P
        have HPP := Lib.hid hp
        have HS := Lib.hid hsn
        clear P hsn hp hcc
        go_wp2_with fail
        refine (PH.out _ (fun h => by rw [← HPP.out]; exact HAH.out c h)).mono ?_
        rintro e w1 ⟨rfl, rfl⟩
        go_wp2_with fail
        go_round
        case rel => exact ⟨k + 1, by omega, by go_num, HS.out⟩
        case measure => simp [intOf]; omega
      | false =>
        simp only [hp] at P
        have PH := Lib.hid P
        have HPP := Lib.hid hp
        have hany : l.any (fun c => !tokC c) = true := by
          rw [List.any_eq_true]
          exact ⟨c, by rw [← hcc]; exact List.getElem_mem hx, by simp [hp]⟩
        have HA := Lib.hid hany
        clear P hsn hp hcc hany
        go_wp2_with fail
        refine (PH.out _ (fun h => by rw [← HPP.out]; exact HAH.out c h)).mono ?_
        rintro e w1 ⟨rfl, rfl⟩
        go_wp2_with fail
        go_ret
        exact ⟨(k : Int), rfl, by rw [HA.out]; simp, rfl⟩
    · have hno := HNO.out
      rw [List.take_of_length_le (by have := HN.out; omega)] at hno
      have HNO2 := Lib.hid hno
      clear hno
      go_wp2_with fail
      go_ret
      exact ⟨-1, rfl, by rw [HNO2.out]; rfl, rfl⟩
theorem has_token (B n cap K : Nat) (l : List UInt8) (hn : l.length = n) (hn2 : n ≤ 1000000) (w : World) (hc : ∀ j (h : j < l.length), w.cell? ⟨B, j, none⟩ = some (.int .u8 l[j].toNat)) (hA : ∀ c : UInt8, c.toNat < 128 → w.cell? ⟨K, c.toNat, none⟩ = some (.bool (tokC c))) :
    Calls Tryd.prog 70 #[.slice (some ⟨B, 0, none⟩) n cap, .func (.func 71) #[] #[.pointer (some ⟨K, 0, none⟩)]] w fun e w' => e = .returned (.bool (l.any (fun c => !tokC c))) ∧ w' = w := by
  have C := Lib.hid (idx_token B n cap K l hn hn2 w hc hA)
  obtain ⟨p, hp⟩ : ∃ p, l.any (fun c => !tokC c) = p := ⟨_, rfl⟩
  rw [hp] at C ⊢
  clear hc hn hp hA
  go_enter Tryd.func70, Tryd.ntmps70
  go_wp2_with fail
  refine (C.out).mono ?_
  rintro e w1 ⟨m, rfl, hm, rfl⟩
  cases p with
  | true =>
    have g : (0 : Int) ≤ m := of_decide_eq_true hm
    clear hm
    go_wp2_with fail
    go_ret
    exact ⟨ret_b (by first | rfl | simp [g]), rfl⟩
  | false =>
    have g : ¬ (0 : Int) ≤ m := of_decide_eq_false hm
    clear hm
    go_wp2_with fail
    go_ret
    exact ⟨ret_b (by first | rfl | simp [g]), rfl⟩

theorem any_all_not (l : List UInt8) (p : UInt8 → Bool) : (!l.any fun c => !p c) = l.all p := by
  induction l with
  | nil => rfl
  | cons c l ih => rw [List.any_cons, List.all_cons, Bool.not_or, Bool.not_not, ih]
set_option maxHeartbeats 2000000 in
theorem as_Plain (s : ByteArray) (w : World) (hs : s.size ≤ 1000000) : Calls Tryd.prog 51 #[.string s] w (Ret w (.bool (pln s.data.toList))) := by
  obtain ⟨cap, C, hC, hCs, hcv⟩ := str_bytes (P := Tryd.prog) w 9 50 5 s Tryd.underlying9 Tryd.underlying50 Tryd.underlying5
  have H := Lib.hid (has_plain w.heap.size s.size cap s.data.toList (size_toList s) hs ((w.alloc (.cells C 5 (C.size, C.size + 1))).drew) (fun j h => by
    rw [size_toList] at h
    exact (World.cell?_alloc_mark w C _ _ j).trans (hC j h)))
  have hq : (!s.data.toList.any fun c => !plnC c) = pln s.data.toList := by unfold pln; exact any_all_not _ _
  obtain ⟨p, hp⟩ : ∃ p, (s.data.toList.any fun c => !plnC c) = p := ⟨_, rfl⟩
  rw [hp] at H hq
  have HQ := Lib.hid hq
  clear hC hp hq
  go_enter Tryd.func51, Tryd.ntmps51
  go_wp2_with fail
  refine (H.out).mono ?_
  rintro e w1 ⟨rfl, rfl⟩
  go_wp2_with fail
  go_ret
  rw [← HQ.out]
  exact ⟨rfl, by go_grown⟩
set_option maxHeartbeats 4000000 in
set_option maxRecDepth 100000 in
theorem as_Token (s : ByteArray) (w : World) (hs : s.size ≤ 1000000) : Calls Tryd.prog 27 #[.string s] w (Ret w (.bool (tok s.data.toList))) := by
  have K := Lib.hid (as_kinds w)
  have hDs := kndA_size kindS.data.toList
  have hDo := kndA_one kindS.data.toList
  have hDa : ∀ c : UInt8, c.toNat < 128 → (kndA kindS.data.toList)[c.toNat]? = some (.bool (tokC c)) := fun c h => by rw [kndA_at _ c h, kindS_tok]
  obtain ⟨D, hD⟩ : ∃ D, kndA kindS.data.toList = D := ⟨_, rfl⟩
  rw [hD] at K hDs hDo hDa
  have hinfo : (Tryd.prog.info? 102).map (·.size) = some D.size := by rw [hDs]; exact knd_info
  have hz : (Tryd.zeroCells102).size = D.size := by rw [hDs, knd_zero, kndA_size]
  have HDA := Lib.hid hDa
  have HI := Lib.hid hinfo
  have HO := Lib.hid hDo
  have HZ := Lib.hid hz
  clear hD hDs hDo hDa hinfo hz
  by_cases h0 : s.size = 0
  · obtain rfl : s = ⟨#[]⟩ := str_ext (List.eq_nil_of_length_eq_zero (by rw [size_toList]; exact h0))
    go_enter Tryd.func27, Tryd.ntmps27
    go_wp2_with fail
    refine (K.out).mono ?_
    rintro e w1 ⟨rfl, hb1⟩
    have hrow := World.setRow_alloc_new w1 Tryd.zeroCells102 D 102
    have hs1 := hb1.size
    go_wp2_with (with_reducible refine wpList_store_row rfl _ (.tmp 3) (.tmp 4) rfl w1.heap.size D rfl rfl _ _ (heap_alloc_new w1 _) HI.out HZ.out HO.out ?_)
    go_ret
    exact ⟨rfl, hb1.alloc hs1 _⟩
  have e1 := isEmpty_of_pos (s := s) (by omega)
  have e2 := ne_nil_of_pos (s := s) (by omega)
  have hq : (!s.data.toList.any fun c => !tokC c) = tok s.data.toList := by
    unfold tok
    rw [any_all_not]
    rw [Lib.toList_data] at e1
    rw [e1]
    rfl
  obtain ⟨p, hp⟩ : ∃ p, (s.data.toList.any fun c => !tokC c) = p := ⟨_, rfl⟩
  rw [hp] at hq
  have HQ := Lib.hid hq
  have HP := Lib.hid hp
  clear hq hp h0
  go_enter Tryd.func27, Tryd.ntmps27
  go_wp2_with fail
  refine (K.out).mono ?_
  rintro e w1 ⟨rfl, hb1⟩
  have hrow := World.setRow_alloc_new w1 Tryd.zeroCells102 D 102
  have hs1 := hb1.size
  obtain ⟨cap, C, hC, hCs, hcv⟩ := str_bytes (P := Tryd.prog) (w1.alloc (.cells D 102)) 9 50 5 s Tryd.underlying9 Tryd.underlying50 Tryd.underlying5
  have H0 := has_token (w1.heap.size + 1) s.size cap w1.heap.size s.data.toList (size_toList s) hs (((w1.alloc (.cells D 102)).alloc (.cells C 5 (C.size, C.size + 1))).drew) (fun j h => by
    rw [size_toList] at h
    have hz1 : (w1.alloc (.cells D 102)).heap.size = w1.heap.size + 1 := by simp
    rw [← hz1]
    exact (World.cell?_alloc_mark (w1.alloc (.cells D 102)) C 5 (C.size, C.size + 1) j).trans (hC j h)) (fun c h => by
    rw [World.cell?_drew, World.cell?_alloc_lt _ _ _ (by simp), World.cell?_alloc_new]
    exact HDA.out c h)
  rw [HP.out] at H0
  have H := Lib.hid H0
  have hcv2 : (convert 9 50 (.string s)).run Tryd.prog (w1.alloc (.cells D 102)) = .ok (.slice (some ⟨w1.heap.size + 1, 0, none⟩) s.size cap) (((w1.alloc (.cells D 102)).alloc (.cells C 5 (C.size, C.size + 1))).drew) := by simpa using hcv
  clear H0 hC hcv
  go_wp2_with (with_reducible refine wpList_store_row rfl _ (.tmp 3) (.tmp 4) rfl w1.heap.size D rfl rfl _ _ (heap_alloc_new w1 _) HI.out HZ.out HO.out ?_)
  refine (H.out).mono ?_
  rintro e w2 ⟨rfl, rfl⟩
  go_wp2_with fail
  go_ret
  rw [← HQ.out]
  exact ⟨rfl, (((hb1.alloc hs1 _).alloc (by simp; omega) _).drew)⟩
end Go.Proofs.YtnfgpcccmbblcaaDoor
