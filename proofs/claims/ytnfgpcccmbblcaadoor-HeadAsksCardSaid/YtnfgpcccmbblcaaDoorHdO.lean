/- head.Host. -/
import Derived.Test.YtnfgpcccmbblcaaDoorHdN
namespace Go.Proofs.YtnfgpcccmbblcaaDoor
open Go.RowKit

def hoL : List UInt8 := [104, 111, 115, 116]
/-- Which host a text tells. -/
def hstX (l : List UInt8) : List UInt8 × Int := if (l.contains 58 && !decide (rdE (cR 58 l) = 0)) = true ∨ tok (cA 58 l) = false then ([], 140) else (lowL (cA 58 l), 0)
def hstK (T : List UInt8 × Bool × Int) : List UInt8 × Int := if T.2.2 ≠ 0 ∨ T.2.1 = false then ([], 140) else hstX T.1
def hst (ps : List Pr) : List UInt8 × Int := hstK (oneX (fndV ps hoL))
def hstT (x : List UInt8 × Int) : Value := .tuple #[.string ⟨x.1.toArray⟩, .int .i64 x.2]
set_option maxHeartbeats 8000000 in
theorem hd_Host (v : Value) (ps : List Pr) (w : World) (hv : IsPairs v ps w) (hl : ps.length ≤ 1000) (hz : ∀ p ∈ ps, p.1.length ≤ 1000000) (hz2 : ∀ p ∈ ps, p.2.length ≤ 1000000) : Calls Tryd.prog 39 #[v] w (Ret w (hstT (hst ps))) := by
  have TH0 := hd_One v ps ⟨#[104, 111, 115, 116]⟩ w hv hl hz (by decide)
  have kT := oneX_kinds (fndV ps hoL)
  have bT : ∀ x ∈ fndV ps hoL, x.length ≤ 1000000 := fun x hx => by
    obtain ⟨p, hp, rfl⟩ := fndV_mem hx
    exact hz2 p hp
  unfold OneIs at TH0
  change Calls Tryd.prog 43 _ w (Ret w (.tuple #[.string ⟨(oneX (fndV ps hoL)).1.toArray⟩, .bool (oneX (fndV ps hoL)).2.1, .int .i64 (oneX (fndV ps hoL)).2.2])) at TH0
  unfold hst
  obtain ⟨T, hT⟩ : ∃ T, oneX (fndV ps hoL) = T := ⟨_, rfl⟩
  rw [hT] at TH0 kT ⊢
  clear hT hl hz hz2 hv
  rcases kT with rfl | ⟨X, hx, rfl⟩ | rfl
  · rw [show hstK ([], false, 0) = ([], 140) from by simp [hstK]]
    have TH := Lib.hid TH0
    clear TH0
    go_enter Tryd.func39, Tryd.ntmps39
    go_wp2_with fail
    refine (TH.out).mono ?_
    rintro e w1 ⟨rfl, hb1⟩
    go_wp2_with fail
    go_ret2
    exact ⟨rfl, hb1⟩
  · have zX : X.size ≤ 1000000 := by
      rw [← size_toList]
      exact bT _ hx
    simp only [str_mk] at TH0
    rw [show hstK (X.data.toList, true, 0) = hstX X.data.toList from by simp [hstK]]
    unfold hstX
    have C0 := fun w => st_Cut1 X 58 w zX
    have zA0 := cA_le 58 X.data.toList
    have zR0 : (cR 58 X.data.toList).length ≤ X.data.toList.length := by
      unfold cR
      rw [List.length_drop]
      exact Nat.le_trans (Nat.sub_le _ _) (List.dropWhile_sublist _).length_le
    rw [size_toList] at zA0 zR0
    obtain ⟨N, hN⟩ : ∃ Y : ByteArray, ⟨(cA 58 X.data.toList).toArray⟩ = Y := ⟨_, rfl⟩
    obtain ⟨V, hV⟩ : ∃ Y : ByteArray, ⟨(cR 58 X.data.toList).toArray⟩ = Y := ⟨_, rfl⟩
    have hNl : N.data.toList = cA 58 X.data.toList := by rw [← hN]
    have hVl : V.data.toList = cR 58 X.data.toList := by rw [← hV]
    have zN : N.size ≤ 1000000 := by rw [← size_toList, hNl]; omega
    have zV : V.size ≤ 1000000 := by rw [← size_toList, hVl]; omega
    rw [hN, hV] at C0
    rw [← hNl, ← hVl]
    obtain ⟨c, hc⟩ : ∃ b, X.data.toList.contains 58 = b := ⟨_, rfl⟩
    obtain ⟨k, hk⟩ : ∃ b, tok N.data.toList = b := ⟨_, rfl⟩
    rw [hc] at C0
    have R0 := fun w => num_Read V w (by omega)
    obtain ⟨n, hn⟩ : ∃ n, rdN V.data.toList = n := ⟨_, rfl⟩
    obtain ⟨E, hE⟩ : ∃ E, rdE V.data.toList = E := ⟨_, rfl⟩
    rw [hn, hE] at R0
    have LH0 := fun w => as_Lower N w zN
    obtain ⟨A, hA⟩ : ∃ Y : ByteArray, ⟨(lowL N.data.toList).toArray⟩ = Y := ⟨_, rfl⟩
    rw [hA] at LH0
    have KH := Lib.hid fun w => token_at N k w zN hk
    have TH := Lib.hid TH0
    have CH := Lib.hid C0
    have RH := Lib.hid R0
    have LH := Lib.hid LH0
    obtain ⟨O, hO⟩ : ∃ O, (if (c && !decide (E = 0)) = true ∨ k = false then (([], 140) : List UInt8 × Int) else (lowL N.data.toList, 0)) = O := ⟨_, rfl⟩
    rw [hc, hE, hk, hO]
    have HO := Lib.hid hO
    have HA := Lib.hid hA
    clear TH0 C0 R0 LH0 hN hV hNl hVl hc hk hn hE hA hO zA0 zR0 zX zN zV hx bT
    go_enter Tryd.func39, Tryd.ntmps39
    go_wp2_with fail
    refine (TH.out).mono ?_
    rintro e w1 ⟨rfl, hb1⟩
    go_wp2_with fail
    refine (CH.out _).mono ?_
    rintro e w2 ⟨rfl, hb2⟩
    have q2 := hb1.trans (hb2.mono hb1.size)
    clear hb1 hb2
    go_wp2_with fail
    refine (RH.out _).mono ?_
    rintro e w3 ⟨rfl, hb3⟩
    have q3 := q2.trans (hb3.mono q2.size)
    clear hb3 q2
    by_cases hbad : c = true ∧ E ≠ 0
    · obtain ⟨rfl, hE⟩ := hbad
      have g : (E != 0) = true := by simp [hE]
      have hO : O = ([], 140) := by rw [← HO.out]; simp [hE]
      subst hO
      clear hE
      go_wp2_with fail
      go_ret2
      exact ⟨rfl, q3⟩
    · have hcE : (c && !decide (E = 0)) = false := by
        cases c with
        | false => rfl
        | true =>
          have : E = 0 := Classical.byContradiction fun h => hbad ⟨rfl, h⟩
          simp [this]
      rw [hcE] at HO
      have key : c = false ∨ c = true ∧ E = 0 := by
        cases c with
        | false => exact .inl rfl
        | true => exact .inr ⟨rfl, Classical.byContradiction fun h => hbad ⟨rfl, h⟩⟩
      clear hbad hcE
      rcases key with rfl | ⟨rfl, rfl⟩
      all_goals
        go_wp2_with fail
        refine (KH.out _).mono ?_
        rintro e w4 ⟨rfl, hb4⟩
        have q4 := q3.trans (hb4.mono q3.size)
        clear hb4 q3
        cases k with
        | false =>
          have hO : O = ([], 140) := by rw [← HO.out]; simp
          subst hO
          go_wp2_with fail
          go_ret2
          exact ⟨rfl, q4⟩
        | true =>
          have hO : O = (lowL N.data.toList, 0) := by rw [← HO.out]; simp
          go_wp2_with fail
          refine (LH.out _).mono ?_
          rintro e w5 ⟨rfl, hb5⟩
          have q5 := q4.trans (hb5.mono q4.size)
          clear hb5 q4
          go_wp2_with fail
          go_ret2
          refine ⟨?_, q5⟩
          rw [hO]
          show _ = Ending.returned (.tuple #[.string ⟨(lowL N.data.toList).toArray⟩, .int .i64 0])
          rw [HA.out]
          rfl
  · rw [show hstK ([], false, 140) = ([], 140) from by simp [hstK]]
    have TH := Lib.hid TH0
    clear TH0
    go_enter Tryd.func39, Tryd.ntmps39
    go_wp2_with fail
    refine (TH.out).mono ?_
    rintro e w1 ⟨rfl, hb1⟩
    go_wp2_with fail
    go_ret2
    exact ⟨rfl, hb1⟩
end Go.Proofs.YtnfgpcccmbblcaaDoor
