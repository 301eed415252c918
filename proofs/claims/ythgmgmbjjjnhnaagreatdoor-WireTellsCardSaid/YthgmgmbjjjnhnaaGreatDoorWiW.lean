/- A request that is made comes as it was made, and none of its beginnings: the plain law. -/
import Derived.Test.YthgmgmbjjjnhnaaGreatDoorWiP
namespace Go.Proofs.YthgmgmbjjjnhnaaGreatDoor
open Go.RowKit

def postL : List UInt8 := [80, 79, 83, 84, 32, 47, 104, 116, 116, 112, 45, 98, 105, 110, 100, 32, 72, 84, 84, 80, 47, 49, 46, 49]
def hostP : Pr := (hoL, [97])
def rqT (more body : List UInt8) : List UInt8 := postL ++ 13 :: 10 :: (hdL hostP ++ (more ++ 13 :: 10 :: body))
def lastL (k : Bool) : List UInt8 := if k = true then [] else hdL cclose
def teP : Pr := ([84, 114, 97, 110, 115, 102, 101, 114, 45, 69, 110, 99, 111, 100, 105, 110, 103], chk)
def oneT (b : List UInt8) (k : Bool) : List UInt8 := rqT (hdL (clen b.length) ++ lastL k) b
def twoT (p : List UInt8) (k : Bool) : List UInt8 := rqT (lastL k ++ hdL teP) p
def oneF (n : Nat) (k : Bool) : List Pr := hostP :: clen n :: (if k = true then [] else [cclose])
theorem oneT_W (b : List UInt8) (k : Bool) : oneT b k = postL ++ 13 :: 10 :: (hdW (oneF b.length k) ++ 13 :: 10 :: b) := by
  unfold oneT rqT lastL oneF
  cases k <;> simp [hdW]
theorem oneF_may (n : Nat) (k : Bool) : ∀ p ∈ oneF n k, hmay p = true := by
  intro p hp
  unfold oneF at hp
  cases k
  all_goals
    simp only [List.mem_cons, if_true, Bool.false_eq_true, if_false, List.not_mem_nil, or_false] at hp
  · rcases hp with rfl | rfl | rfl
    · decide +kernel
    · exact clen_may n
    · exact cclose_may
  · rcases hp with rfl | rfl
    · decide +kernel
    · exact clen_may n
theorem oneF_4 (n : Nat) (k : Bool) (hn : n ≤ 9007199254740991) : wiF4 (oneF n k) = (200, [97], k, 1, (n : Int)) := by
  have hr := rd_good (numOk_dec hn)
  rw [valOf_dec] at hr
  have a1 : decide (lowL clL = lowL teL) = false := by decide +kernel
  have a2 : decide (lowL hoL = lowL teL) = false := by decide +kernel
  have a3 : decide (lowL conL = lowL teL) = false := by decide +kernel
  have b2 : decide (lowL hoL = lowL clL) = false := by decide +kernel
  have b3 : decide (lowL conL = lowL clL) = false := by decide +kernel
  have c1 : decide (lowL clL = lowL conL) = false := by decide +kernel
  have c2 : decide (lowL hoL = lowL conL) = false := by decide +kernel
  have d1 : decide (lowL clL = lowL hoL) = false := by decide +kernel
  have d3 : decide (lowL conL = lowL hoL) = false := by decide +kernel
  have hT : fndV (oneF n k) teL = [] := by
    unfold oneF hostP clen
    rw [fnd_cons, fnd_cons]
    simp only [a1, a2]
    cases k
    · show fndV [(conL, cloL)] teL = []
      rw [fnd_cons]
      simp only [a3]
      rfl
    · rfl
  have hC : fndV (oneF n k) clL = [Lib.decDigits n] := by
    unfold oneF hostP clen
    rw [fnd_cons, fnd_cons]
    simp only [b2]
    cases k
    · show Lib.decDigits n :: fndV [(conL, cloL)] clL = _
      rw [fnd_cons]
      simp only [b3]
      rfl
    · rfl
  have hK : fndV (oneF n k) conL = if k = true then [] else [cloL] := by
    unfold oneF hostP clen
    rw [fnd_cons, fnd_cons]
    simp only [c1, c2]
    cases k
    · show fndV [(conL, cloL)] conL = _
      rw [fnd_cons]
      simp only [decide_true]
      rfl
    · rfl
  have hH : fndV (oneF n k) hoL = [[97]] := by
    unfold oneF hostP clen
    rw [fnd_cons, fnd_cons]
    simp only [d1]
    cases k
    · show [97] :: fndV [(conL, cloL)] hoL = _
      rw [fnd_cons]
      simp only [d3]
      rfl
    · rfl
  have e1 : kep (oneF n k) = (k, 0) := by
    unfold kep
    rw [hK]
    cases k <;> decide +kernel
  have e2 : hst (oneF n k) = ([97], 0) := by
    unfold hst
    rw [hH]
    decide +kernel
  have e3 : frm (oneF n k) = (1, (n : Int), 0) := by
    unfold frm
    rw [hT, hC]
    unfold frmK oneX
    simp [hr.1, hr.2]
  unfold wiF4
  rw [e1, e2, e3]
  simp
/-- A text's head, known: what its beginnings come to. -/
theorem wiO_at {s : List UInt8} {n k : Nat} (h : Lib.index s sep4 = (n : Int)) (hn : n + 4 ≤ 4096) (hk : n + 4 ≤ k) (_ : k ≤ s.length) : wiO (s.take k) = wiH (s.take k) (n + 4) (wiJ (s.take (n + 2))) := by
  have h1 : wiN (s.take k) = (n : Int) := by
    unfold wiN
    rw [List.take_take]
    exact ix_take h (by omega)
  unfold wiO
  rw [h1, if_neg (by omega), Int.toNat_natCast, List.take_take, Nat.min_eq_left (by omega)]
theorem wiO_short {s : List UInt8} {n k : Nat} (h : Lib.index s sep4 = (n : Int)) (hn : n + 4 ≤ 4096) (hk : k < n + 4) : wiO (s.take k) = .more := by
  have h1 : wiN (s.take k) = -1 := by
    unfold wiN
    rw [List.take_take]
    exact ix_none h (by omega)
  unfold wiO
  rw [h1, if_pos (by decide), if_neg (by rw [List.length_take]; omega)]
theorem postL_ok : (∀ c ∈ postL, c ≠ 13) ∧ wiL postL = 200 ∧ postL.length = 24 := by decide +kernel
theorem wiJ_post {r : List UInt8} : wiJ (postL ++ 13 :: 10 :: r) = wiF r := by
  have h := crA_of postL r postL_ok.1
  have h1 : cutX (postL ++ 13 :: 10 :: r) = postL := by unfold cutX; rw [h]
  have h2 : lnR (postL ++ 13 :: 10 :: r) = r := by unfold lnR; rw [h]
  unfold wiJ
  rw [h1, h2, postL_ok.2.1]
  rfl
theorem dec_len {n : Nat} (h : n ≤ 1000000) : (Lib.decDigits n).length ≤ 20 := by
  rw [Lib.decDigits_length]
  exact Lib.nDigits_le20 n (by omega)
theorem oneF_len (n : Nat) (k : Bool) (hn : n ≤ 1000000) : (hdW (oneF n k)).length ≤ 80 := by
  have := dec_len hn
  unfold oneF hostP clen
  cases k <;> simp [hdW, hdL, hoL, clL, cclose, conL, cloL] <;> omega
/-- A REQUEST OF A LENGTH. -/
theorem one_whole (b : List UInt8) (k : Bool) (hb : b.length ≤ 8192) : wiO (oneT b k) = .done [97] b k (oneT b k).length ∧ ∀ i, i < (oneT b k).length → wiO ((oneT b k).take i) = .more := by
  obtain ⟨i1, c, r, i2, i3⟩ := idx_hdW b (F := oneF b.length k) (by unfold oneF; simp) (oneF_may _ _)
  have hl := oneF_len b.length k (by omega)
  have h2 : 2 ≤ (hdW (oneF b.length k)).length := by unfold oneF; rw [hdW_cons, List.length_append]; simp [hdL, hostP]; omega
  have hi : Lib.index (oneT b k) sep4 = ((24 + (hdW (oneF b.length k)).length : Nat) : Int) := by
    rw [oneT_W]
    rw [i2] at i1 ⊢
    rw [idx_line postL_ok.1 i3 i1, postL_ok.2.2]
    congr 1
    omega
  obtain ⟨N, hN⟩ : ∃ N, 24 + (hdW (oneF b.length k)).length = N := ⟨_, rfl⟩
  rw [hN] at hi
  have hlen : (oneT b k).length = N + 4 + b.length := by
    rw [oneT_W, List.length_append, postL_ok.2.2]
    simp only [List.length_cons, List.length_append]
    omega
  have hj : wiJ ((oneT b k).take (N + 2)) = (200, [97], k, 1, (b.length : Int)) := by
    have : (oneT b k).take (N + 2) = postL ++ 13 :: 10 :: hdW (oneF b.length k) := by
      have e : oneT b k = (postL ++ 13 :: 10 :: hdW (oneF b.length k)) ++ 13 :: 10 :: b := by rw [oneT_W]; simp
      rw [e, List.take_left' (by rw [List.length_append, postL_ok.2.2]; simp only [List.length_cons]; omega)]
    rw [this, wiJ_post]
    obtain ⟨e1, e2⟩ := hdE_of (l := hdW (oneF b.length k)) (by omega) (hdA_W _ (oneF_may _ _)) (by unfold oneF; cases k <;> simp)
    unfold wiF
    rw [e1, e2, if_neg (by decide)]
    exact oneF_4 _ _ (by omega)
  have hdr : (oneT b k).drop (N + 4) = b := by
    have e : oneT b k = (postL ++ 13 :: 10 :: (hdW (oneF b.length k) ++ [13, 10])) ++ b := by rw [oneT_W]; simp
    rw [e, List.drop_left' (by rw [List.length_append, postL_ok.2.2]; simp only [List.length_cons, List.length_append, List.length_nil]; omega)]
  refine ⟨?_, fun i hik => ?_⟩
  · have := wiO_at hi (by omega) (k := (oneT b k).length) (by omega) (Nat.le_refl _)
    rw [List.take_length, hj] at this
    rw [this]
    unfold wiH
    rw [if_neg (fun h => h rfl), if_pos rfl, if_neg (by show ¬ (8192 : Int) < (b.length : Int); omega), if_neg (by show ¬ (oneT b k).length < N + 4 + ((b.length : Int)).toNat; omega), hdr, Int.toNat_natCast, List.take_length, hlen]
  · by_cases hsh : i < N + 4
    · exact wiO_short hi (by omega) hsh
    · rw [wiO_at hi (by omega) (by omega) (by omega), hj]
      unfold wiH
      rw [if_neg (fun h => h rfl), if_pos rfl, if_neg (by show ¬ (8192 : Int) < (b.length : Int); omega), if_pos (by rw [List.length_take]; show _ < N + 4 + ((b.length : Int)).toNat; omega)]
/-- The head of a request in chunks. -/
def twoH (k : Bool) : List UInt8 := postL ++ 13 :: 10 :: (hdL hostP ++ (lastL k ++ hdL teP))
theorem twoT_H (p : List UInt8) (k : Bool) : twoT p k = (twoH k ++ [13, 10]) ++ p := by unfold twoT rqT twoH; simp
theorem twoH_ok (k : Bool) : Lib.index (twoH k ++ [13, 10]) sep4 = (((twoH k).length - 2 : Nat) : Int) ∧ (twoH k).length ≤ 120 ∧ 4 ≤ (twoH k).length ∧ wiJ (twoH k) = (200, [97], k, 2, 0) := by
  cases k <;> decide +kernel
theorem two_whole {b t : List UInt8} {l : List Int} (k : Bool) (h : encOf b l = some t) (ht : t.length ≤ 12000) : wiO (twoT t k) = .done [97] b k (twoT t k).length ∧ ∀ i, i < (twoT t k).length → wiO ((twoT t k).take i) = .more := by
  obtain ⟨h1, h2, h3, h4⟩ := twoH_ok k
  obtain ⟨N, hN⟩ : ∃ N, (twoH k).length - 2 = N := ⟨_, rfl⟩
  rw [hN] at h1
  have hi : Lib.index (twoT t k) sep4 = (N : Int) := by rw [twoT_H]; exact ix_app _ h1
  have hlen : (twoT t k).length = N + 4 + t.length := by rw [twoT_H, List.length_append, List.length_append, List.length_cons, List.length_cons, List.length_nil]; omega
  have hhd : (twoT t k).take (N + 2) = twoH k := by
    rw [twoT_H, List.append_assoc, List.take_left' (by omega)]
  have hdr : (twoT t k).drop (N + 4) = t := by
    rw [twoT_H, List.drop_left' (by rw [List.length_append, List.length_cons, List.length_cons, List.length_nil]; omega)]
  refine ⟨?_, fun i hik => ?_⟩
  · have := wiO_at hi (by omega) (k := (twoT t k).length) (by omega) (Nat.le_refl _)
    rw [List.take_length, hhd, h4] at this
    rw [this]
    unfold wiH
    rw [if_neg (fun h => h rfl), if_neg (by show ¬ (2 : Int) = 1; decide), List.take_of_length_le (by omega : (twoT t k).length ≤ 16384), hdr]
    have hd := enc_dec h []
    rw [List.append_nil] at hd
    rw [hd]
    unfold wiC
    rw [if_neg (by show ¬ (0 : Int) = 4; decide), if_neg (fun h => h rfl), if_pos rfl, hlen]
  · by_cases hsh : i < N + 4
    · exact wiO_short hi (by omega) hsh
    · rw [wiO_at hi (by omega) (by omega) (by omega), hhd, h4]
      unfold wiH
      rw [if_neg (fun h => h rfl), if_neg (by show ¬ (2 : Int) = 1; decide), List.take_of_length_le (by rw [List.length_take]; omega : ((twoT t k).take i).length ≤ 16384)]
      have e : ((twoT t k).take i).drop (N + 4) = t.take (i - (N + 4)) := by rw [List.drop_take, hdr]
      rw [e, enc_begun h (by omega)]
      unfold wiC
      rw [if_neg (by decide), if_neg (by decide), if_neg (by decide), if_neg (by rw [List.length_take]; omega)]
end Go.Proofs.YthgmgmbjjjnhnaaGreatDoor
