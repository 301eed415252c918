/- HaN, HaN2: put together by mergetpl.py. -/
import Derived.Test.YtjgeiieiinmdnaaGreatDoorLg
import Derived.Test.YtjgeiieiinmdnaaGreatDoorLh
import Derived.Test.YtjgeiieiinmdnaaGreatDoorLi
namespace Go.Proofs.YtjgeiieiinmdnaaGreatDoor
open Go.RowKit Go.Lib

theorem pigeon {f : Nat → List UInt8} (inj : ∀ i j, f i = f j → i = j) : ∀ (k : Nat) (L : List (List UInt8)), (∀ i < k, f i ∈ L) → k ≤ L.length
 | 0, _, _ => Nat.zero_le _
 | k + 1, L, h => by
  have hk := h k (Nat.lt_succ_self k)
  have := pigeon inj k (L.erase (f k)) fun i hi => (List.mem_erase_of_ne (fun e => by have := inj _ _ e; omega)).2 (h i (by omega))
  rw [List.length_erase_of_mem hk] at this
  have := List.length_pos_of_mem hk
  omega
/-- the name of a number. -/
def nmR (t : List UInt8) (n : Nat) : List UInt8 := t ++ 47 :: 114 :: Lib.decDigits n
theorem nmR_inj {t : List UInt8} {i j : Nat} (h : nmR t i = nmR t j) : i = j := by
 unfold nmR at h
 have := List.append_cancel_left h
 simp only [List.cons.injEq, true_and] at this
 exact dec_inj this
/-- the first number from n on of whose name none is bound. -/
def madeN (R : List Re) (t : List UInt8) : Nat → Nat → Nat
 | 0, n => n
 | f + 1, n => if (fiG reN R (nmR t n)).isSome then madeN R t f (n + 1) else n
theorem madeN_at {R : List Re} {t : List UInt8} : ∀ (f n k : Nat), k ≤ f → (∀ i < k, (fiG reN R (nmR t (n + i))).isSome = true) → (fiG reN R (nmR t (n + k))).isSome = false → madeN R t (f + 1) n = n + k
 | f, n, 0, _, _, h => by
  unfold madeN
  rw [Nat.add_zero] at h
  rw [h]
  rfl
 | 0, n, k + 1, hk, _, _ => by omega
 | f + 1, n, k + 1, hk, h1, h2 => by
  have h0 := h1 0 (by omega)
  rw [Nat.add_zero] at h0
  unfold madeN
  rw [h0]
  simp only [if_true]
  have e := madeN_at f (n + 1) k (by omega) (fun i hi => by have := h1 (i + 1) (by omega); rwa [show n + 1 + i = n + (i + 1) by omega]) (by rwa [show n + 1 + k = n + (k + 1) by omega])
  rw [e]
  omega
theorem made_most {R : List Re} {t : List UInt8} {n k : Nat} (h : ∀ i < k, (fiG reN R (nmR t (n + i))).isSome = true) : k ≤ R.length := by
 have := pigeon (f := fun i => nmR t (n + i)) (fun i j e => by have := nmR_inj e; omega) k (R.map reN) fun i hi => by
  have hs := h i hi
  obtain ⟨x, hx⟩ := Option.isSome_iff_exists.1 hs
  obtain ⟨h1, h2⟩ := find_someG hx
  rw [← h2]
  exact List.mem_map_of_mem h1
 rwa [List.length_map] at this
theorem madeN_le (R : List Re) (t : List UInt8) : ∀ (f n : Nat), n ≤ madeN R t f n ∧ madeN R t f n ≤ n + f
 | 0, n => ⟨Nat.le_refl _, Nat.le_refl _⟩
 | f + 1, n => by
  unfold madeN
  split
  ·have := madeN_le R t f (n + 1)
   omega
  ·omega
theorem idx_fi {R : List RsI} {t : List UInt8} : decide (0 ≤ idxG (fun x : RsI => x.j == t) R) = (fiG reN (R.map RsI.d) t).isSome := by
 rw [idxG_any, find_map, Option.isSome_map]
 rw [Bool.eq_iff_iff, List.any_eq_true, Option.isSome_iff_exists]
 constructor
 ·rintro ⟨x, hx, hq⟩
  cases h : R.find? fun x => reN (RsI.d x) == t with
  | some y => exact ⟨y, rfl⟩
  | none => exact absurd hq (by have := List.find?_eq_none.1 h x hx; exact this)
 ·rintro ⟨y, hy⟩
  exact ⟨y, List.mem_of_find?_eq_some hy, List.find?_some (p := fun x : RsI => reN x.d == t) hy⟩
theorem nmR_bytes (T : ByteArray) (n : Nat) : (⟨(nmR T.data.toList n).toArray⟩ : ByteArray) = T ++ ⟨#[47, 114]⟩ ++ ⟨(Lib.decDigits n).toArray⟩ := by
 unfold nmR
 have e : T = ⟨T.data.toList.toArray⟩ := by simp
 conv => rhs; rw [e, show (⟨#[47, 114]⟩ : ByteArray) = ⟨([47, 114] : List UInt8).toArray⟩ from rfl, str_append2, str_append2]
 rw [List.append_assoc]
 rfl
theorem dec_len19 : ∀ (k n : Nat), n < 10 ^ (k + 1) → (Lib.decDigits n).length ≤ k + 1
 | 0, n, h => by rw [Lib.decDigits_one (by omega)]; simp
 | k + 1, n, h => by
  by_cases h1 : n < 10
  ·rw [Lib.decDigits_one h1]; simp
  ·rw [decDigits_big h1, List.length_append]
   have := dec_len19 k (n / 10) (by have : (10 : Nat) ^ (k + 1 + 1) = 10 ^ (k + 1) * 10 := Nat.pow_succ ..; omega)
   simp only [List.length_cons, List.length_nil]
   omega
theorem len_dec19 {n : Nat} (h : n ≤ 9223372036854775807) : (Lib.decDigits n).length ≤ 20 := dec_len19 19 n (Nat.lt_of_le_of_lt h (by decide))
set_option maxHeartbeats 8000000 in
set_option maxRecDepth 100000 in
theorem ha_made (c : CoI) (T : ByteArray) (n : Nat) (w : World) (hs : IsL rsY c.rv c.R w) (hz : c.R.length ≤ 1000) (hT : T.size ≤ 10000) (hn : n ≤ 9007199254740992) (ht : Tab w) : Calls Tryz.prog 92 #[c.v, .string T, .int .i64 n] w (Ret w (.int .i64 (madeN (c.R.map RsI.d) T.data.toList (c.R.length + 1) n))) := by
 obtain ⟨A, ⟨aa, ac⟩, R, ⟨ra, rc⟩, m⟩ := c
 simp only at hz
 have hs : IsL rsY (.slice ra R.length rc) R w := hs
 show Calls Tryz.prog 92 #[.agg #[.slice aa A.length ac, .slice ra R.length rc, .int .i64 m], .string T, .int .i64 n] w (Ret w (.int .i64 (madeN (R.map RsI.d) T.data.toList (R.length + 1) n)))
 obtain ⟨LA, hLA⟩ : ∃ LA, A.length = LA := ⟨_, rfl⟩
 obtain ⟨LR, hLR⟩ : ∃ LR, R.length = LR := ⟨_, rfl⟩
 obtain ⟨O, hO⟩ : ∃ O, madeN (R.map RsI.d) T.data.toList (R.length + 1) n = O := ⟨_, rfl⟩
 rw [hO]
 rw [hLA, hLR]
 have hs2 : IsL rsY (.slice ra LR rc) R w := by rw [← hLR]; exact hs
 have hO2 := hO
 rw [hLR] at hO2
 have FI := Lib.hid fun (W : World) (hb : Below w.heap.size w W) (k : Nat) => show Calls Tryz.prog 54 #[.agg #[.slice ra LR rc, nm_rs], .string (T ++ ⟨#[47, 114]⟩ ++ ⟨(Lib.decDigits k).toArray⟩)] W (Ret W (.int .i64 (idxG (fun x : RsI => x.j == nmR T.data.toList k) R))) by
  rw [← nmR_bytes]
  exact ha_find_rs ra LR rc R (nmR T.data.toList k) W (hs2.ret hb) (by omega)
 have HO := Lib.hid hO2
 have HL := Lib.hid hLR
 have HT := Lib.hid ht
 have g1 : ¬ 9223372036854775807 < T.size + 2 := by omega
 clear hs hs2 hLA hO hO2 ht
 obtain ⟨W0, hW, y0, bs⟩ := Sx.start1 w [.slice aa LA ac, .slice ra LR rc, .int .i64 m] 25
 have HW := Lib.hid hW
 clear hW
 have q := bs.q
 go_enter Tryz.func92, Tryz.ntmps92
 go_wp2_with fail
 rw [HW.out]
 go_loopw [2] (fun i wx => ∃ (k : Nat), i = .int .i64 ((n + k : Nat) : Int) ∧ (∀ i < k, (fiG reN (R.map RsI.d) (nmR T.data.toList (n + i))).isSome = true) ∧ Sx w [(w.heap.size, [.slice aa LA ac, .slice ra LR rc, .int .i64 m])] wx) (fun i _ => n + LR + 1 - (intOf i).toNat)
 case atStart => exact ⟨0, rfl, (fun i hi => by omega), bs⟩
 case round =>
  clear bs q
  obtain ⟨k, rfl, hall, bs⟩ := hrel
  have q := bs.q
  have hkm := made_most hall
  rw [List.length_map, HL.out] at hkm
  have hnk : n + k ≤ 9223372036854775807 := by omega
  have ID := idx_fi (R := R) (t := nmR T.data.toList (n + k))
  have CI := Lib.hid fun (W : World) (hb : Below w.heap.size w W) => Itoa_c (n + k) hnk W (HT.out.ret hb)
  have FK := FI.out
  obtain ⟨D, hD⟩ : ∃ D : ByteArray, ByteArray.mk (Lib.decDigits (n + k)).toArray = D := ⟨_, rfl⟩
  have CI2 := CI.out
  rw [hD] at CI2
  have FK := fun W hb => FI.out W hb (n + k)
  rw [hD] at FK
  have hDs : D.size ≤ 100 := by rw [← hD, ← size_toList]; have := len_dec19 hnk; show (Lib.decDigits (n + k)).length ≤ 100; omega
  have g2 : ¬ 9223372036854775807 < T.size + 2 + D.size := by omega
  have hwr : IntKind.i64.wrap (((n + k : Nat) : Int) + 1) = ((n + (k + 1) : Nat) : Int) := by rw [IntWalk.i64_in _ (by omega)]; omega
  obtain ⟨I, hI⟩ : ∃ I, idxG (fun x : RsI => x.j == nmR T.data.toList (n + k)) R = I := ⟨_, rfl⟩
  rw [hI] at FK ID
  have CI := Lib.hid CI2
  have FK := Lib.hid FK
  have HA := Lib.hid hall
  clear CI2 hall hD hI hDs
  obtain ⟨NK, hNK⟩ : ∃ NK : Int, ((n + k : Nat) : Int) = NK := ⟨_, rfl⟩
  rw [hNK] at CI hwr ⊢
  have HNK := Lib.hid hNK
  cases hb0 : (fiG reN (R.map RsI.d) (nmR T.data.toList (n + k))).isSome with
  | true =>
   rw [hb0] at ID
   have hI0 : 0 ≤ I := of_decide_eq_true ID
   have HB0 := Lib.hid hb0
   clear ID hb0
   clear hNK
   have c_c0 := bs.at 0 0 rfl rfl
   have c_c1 := bs.at 0 1 rfl rfl
   have c_c2 := bs.at 0 2 rfl rfl
   go_wp2_with fail
   refine (ha_bound aa ra LA ac LR rc m wr).mono ?_
   rintro e w31 ⟨rfl, hb⟩
   clear c_c0 c_c1 c_c2
   replace bs := bs.ret hb
   replace q := bs.q
   clear hb
   have c_c0 := bs.at 0 0 rfl rfl
   have c_c1 := bs.at 0 1 rfl rfl
   have c_c2 := bs.at 0 2 rfl rfl
   go_wp2_with fail
   refine (CI.out w31 q).mono ?_
   rintro e w32 ⟨rfl, hb⟩
   clear c_c0 c_c1 c_c2
   replace bs := bs.ret hb
   replace q := bs.q
   clear hb
   have c_c0 := bs.at 0 0 rfl rfl
   have c_c1 := bs.at 0 1 rfl rfl
   have c_c2 := bs.at 0 2 rfl rfl
   go_wp2_with fail
   refine (FK.out w32 q).mono ?_
   rintro e w33 ⟨rfl, hb⟩
   clear c_c0 c_c1 c_c2
   replace bs := bs.ret hb
   replace q := bs.q
   clear hb
   go_wp2_with fail
   go_roundw
   case rel => exact ⟨k + 1, by first | rfl | rw [hwr], fun i hi => (by
    rcases Nat.lt_or_ge i k with h1 | h1
    ·exact HA.out i h1
    ·rw [show i = k by omega]; exact HB0.out), bs⟩
   case measure =>
    have hm1 := made_most (k := k + 1) (fun i hi => by
     rcases Nat.lt_or_ge i k with h1 | h1
     ·exact HA.out i h1
     ·rw [show i = k by omega]; exact HB0.out)
    rw [List.length_map, HL.out] at hm1
    have hnk2 := HNK.out
    simp [intOf]
    omega
  | false =>
   rw [hb0] at ID
   have hI0 : ¬ 0 ≤ I := of_decide_eq_false ID
   have hfin := madeN_at LR n k (by omega) HA.out hb0
   rw [HO.out] at hfin
   subst hfin
   clear ID hb0
   clear hNK
   have c_c0 := bs.at 0 0 rfl rfl
   have c_c1 := bs.at 0 1 rfl rfl
   have c_c2 := bs.at 0 2 rfl rfl
   go_wp2_with fail
   refine (ha_bound aa ra LA ac LR rc m wr).mono ?_
   rintro e w31 ⟨rfl, hb⟩
   clear c_c0 c_c1 c_c2
   replace bs := bs.ret hb
   replace q := bs.q
   clear hb
   have c_c0 := bs.at 0 0 rfl rfl
   have c_c1 := bs.at 0 1 rfl rfl
   have c_c2 := bs.at 0 2 rfl rfl
   go_wp2_with fail
   refine (CI.out w31 q).mono ?_
   rintro e w32 ⟨rfl, hb⟩
   clear c_c0 c_c1 c_c2
   replace bs := bs.ret hb
   replace q := bs.q
   clear hb
   have c_c0 := bs.at 0 0 rfl rfl
   have c_c1 := bs.at 0 1 rfl rfl
   have c_c2 := bs.at 0 2 rfl rfl
   go_wp2_with fail
   refine (FK.out w32 q).mono ?_
   rintro e w33 ⟨rfl, hb⟩
   clear c_c0 c_c1 c_c2
   replace bs := bs.ret hb
   replace q := bs.q
   clear hb
   go_wp2_with fail
   go_ret
   exact ⟨by rw [← HNK.out]; rfl, q⟩
end Go.Proofs.YtjgeiieiinmdnaaGreatDoor
namespace Go.Proofs.YtjgeiieiinmdnaaGreatDoor
open Go.RowKit Go.Lib

/-- a resource as it is bound. -/
def newR (t : List UInt8) : Re := (t, false, 0, [], false, [])
def bindF (p : List Nd → Bool) (c : Co) (o r : List UInt8) : Co × List UInt8 × Int :=
 if coreD p c then
  if (fiG acN c.1 o).isSome then
   if r.isEmpty || chkP [] [97] r then
    if (fiG reN c.2.1 (o ++ 47 :: r)).isSome then (co0, [], 240)
    else if c.2.1.length ≤ 15 then
     if r.isEmpty then
      if ((madeN c.2.1 o (c.2.1.length + 1) (c.2.2.toNat + 1) : Nat) : Int) < mostV then ((c.1, puO reN c.2.1 (newR (nmR o (madeN c.2.1 o (c.2.1.length + 1) (c.2.2.toNat + 1)))), ((madeN c.2.1 o (c.2.1.length + 1) (c.2.2.toNat + 1) : Nat) : Int)), nmR o (madeN c.2.1 o (c.2.1.length + 1) (c.2.2.toNat + 1)), 0)
      else (co0, [], 9)
     else ((c.1, puO reN c.2.1 (newR (o ++ 47 :: r)), c.2.2), o ++ 47 :: r, 0)
    else (co0, [], 9)
   else (co0, [], 2)
  else (co0, [], 6)
 else (co0, [], 8)
def BindIs (w : World) (o : Co × List UInt8 × Int) (e : Ending) (w' : World) : Prop := ∃ c : CoI, e = .returned (.tuple #[c.v, .string ⟨o.2.1.toArray⟩, .int .i64 o.2.2]) ∧ c.d = o.1 ∧ c.own (fun g => w.heap.size ≤ g) w' ∧ Below w.heap.size w w'
theorem bind_no {w w' : World} (e : Int) (hb : Below w.heap.size w w') : BindIs w (co0, [], e) (.returned (.tuple #[.agg #[.slice none 0 0, .slice none 0 0, .int .i64 0], .string ⟨#[]⟩, .int .i64 e])) w' := ⟨⟨[], (none, 0), [], (none, 0), 0⟩, rfl, rfl, ⟨OwL.nil _ _ _, OwL.nil _ _ _⟩, hb⟩
theorem ret_co3 {fn : Func} {tmps : Array Value} {W : World} {R p q r : Nat} {v0 v1 v2 e f : Value} (h : fn.results = #[.cell p 25, .tmp q, .tmp r]) (h2 : tmps.getD p undef = .pointer (some ⟨R, 0, none⟩)) (h3 : tmps.getD q undef = e) (h4 : tmps.getD r undef = f) (k : Bx R [v0, v1, v2] W) :
  (results fn tmps).run Tryz.prog W = .ok (.tuple #[.agg #[v0, v1, v2], e, f]) W := by
 have c0 := k.at 0 rfl
 have c1 := k.at 1 rfl
 have c2 := k.at 2 rfl
 simp only [Array.getD_eq_getD_getElem?] at h2 h3 h4
 simp [results, h, h2, h3, h4, go_sem, Result.andThen, c0, c1, c2]
theorem idx_ac {A : List AcI} {t : List UInt8} : decide (idxG (fun x : AcI => x.j == t) A < 0) = !(fiG acN (A.map AcI.d) t).isSome := by
 rw [idxG_neg, find_map, Option.isSome_map]
 congr 1
 rw [Bool.eq_iff_iff, List.any_eq_true, Option.isSome_iff_exists]
 constructor
 ·rintro ⟨x, hx, hq⟩
  cases h : A.find? fun x => acN (AcI.d x) == t with
  | some y => exact ⟨y, rfl⟩
  | none => exact absurd hq (by have := List.find?_eq_none.1 h x hx; exact this)
 ·rintro ⟨y, hy⟩
  exact ⟨y, List.mem_of_find?_eq_some hy, List.find?_some (p := fun x : AcI => acN x.d == t) hy⟩
theorem full_bytes (O R : ByteArray) : (⟨(O.data.toList ++ 47 :: R.data.toList).toArray⟩ : ByteArray) = O ++ ⟨#[47]⟩ ++ R := by
 have e : O = ⟨O.data.toList.toArray⟩ := by simp
 have e2 : R = ⟨R.data.toList.toArray⟩ := by simp
 conv => rhs; rw [e, e2, show (⟨#[47]⟩ : ByteArray) = ⟨([47] : List UInt8).toArray⟩ from rfl, str_append2, str_append2]
 rw [List.append_assoc]
 rfl
theorem nmR_bytes2 (O R D : ByteArray) (n : Nat) (hr : R.data.toList = []) (hD : (⟨(Lib.decDigits n).toArray⟩ : ByteArray) = D) : O ++ ⟨#[47]⟩ ++ R ++ (⟨#[114]⟩ ++ D) = ⟨(nmR O.data.toList n).toArray⟩ := by
 have hR : R = ⟨([] : List UInt8).toArray⟩ := by
  have e : R = ⟨R.data.toList.toArray⟩ := by simp
  rw [e, hr]
 rw [nmR_bytes, ← hD, hR]
 have e : O = ⟨O.data.toList.toArray⟩ := by simp
 rw [e, show (⟨#[47]⟩ : ByteArray) = ⟨([47] : List UInt8).toArray⟩ from rfl, show (⟨#[114]⟩ : ByteArray) = ⟨([114] : List UInt8).toArray⟩ from rfl, show (⟨#[47, 114]⟩ : ByteArray) = ⟨([47, 114] : List UInt8).toArray⟩ from rfl]
 simp only [str_append2]
 simp
set_option maxHeartbeats 1500000 in
set_option maxRecDepth 100000 in
theorem ha_Bind (p : List Nd → Bool) (c : CoI) (O Rs : ByteArray) (w : World) (h : CoFit p c w) (hO : O.size ≤ 4000) (hRs : Rs.size ≤ 4000) (hm : ML w) (ht : Tab w) : Calls Tryz.prog 37 #[c.v, .string O, .string Rs] w (BindIs w (bindF p c.d O.data.toList Rs.data.toList)) := by
 obtain ⟨A, ⟨aa, ac⟩, R, ⟨ra, rc⟩, m⟩ := c
 have CK0 := fun (W : World) (hb : Below w.heap.size w W) => ha_Check p ⟨A, (aa, ac), R, (ra, rc), m⟩ W (h.ret hb) (hm.ret hb)
 have TW0 := fun (W : World) (hb : Below w.heap.size w W) => ha_Twin ⟨A, (aa, ac), R, (ra, rc), m⟩ W (h.sub.ret hb) h.zA h.zR (fun a ha => (h.ac a ha).2) (fun r hr => (h.rs r hr).2)
 obtain ⟨⟨hA, hR⟩, zA, zR, hac, hrs⟩ := h
 simp only at zA zR hac hrs
 have hA : IsL acY (.slice aa A.length ac) A w := hA
 have hR : IsL rsY (.slice ra R.length rc) R w := hR
 have FA0 := fun (W : World) (hb : Below w.heap.size w W) => ha_find_ac aa A.length ac A O.data.toList W (hA.ret hb) (by omega)
 have FI0 := fun (W : World) (hb : Below w.heap.size w W) => ha_find_rs ra R.length rc R (O.data.toList ++ 47 :: Rs.data.toList) W (hR.ret hb) (by omega)
 rw [full_bytes] at FI0
 rw [show (⟨O.data.toList.toArray⟩ : ByteArray) = O by simp] at FA0
 have JC0 := fun (W : World) (hb : Below w.heap.size w W) => jd_Check ⟨#[]⟩ ⟨#[97]⟩ Rs W (by decide) (by decide) (by omega) (hm.ret hb)
 have MD0 := fun (W : World) (hb : Below w.heap.size w W) (n : Nat) (hn : n ≤ 9007199254740992) => ha_made ⟨A, (aa, ac), R, (ra, rc), m⟩ O n W (hR.ret hb) zR (by omega) hn (ht.ret hb)
 have IA := idx_ac (A := A) (t := O.data.toList)
 have IR := idx_fi (R := R) (t := O.data.toList ++ 47 :: Rs.data.toList)
 simp only [CoI.d] at CK0 TW0 MD0 ⊢
 show Calls Tryz.prog 37 #[.agg #[.slice aa A.length ac, .slice ra R.length rc, .int .i64 m], .string O, .string Rs] w _
 simp only [CoI.v] at CK0 TW0 MD0
 obtain ⟨Z, hZ⟩ : ∃ Z, bindF p (A.map AcI.d, R.map RsI.d, m) O.data.toList Rs.data.toList = Z := ⟨_, rfl⟩
 rw [hZ]
 unfold bindF at hZ
 simp only [List.length_map] at hZ
 obtain ⟨LA, hLA⟩ : ∃ LA, A.length = LA := ⟨_, rfl⟩
 obtain ⟨LR, hLR⟩ : ∃ LR, R.length = LR := ⟨_, rfl⟩
 rw [hLA, hLR] at CK0 TW0 MD0
 rw [hLR] at FI0 hZ
 rw [hLA] at FA0
 rw [hLA, hLR]
 have TW := Lib.hid TW0
 have HM := Lib.hid hm
 have HT := Lib.hid ht
 have HLR := Lib.hid hLR
 have HLA := Lib.hid hLA
 have g1 : ¬ 9223372036854775807 < O.size + 1 := by omega
 have g2 : ¬ 9223372036854775807 < O.size + 1 + Rs.size := by omega
 have hzj : ∀ y ∈ R, y.j.length ≤ 10000 := fun y hy => (hrs y hy).1.j
 have HZJ := Lib.hid hzj
 have zA2 : LA ≤ 1000 := by omega
 have zR2 : LR ≤ 1000 := by omega
 obtain ⟨IAx, hIA⟩ : ∃ I, idxG (fun x : AcI => x.j == O.data.toList) A = I := ⟨_, rfl⟩
 obtain ⟨IRx, hIR⟩ : ∃ I, idxG (fun x : RsI => x.j == O.data.toList ++ 47 :: Rs.data.toList) R = I := ⟨_, rfl⟩
 rw [hIA] at FA0 IA
 rw [hIR] at FI0 IR
 have FA := Lib.hid FA0
 have FI := Lib.hid FI0
 have JC := Lib.hid JC0
 have MD := Lib.hid MD0
 clear TW0 FA0 FI0 JC0 MD0 hIA hIR hzj hA hR hac hrs zA zR hLA hLR hm ht
 cases hc : coreD p (A.map AcI.d, R.map RsI.d, m) with
 | false =>
  rw [hc] at CK0 hZ
  have CK := Lib.hid (show ∀ W, Below w.heap.size w W → Calls Tryz.prog 30 #[.agg #[.slice aa LA ac, .slice ra LR rc, .int .i64 m]] W (Ret W (.int .i64 8)) from CK0)
  have hZ2 : (co0, [], 8) = Z := hZ
  subst hZ2
  clear CK0 hZ IA IR hc
  obtain ⟨W0, hW, y0, bs⟩ := Sx.start2 w [.slice aa LA ac, .slice ra LR rc, .int .i64 m] 25 [.slice none 0 0, .slice none 0 0, .int .i64 0] 25
  have HW := Lib.hid hW
  clear hW
  have q := bs.q
  go_enter Tryz.func37, Tryz.ntmps37
  go_wp2_with fail
  rw [HW.out]
  have c_c0 := bs.at 0 0 rfl rfl
  have c_c1 := bs.at 0 1 rfl rfl
  have c_c2 := bs.at 0 2 rfl rfl
  go_wp2_with fail
  refine (CK.out W0 q).mono ?_
  rintro e w1 ⟨rfl, hb⟩
  clear c_c0 c_c1 c_c2
  replace bs := bs.ret hb
  replace q := bs.q
  clear hb
  have c_z0 := bs.at 1 0 rfl rfl
  have f_z0 := bs.fz 1 0 rfl rfl
  have c_z1 := bs.at 1 1 rfl rfl
  have f_z1 := bs.fz 1 1 rfl rfl
  have c_z2 := bs.at 1 2 rfl rfl
  have f_z2 := bs.fz 1 2 rfl rfl
  have c_c0 := bs.at 0 0 rfl rfl
  have c_c1 := bs.at 0 1 rfl rfl
  have c_c2 := bs.at 0 2 rfl rfl
  go_wp2_with fail
  clear c_z0 f_z0 c_z1 f_z1 c_z2 f_z2 c_c0 c_c1 c_c2
  obtain ⟨w2, hw2, y2, bs⟩ := bs.sets 1 0 [.slice none 0 0, .slice none 0 0, .int .i64 0] rfl (Nat.le_of_ble_eq_true rfl)
  replace q := bs.q
  simp only [World.setCells, Nat.reduceAdd] at hw2
  rw [hw2]
  exact bodyPost_ret (ret_co3 rfl rfl rfl rfl (bs.box 1 rfl)) rfl (bind_no 8 q)
 | true =>
  rw [hc] at CK0 hZ
  have CK := Lib.hid (show ∀ W, Below w.heap.size w W → Calls Tryz.prog 30 #[.agg #[.slice aa LA ac, .slice ra LR rc, .int .i64 m]] W (Ret W (.int .i64 0)) from CK0)
  simp only [if_true] at hZ
  have hf := co_facts hc
  have hm0 : 0 ≤ m := hf.2.2.1
  have hm1 : m < 9007199254740991 := hf.2.2.2.1
  have hch : chG reN (R.map RsI.d) = true := hf.2.2.2.2.2.2.2
  have HCH := Lib.hid hch
  clear CK0 hc hf hch
  obtain ⟨W0, hW, y0, bs⟩ := Sx.start2 w [.slice aa LA ac, .slice ra LR rc, .int .i64 m] 25 [.slice none 0 0, .slice none 0 0, .int .i64 0] 25
  have HW := Lib.hid hW
  clear hW
  have q := bs.q
  go_enter Tryz.func37, Tryz.ntmps37
  go_wp2_with fail
  rw [HW.out]
  have c_c0 := bs.at 0 0 rfl rfl
  have c_c1 := bs.at 0 1 rfl rfl
  have c_c2 := bs.at 0 2 rfl rfl
  go_wp2_with fail
  refine (CK.out W0 q).mono ?_
  rintro e w1 ⟨rfl, hb⟩
  clear c_c0 c_c1 c_c2
  replace bs := bs.ret hb
  replace q := bs.q
  clear hb
  have c_c0 := bs.at 0 0 rfl rfl
  have c_c1 := bs.at 0 1 rfl rfl
  have c_c2 := bs.at 0 2 rfl rfl
  go_wp2_with fail
  refine (ha_accounts aa ra LA ac LR rc m w1).mono ?_
  rintro e w2 ⟨rfl, hb⟩
  clear c_c0 c_c1 c_c2
  replace bs := bs.ret hb
  replace q := bs.q
  clear hb
  have c_c0 := bs.at 0 0 rfl rfl
  have c_c1 := bs.at 0 1 rfl rfl
  have c_c2 := bs.at 0 2 rfl rfl
  go_wp2_with fail
  refine (FA.out w2 q).mono ?_
  rintro e w3 ⟨rfl, hb⟩
  clear c_c0 c_c1 c_c2
  replace bs := bs.ret hb
  replace q := bs.q
  clear hb
  cases ha : (fiG acN (A.map AcI.d) O.data.toList).isSome with
  | false =>
   rw [ha] at IA hZ
   have wa : IAx < 0 := of_decide_eq_true IA
   have hZ2 : (co0, [], 6) = Z := hZ
   subst hZ2
   clear IA IR hZ ha
   have c_z0 := bs.at 1 0 rfl rfl
   have f_z0 := bs.fz 1 0 rfl rfl
   have c_z1 := bs.at 1 1 rfl rfl
   have f_z1 := bs.fz 1 1 rfl rfl
   have c_z2 := bs.at 1 2 rfl rfl
   have f_z2 := bs.fz 1 2 rfl rfl
   have c_c0 := bs.at 0 0 rfl rfl
   have c_c1 := bs.at 0 1 rfl rfl
   have c_c2 := bs.at 0 2 rfl rfl
   go_wp2_with fail
   clear c_z0 f_z0 c_z1 f_z1 c_z2 f_z2 c_c0 c_c1 c_c2
   obtain ⟨w4, hw4, y4, bs⟩ := bs.sets 1 0 [.slice none 0 0, .slice none 0 0, .int .i64 0] rfl (Nat.le_of_ble_eq_true rfl)
   replace q := bs.q
   simp only [World.setCells, Nat.reduceAdd] at hw4
   rw [hw4]
   exact bodyPost_ret (ret_co3 rfl rfl rfl rfl (bs.box 1 rfl)) rfl (bind_no 6 q)
  | true =>
   rw [ha] at IA hZ
   have wa : ¬ IAx < 0 := of_decide_eq_false IA
   simp only [if_true] at hZ
   clear IA ha
   cases he : Rs.data.toList.isEmpty with
   | false =>
    have wr0 : (Rs.toList == []) = false := by
     rw [Lib.toList_data]
     cases h : Rs.data.toList with
     | nil => rw [h] at he; cases he
     | cons a l => rfl
    rw [he] at hZ
    simp only [Bool.false_or] at hZ
    have c_c0 := bs.at 0 0 rfl rfl
    have c_c1 := bs.at 0 1 rfl rfl
    have c_c2 := bs.at 0 2 rfl rfl
    go_wp2_with fail
    cases hk : chkP [] [97] Rs.data.toList with
    | false =>
     rw [hk] at hZ
     have hZ2 : (co0, [], 2) = Z := hZ
     subst hZ2
     have JD := Lib.hid fun (W : World) (hb : Below w.heap.size w W) => show Calls Tryz.prog 91 #[jV ⟨#[]⟩ ⟨#[97]⟩ Rs] W (Ret W (.int .i64 8)) by
      have := JC.out W hb
      rw [show chkP (⟨#[]⟩ : ByteArray).data.toList (⟨#[97]⟩ : ByteArray).data.toList Rs.data.toList = false from hk] at this
      exact this
     clear hZ hk IR he JC
     refine (JD.out w3 q).mono ?_
     rintro e w4 ⟨rfl, hb⟩
     clear c_c0 c_c1 c_c2
     replace bs := bs.ret hb
     replace q := bs.q
     clear hb
     have c_z0 := bs.at 1 0 rfl rfl
     have f_z0 := bs.fz 1 0 rfl rfl
     have c_z1 := bs.at 1 1 rfl rfl
     have f_z1 := bs.fz 1 1 rfl rfl
     have c_z2 := bs.at 1 2 rfl rfl
     have f_z2 := bs.fz 1 2 rfl rfl
     have c_c0 := bs.at 0 0 rfl rfl
     have c_c1 := bs.at 0 1 rfl rfl
     have c_c2 := bs.at 0 2 rfl rfl
     go_wp2_with fail
     clear c_z0 f_z0 c_z1 f_z1 c_z2 f_z2 c_c0 c_c1 c_c2
     obtain ⟨w5, hw5, y5, bs⟩ := bs.sets 1 0 [.slice none 0 0, .slice none 0 0, .int .i64 0] rfl (Nat.le_of_ble_eq_true rfl)
     replace q := bs.q
     simp only [World.setCells, Nat.reduceAdd] at hw5
     rw [hw5]
     exact bodyPost_ret (ret_co3 rfl rfl rfl rfl (bs.box 1 rfl)) rfl (bind_no 2 q)
    | true =>
     rw [hk] at hZ
     simp only [if_true] at hZ
     have JD := Lib.hid fun (W : World) (hb : Below w.heap.size w W) => show Calls Tryz.prog 91 #[jV ⟨#[]⟩ ⟨#[97]⟩ Rs] W (Ret W (.int .i64 0)) by
      have := JC.out W hb
      rw [show chkP (⟨#[]⟩ : ByteArray).data.toList (⟨#[97]⟩ : ByteArray).data.toList Rs.data.toList = true from hk] at this
      exact this
     clear hk JC
     refine (JD.out w3 q).mono ?_
     rintro e w4 ⟨rfl, hb⟩
     clear c_c0 c_c1 c_c2
     replace bs := bs.ret hb
     replace q := bs.q
     clear hb
     have c_c0 := bs.at 0 0 rfl rfl
     have c_c1 := bs.at 0 1 rfl rfl
     have c_c2 := bs.at 0 2 rfl rfl
     go_wp2_with fail
     refine (ha_bound aa ra LA ac LR rc m w4).mono ?_
     rintro e w5 ⟨rfl, hb⟩
     clear c_c0 c_c1 c_c2
     replace bs := bs.ret hb
     replace q := bs.q
     clear hb
     have c_c0 := bs.at 0 0 rfl rfl
     have c_c1 := bs.at 0 1 rfl rfl
     have c_c2 := bs.at 0 2 rfl rfl
     go_wp2_with fail
     refine (FI.out w5 q).mono ?_
     rintro e w6 ⟨rfl, hb⟩
     clear c_c0 c_c1 c_c2
     replace bs := bs.ret hb
     replace q := bs.q
     clear hb
     cases hb0 : (fiG reN (R.map RsI.d) (O.data.toList ++ 47 :: Rs.data.toList)).isSome with
     | true =>
      rw [hb0] at IR hZ
      have wi : 0 ≤ IRx := of_decide_eq_true IR
      have hZ2 : (co0, [], 240) = Z := hZ
      subst hZ2
      clear hZ hb0 IR he
      have c_z0 := bs.at 1 0 rfl rfl
      have f_z0 := bs.fz 1 0 rfl rfl
      have c_z1 := bs.at 1 1 rfl rfl
      have f_z1 := bs.fz 1 1 rfl rfl
      have c_z2 := bs.at 1 2 rfl rfl
      have f_z2 := bs.fz 1 2 rfl rfl
      have c_c0 := bs.at 0 0 rfl rfl
      have c_c1 := bs.at 0 1 rfl rfl
      have c_c2 := bs.at 0 2 rfl rfl
      go_wp2_with fail
      clear c_z0 f_z0 c_z1 f_z1 c_z2 f_z2 c_c0 c_c1 c_c2
      obtain ⟨w7, hw7, y7, bs⟩ := bs.sets 1 0 [.slice none 0 0, .slice none 0 0, .int .i64 0] rfl (Nat.le_of_ble_eq_true rfl)
      replace q := bs.q
      simp only [World.setCells, Nat.reduceAdd] at hw7
      rw [hw7]
      exact bodyPost_ret (ret_co3 rfl rfl rfl rfl (bs.box 1 rfl)) rfl (bind_no 240 q)
     | false =>
      rw [hb0] at IR hZ
      have wi : ¬ 0 ≤ IRx := of_decide_eq_false IR
      simp only [Bool.false_eq_true, if_false] at hZ
      clear hb0 IR
      by_cases hl : LR ≤ 15
      ·rw [if_pos hl] at hZ
       have wl : ¬ (16 : Int) ≤ (LR : Int) := by omega
       have hZ2 : ((A.map AcI.d, puO reN (R.map RsI.d) (newR (O.data.toList ++ 47 :: Rs.data.toList)), m), O.data.toList ++ 47 :: Rs.data.toList, 0) = Z := hZ
       subst hZ2
       have HFB := Lib.hid (full_bytes O Rs)
       have HFZ : Hid ((O.data.toList ++ 47 :: Rs.data.toList).length ≤ 10000) := Lib.hid (by rw [List.length_append, List.length_cons, size_toList, size_toList]; omega)
       clear hZ he
       have c_c0 := bs.at 0 0 rfl rfl
       have c_c1 := bs.at 0 1 rfl rfl
       have c_c2 := bs.at 0 2 rfl rfl
       go_wp2_with fail
       have hB : w.heap.size + 2 ≤ w6.heap.size := bs.lt _ (List.mem_of_getElem? (i := 1) rfl)
       refine (TW.out w6 q).mono ?_
       rintro e w7 ⟨⟨A2, ⟨a2, c2⟩, R2, ⟨a3, c3⟩, m2⟩, rfl, hd, ⟨ho1, ho2⟩, hb⟩
       simp only [CoI.d, Prod.mk.injEq] at hd
       obtain ⟨hd1, hd2, rfl⟩ := hd
       simp only [CoI.v, CoI.av, CoI.rv] at ho1 ho2 ⊢
       have hl1 : A2.length = A.length := by have := congrArg List.length hd1; simpa using this
       have hl2 : R2.length = R.length := by have := congrArg List.length hd2; simpa using this
       rw [HLA.out] at hl1
       rw [HLR.out] at hl2
       rw [hl1, hl2]
       rw [hl2] at ho1 ho2
       rw [hl1] at ho1
       have o_a : OwU acY (w.heap.size + 2) (.slice a3 LR c3) (.slice a2 LA c2) A2 _ := OwU.of ho1 hB
       have o_r : OwU rsY (w.heap.size + 2) nilV (.slice a3 LR c3) R2 _ := OwU.ofN ho2 hB
       have HD1 := Lib.hid hd1
       have HD2 := Lib.hid hd2
       have HL1 := Lib.hid hl1
       have HL2 := Lib.hid hl2
       clear ho1 ho2 hd1 hd2 hl1 hl2 hB
       clear c_c0 c_c1 c_c2
       replace bs := bs.ret hb
       replace q := bs.q
       clear hb
       have c_c0 := bs.at 0 0 rfl rfl
       have c_c1 := bs.at 0 1 rfl rfl
       have c_c2 := bs.at 0 2 rfl rfl
       have c_z0 := bs.at 1 0 rfl rfl
       have f_z0 := bs.fz 1 0 rfl rfl
       have c_z1 := bs.at 1 1 rfl rfl
       have f_z1 := bs.fz 1 1 rfl rfl
       have c_z2 := bs.at 1 2 rfl rfl
       have f_z2 := bs.fz 1 2 rfl rfl
       go_wp2_with fail
       clear c_c0 c_c1 c_c2 c_z0 f_z0 c_z1 f_z1 c_z2 f_z2
       obtain ⟨w8, hw8, y8, bs⟩ := bs.sets 1 0 [.slice a2 LA c2, .slice a3 LR c3, .int .i64 m2] rfl (Nat.le_of_ble_eq_true rfl)
       replace o_a := o_a.sets (by omega) hw8
       replace o_r := o_r.sets (by omega) hw8
       replace q := bs.q
       simp only [World.setCells, Nat.reduceAdd] at hw8
       rw [hw8]
       have c_z0 := bs.at 1 0 rfl rfl
       have c_z1 := bs.at 1 1 rfl rfl
       have c_z2 := bs.at 1 2 rfl rfl
       go_wp2_with fail
       refine (ha_bound a2 a3 LA c2 LR c3 m2 w8).mono ?_
       rintro e w9 ⟨rfl, hb⟩
       clear c_z0 c_z1 c_z2
       replace o_a := o_a.ret hb
       replace o_r := o_r.ret hb
       replace bs := bs.ret hb
       replace q := bs.q
       clear hb
       have hB : w.heap.size + 2 ≤ w9.heap.size := bs.lt _ (List.mem_of_getElem? (i := 1) rfl)
       obtain ⟨r3, hr3⟩ : ∃ r3 : RsI, r3 = ⟨O.data.toList ++ 47 :: Rs.data.toList, false, 0, [], (none, 0), false, [], (none, 0)⟩ := ⟨_, rfl⟩
       have hrv : Value.agg #[.string (O ++ ⟨#[47]⟩ ++ Rs), .bool false, .int .i64 0, .slice none 0 0, .bool false, .slice none 0 0] = r3.v := by
        rw [hr3]
        show _ = Value.agg #[.string ⟨(O.data.toList ++ 47 :: Rs.data.toList).toArray⟩, .bool false, .int .i64 0, .slice none 0 0, .bool false, .slice none 0 0]
        rw [HFB.out]
       have hcall := ha_put_rs a3 c3 R2 r3 w9 (by have := o_r.isL; rw [HL2.out]; exact this) (by rw [HL2.out]; omega) (fun y hy => by
        obtain ⟨z, hz, e⟩ := map_mem HD2.out hy
        have e2 : z.j = y.j := congrArg reN e
        rw [← e2]
        exact HZJ.out z hz) (by rw [hr3]; exact HFZ.out) (by
        have := HCH.out
        rw [← HD2.out, chG_map] at this
        exact this) (HM.out.ret q)
       rw [HL2.out] at hcall
       have HCA := Lib.hid hcall
       have HR3 := Lib.hid hr3
       clear hcall hr3
       have c_z0 := bs.at 1 0 rfl rfl
       have c_z1 := bs.at 1 1 rfl rfl
       have c_z2 := bs.at 1 2 rfl rfl
       go_wp2_with fail
       refine HCA.out.mono ?_
       rintro e w90 ⟨a5, c5, rfl, hown5, hb⟩
       clear c_z0 c_z1 c_z2
       replace o_a := o_a.ret hb
       replace o_r := o_r.ret hb
       replace bs := bs.ret hb
       replace q := bs.q
       obtain ⟨N5, hN5⟩ : ∃ N5, puO (fun y : RsI => y.j) R2 r3 = N5 := ⟨_, rfl⟩
       rw [hN5] at hown5 ⊢
       have o_v : OwV rsY (w.heap.size + 2) (.slice a5 N5.length c5) N5 w90 := own_elems (hown5.mono hB) rfl rfl (fun _ h => h) fun y hy => by
        rw [← hN5] at hy
        rcases puO_mem hy with h | h
        ·exact rsY.ownMono _ _ _ _ (o_r.elem h) fun _ _ hg => hg.1
        ·rw [h, HR3.out]; exact ⟨OwL.nil _ _ _, OwS.nil _ _ _ _⟩
       obtain ⟨L5, hL5⟩ : ∃ L5, N5.length = L5 := ⟨_, rfl⟩
       rw [hL5] at o_v ⊢
       have HN5 := Lib.hid hN5
       have HL5 := Lib.hid hL5
       clear hb hB hown5 hN5 hL5 hrv HCA
       have c_z0 := bs.at 1 0 rfl rfl
       have f_z0 := bs.fz 1 0 rfl rfl
       have c_z1 := bs.at 1 1 rfl rfl
       have f_z1 := bs.fz 1 1 rfl rfl
       have c_z2 := bs.at 1 2 rfl rfl
       have f_z2 := bs.fz 1 2 rfl rfl
       go_wp2_with fail
       clear c_z0 f_z0 c_z1 f_z1 c_z2 f_z2
       obtain ⟨w91, hw91, y91, bs⟩ := bs.sets 1 1 [.slice a5 L5 c5] rfl (Nat.le_of_ble_eq_true rfl)
       replace o_a := o_a.sets (by omega) hw91
       replace o_r := o_r.sets (by omega) hw91
       replace o_v := o_v.sets (by omega) hw91
       obtain ⟨w92, hw92, y92, bs⟩ := bs.sets 1 0 [.slice a2 LA c2, .slice a5 L5 c5, .int .i64 m2] rfl (Nat.le_of_ble_eq_true rfl)
       replace o_a := o_a.sets (by omega) hw92
       replace o_r := o_r.sets (by omega) hw92
       replace o_v := o_v.sets (by omega) hw92
       replace q := bs.q
       simp only [World.setCells] at hw91
       rw [hw91]
       simp only [World.setCells, Nat.reduceAdd] at hw92
       rw [hw92]
       refine bodyPost_ret (ret_co3 rfl rfl rfl rfl (bs.box 1 rfl)) rfl ⟨⟨A2, (a2, c2), N5, (a5, c5), m2⟩, ?_, ?_, ⟨?_, ?_⟩, q⟩
       ·show _ = Ending.returned (.tuple #[.agg #[.slice a2 A2.length c2, .slice a5 N5.length c5, .int .i64 m2], .string ⟨(O.data.toList ++ 47 :: Rs.data.toList).toArray⟩, .int .i64 0])
        rw [HL1.out, HL5.out, HFB.out]
        rfl
       ·show (A2.map AcI.d, N5.map RsI.d, m2) = _
        have e5 : N5.map RsI.d = puO reN (R2.map RsI.d) r3.d := by rw [← HN5.out]; exact puO_map (f := RsI.d) (nm := reN) R2 r3
        rw [HD1.out, e5, HD2.out, HR3.out]
        rfl
       ·show OwL acY _ (.slice a2 A2.length c2) A2 _
        rw [HL1.out]
        exact OwL.mono o_a.own fun g _ hg => by omega
       ·show OwL rsY _ (.slice a5 N5.length c5) N5 _
        rw [HL5.out]
        exact OwL.mono o_v fun g _ hg => by omega
      ·rw [if_neg hl] at hZ
       have wl : (16 : Int) ≤ (LR : Int) := by omega
       have hZ2 : (co0, [], 9) = Z := hZ
       subst hZ2
       clear hZ he
       have c_z0 := bs.at 1 0 rfl rfl
       have f_z0 := bs.fz 1 0 rfl rfl
       have c_z1 := bs.at 1 1 rfl rfl
       have f_z1 := bs.fz 1 1 rfl rfl
       have c_z2 := bs.at 1 2 rfl rfl
       have f_z2 := bs.fz 1 2 rfl rfl
       have c_c0 := bs.at 0 0 rfl rfl
       have c_c1 := bs.at 0 1 rfl rfl
       have c_c2 := bs.at 0 2 rfl rfl
       go_wp2_with fail
       clear c_z0 f_z0 c_z1 f_z1 c_z2 f_z2 c_c0 c_c1 c_c2
       obtain ⟨w7, hw7, y7, bs⟩ := bs.sets 1 0 [.slice none 0 0, .slice none 0 0, .int .i64 0] rfl (Nat.le_of_ble_eq_true rfl)
       replace q := bs.q
       simp only [World.setCells, Nat.reduceAdd] at hw7
       rw [hw7]
       exact bodyPost_ret (ret_co3 rfl rfl rfl rfl (bs.box 1 rfl)) rfl (bind_no 9 q)
   | true =>
    have wr0 : (Rs.toList == []) = true := by
     rw [Lib.toList_data]
     cases h : Rs.data.toList with
     | nil => rfl
     | cons a l => rw [h] at he; cases he
    rw [he] at hZ
    simp only [Bool.true_or, if_true] at hZ
    have c_c0 := bs.at 0 0 rfl rfl
    have c_c1 := bs.at 0 1 rfl rfl
    have c_c2 := bs.at 0 2 rfl rfl
    go_wp2_with fail
    refine (ha_bound aa ra LA ac LR rc m w3).mono ?_
    rintro e w4 ⟨rfl, hb⟩
    clear c_c0 c_c1 c_c2
    replace bs := bs.ret hb
    replace q := bs.q
    clear hb
    have c_c0 := bs.at 0 0 rfl rfl
    have c_c1 := bs.at 0 1 rfl rfl
    have c_c2 := bs.at 0 2 rfl rfl
    go_wp2_with fail
    refine (FI.out w4 q).mono ?_
    rintro e w5 ⟨rfl, hb⟩
    clear c_c0 c_c1 c_c2
    replace bs := bs.ret hb
    replace q := bs.q
    clear hb
    cases hb0 : (fiG reN (R.map RsI.d) (O.data.toList ++ 47 :: Rs.data.toList)).isSome with
    | true =>
     rw [hb0] at IR hZ
     have wi : 0 ≤ IRx := of_decide_eq_true IR
     have hZ2 : (co0, [], 240) = Z := hZ
     subst hZ2
     clear hZ hb0 IR he
     have c_z0 := bs.at 1 0 rfl rfl
     have f_z0 := bs.fz 1 0 rfl rfl
     have c_z1 := bs.at 1 1 rfl rfl
     have f_z1 := bs.fz 1 1 rfl rfl
     have c_z2 := bs.at 1 2 rfl rfl
     have f_z2 := bs.fz 1 2 rfl rfl
     have c_c0 := bs.at 0 0 rfl rfl
     have c_c1 := bs.at 0 1 rfl rfl
     have c_c2 := bs.at 0 2 rfl rfl
     go_wp2_with fail
     clear c_z0 f_z0 c_z1 f_z1 c_z2 f_z2 c_c0 c_c1 c_c2
     obtain ⟨w6, hw6, y6, bs⟩ := bs.sets 1 0 [.slice none 0 0, .slice none 0 0, .int .i64 0] rfl (Nat.le_of_ble_eq_true rfl)
     replace q := bs.q
     simp only [World.setCells, Nat.reduceAdd] at hw6
     rw [hw6]
     exact bodyPost_ret (ret_co3 rfl rfl rfl rfl (bs.box 1 rfl)) rfl (bind_no 240 q)
    | false =>
     rw [hb0] at IR hZ
     have wi : ¬ 0 ≤ IRx := of_decide_eq_false IR
     simp only [Bool.false_eq_true, if_false] at hZ
     clear hb0 IR
     by_cases hl : LR ≤ 15
     ·rw [if_pos hl] at hZ
      have wl : ¬ (16 : Int) ≤ (LR : Int) := by omega
      (try simp only [if_true] at hZ)
      obtain ⟨n, hn⟩ : ∃ n, madeN (R.map RsI.d) O.data.toList (LR + 1) (m.toNat + 1) = n := ⟨_, rfl⟩
      rw [hn] at hZ
      have hnl := madeN_le (R.map RsI.d) O.data.toList (LR + 1) (m.toNat + 1)
      rw [hn] at hnl
      have hwm : IntKind.i64.wrap (m + 1) = ((m.toNat + 1 : Nat) : Int) := by rw [IntWalk.i64_in _ (by omega)]; omega
      have MD1 := Lib.hid fun (W : World) (hb : Below w.heap.size w W) => show Calls Tryz.prog 92 #[.agg #[.slice aa LA ac, .slice ra LR rc, .int .i64 m], .string O, .int .i64 ((m.toNat + 1 : Nat) : Int)] W (Ret W (.int .i64 n)) by
       have := MD.out W hb (m.toNat + 1) (by omega)
       rw [hn] at this
       exact this
      obtain ⟨M1, hM1⟩ : ∃ M1 : Int, ((m.toNat + 1 : Nat) : Int) = M1 := ⟨_, rfl⟩
      obtain ⟨n1, hn1⟩ : ∃ n1 : Int, ((n : Nat) : Int) = n1 := ⟨_, rfl⟩
      rw [hM1] at hwm MD1
      rw [hn1] at MD1 hZ
      have hRe : Rs.data.toList = [] := by
       cases h : Rs.data.toList with
       | nil => rfl
       | cons a l => rw [h] at he; cases he
      have HRE := Lib.hid hRe
      have HN1 := Lib.hid hn1
      clear hM1 hn MD he hRe hn1
      by_cases hmn : n1 < 9007199254740991
      ·rw [if_pos (show n1 < mostV from hmn)] at hZ
       have wn : ¬ (9007199254740991 : Int) ≤ n1 := by omega
       have CI := Lib.hid fun (W : World) (hb : Below w.heap.size w W) => Itoa_c n (by have := HN1.out; omega) W (HT.out.ret hb)
       obtain ⟨D, hD⟩ : ∃ D : ByteArray, ByteArray.mk (Lib.decDigits n).toArray = D := ⟨_, rfl⟩
       have hDs : D.size ≤ 100 := by rw [← hD, ← size_toList]; have := len_dec19 (n := n) (by have := HN1.out; omega); show (Lib.decDigits n).length ≤ 100; omega
       have CI2 := CI.out
       rw [hD, HN1.out] at CI2
       have CI := Lib.hid CI2
       have hZ2 : ((A.map AcI.d, puO reN (R.map RsI.d) (newR (nmR O.data.toList n)), n1), nmR O.data.toList n, 0) = Z := hZ
       subst hZ2
       have hfb := nmR_bytes2 O Rs D n HRE.out hD
       have HFB := Lib.hid hfb.symm
       have HFZ : Hid ((nmR O.data.toList n).length ≤ 10000) := Lib.hid (by unfold nmR; have h1 := len_dec19 (n := n) (by have := HN1.out; omega); rw [List.length_append, List.length_cons, List.length_cons, size_toList]; omega)
       have g3 : ¬ 9223372036854775807 < 1 + D.size := by omega
       have g4 : ¬ 9223372036854775807 < O.size + 1 + Rs.size + (1 + D.size) := by omega
       clear hZ CI2 hD hDs hfb
       have c_c0 := bs.at 0 0 rfl rfl
       have c_c1 := bs.at 0 1 rfl rfl
       have c_c2 := bs.at 0 2 rfl rfl
       go_wp2_with fail
       have hB : w.heap.size + 2 ≤ w5.heap.size := bs.lt _ (List.mem_of_getElem? (i := 1) rfl)
       refine (TW.out w5 q).mono ?_
       rintro e w6 ⟨⟨A2, ⟨a2, c2⟩, R2, ⟨a3, c3⟩, m2⟩, rfl, hd, ⟨ho1, ho2⟩, hb⟩
       simp only [CoI.d, Prod.mk.injEq] at hd
       obtain ⟨hd1, hd2, rfl⟩ := hd
       simp only [CoI.v, CoI.av, CoI.rv] at ho1 ho2 ⊢
       have hl1 : A2.length = A.length := by have := congrArg List.length hd1; simpa using this
       have hl2 : R2.length = R.length := by have := congrArg List.length hd2; simpa using this
       rw [HLA.out] at hl1
       rw [HLR.out] at hl2
       rw [hl1, hl2]
       rw [hl2] at ho1 ho2
       rw [hl1] at ho1
       have o_a : OwU acY (w.heap.size + 2) (.slice a3 LR c3) (.slice a2 LA c2) A2 _ := OwU.of ho1 hB
       have o_r : OwU rsY (w.heap.size + 2) nilV (.slice a3 LR c3) R2 _ := OwU.ofN ho2 hB
       have HD1 := Lib.hid hd1
       have HD2 := Lib.hid hd2
       have HL1 := Lib.hid hl1
       have HL2 := Lib.hid hl2
       clear ho1 ho2 hd1 hd2 hl1 hl2 hB
       clear c_c0 c_c1 c_c2
       replace bs := bs.ret hb
       replace q := bs.q
       clear hb
       have c_c0 := bs.at 0 0 rfl rfl
       have c_c1 := bs.at 0 1 rfl rfl
       have c_c2 := bs.at 0 2 rfl rfl
       have c_z0 := bs.at 1 0 rfl rfl
       have f_z0 := bs.fz 1 0 rfl rfl
       have c_z1 := bs.at 1 1 rfl rfl
       have f_z1 := bs.fz 1 1 rfl rfl
       have c_z2 := bs.at 1 2 rfl rfl
       have f_z2 := bs.fz 1 2 rfl rfl
       go_wp2_with fail
       clear c_c0 c_c1 c_c2 c_z0 f_z0 c_z1 f_z1 c_z2 f_z2
       obtain ⟨w7, hw7, y7, bs⟩ := bs.sets 1 0 [.slice a2 LA c2, .slice a3 LR c3, .int .i64 m2] rfl (Nat.le_of_ble_eq_true rfl)
       replace o_a := o_a.sets (by omega) hw7
       replace o_r := o_r.sets (by omega) hw7
       replace q := bs.q
       simp only [World.setCells, Nat.reduceAdd] at hw7
       rw [hw7]
       have c_c0 := bs.at 0 0 rfl rfl
       have c_c1 := bs.at 0 1 rfl rfl
       have c_c2 := bs.at 0 2 rfl rfl
       have c_z0 := bs.at 1 0 rfl rfl
       have f_z0 := bs.fz 1 0 rfl rfl
       have c_z1 := bs.at 1 1 rfl rfl
       have f_z1 := bs.fz 1 1 rfl rfl
       have c_z2 := bs.at 1 2 rfl rfl
       have f_z2 := bs.fz 1 2 rfl rfl
       go_wp2_with fail
       refine (MD1.out w7 q).mono ?_
       rintro e w8 ⟨rfl, hb⟩
       clear c_c0 c_c1 c_c2 c_z0 f_z0 c_z1 f_z1 c_z2 f_z2
       replace o_a := o_a.ret hb
       replace o_r := o_r.ret hb
       replace bs := bs.ret hb
       replace q := bs.q
       clear hb
       have c_z0 := bs.at 1 0 rfl rfl
       have f_z0 := bs.fz 1 0 rfl rfl
       have c_z1 := bs.at 1 1 rfl rfl
       have f_z1 := bs.fz 1 1 rfl rfl
       have c_z2 := bs.at 1 2 rfl rfl
       have f_z2 := bs.fz 1 2 rfl rfl
       go_wp2_with fail
       clear c_z0 f_z0 c_z1 f_z1 c_z2 f_z2
       obtain ⟨w9, hw9, y9, bs⟩ := bs.sets 1 2 [.int .i64 n1] rfl (Nat.le_of_ble_eq_true rfl)
       replace o_a := o_a.sets (by omega) hw9
       replace o_r := o_r.sets (by omega) hw9
       replace q := bs.q
       simp only [World.setCells] at hw9
       rw [hw9]
       have c_z0 := bs.at 1 0 rfl rfl
       have f_z0 := bs.fz 1 0 rfl rfl
       have c_z1 := bs.at 1 1 rfl rfl
       have f_z1 := bs.fz 1 1 rfl rfl
       have c_z2 := bs.at 1 2 rfl rfl
       have f_z2 := bs.fz 1 2 rfl rfl
       go_wp2_with fail
       refine (CI.out w9 q).mono ?_
       rintro e w10 ⟨rfl, hb⟩
       clear c_z0 f_z0 c_z1 f_z1 c_z2 f_z2
       replace o_a := o_a.ret hb
       replace o_r := o_r.ret hb
       replace bs := bs.ret hb
       replace q := bs.q
       clear hb
       have c_z0 := bs.at 1 0 rfl rfl
       have c_z1 := bs.at 1 1 rfl rfl
       have c_z2 := bs.at 1 2 rfl rfl
       go_wp2_with fail
       refine (ha_bound a2 a3 LA c2 LR c3 n1 w10).mono ?_
       rintro e w11 ⟨rfl, hb⟩
       clear c_z0 c_z1 c_z2
       replace o_a := o_a.ret hb
       replace o_r := o_r.ret hb
       replace bs := bs.ret hb
       replace q := bs.q
       clear hb
       have hB : w.heap.size + 2 ≤ w11.heap.size := bs.lt _ (List.mem_of_getElem? (i := 1) rfl)
       obtain ⟨r3, hr3⟩ : ∃ r3 : RsI, r3 = ⟨nmR O.data.toList n, false, 0, [], (none, 0), false, [], (none, 0)⟩ := ⟨_, rfl⟩
       have hrv : Value.agg #[.string (O ++ ⟨#[47]⟩ ++ Rs ++ (⟨#[114]⟩ ++ D)), .bool false, .int .i64 0, .slice none 0 0, .bool false, .slice none 0 0] = r3.v := by
        rw [hr3]
        show _ = Value.agg #[.string ⟨(nmR O.data.toList n).toArray⟩, .bool false, .int .i64 0, .slice none 0 0, .bool false, .slice none 0 0]
        rw [HFB.out]
       have hcall := ha_put_rs a3 c3 R2 r3 w11 (by have := o_r.isL; rw [HL2.out]; exact this) (by rw [HL2.out]; omega) (fun y hy => by
        obtain ⟨z, hz, e⟩ := map_mem HD2.out hy
        have e2 : z.j = y.j := congrArg reN e
        rw [← e2]
        exact HZJ.out z hz) (by rw [hr3]; exact HFZ.out) (by
        have := HCH.out
        rw [← HD2.out, chG_map] at this
        exact this) (HM.out.ret q)
       rw [HL2.out] at hcall
       have HCA := Lib.hid hcall
       have HR3 := Lib.hid hr3
       clear hcall hr3
       have c_z0 := bs.at 1 0 rfl rfl
       have c_z1 := bs.at 1 1 rfl rfl
       have c_z2 := bs.at 1 2 rfl rfl
       go_wp2_with fail
       refine HCA.out.mono ?_
       rintro e w90 ⟨a5, c5, rfl, hown5, hb⟩
       clear c_z0 c_z1 c_z2
       replace o_a := o_a.ret hb
       replace o_r := o_r.ret hb
       replace bs := bs.ret hb
       replace q := bs.q
       obtain ⟨N5, hN5⟩ : ∃ N5, puO (fun y : RsI => y.j) R2 r3 = N5 := ⟨_, rfl⟩
       rw [hN5] at hown5 ⊢
       have o_v : OwV rsY (w.heap.size + 2) (.slice a5 N5.length c5) N5 w90 := own_elems (hown5.mono hB) rfl rfl (fun _ h => h) fun y hy => by
        rw [← hN5] at hy
        rcases puO_mem hy with h | h
        ·exact rsY.ownMono _ _ _ _ (o_r.elem h) fun _ _ hg => hg.1
        ·rw [h, HR3.out]; exact ⟨OwL.nil _ _ _, OwS.nil _ _ _ _⟩
       obtain ⟨L5, hL5⟩ : ∃ L5, N5.length = L5 := ⟨_, rfl⟩
       rw [hL5] at o_v ⊢
       have HN5 := Lib.hid hN5
       have HL5 := Lib.hid hL5
       clear hb hB hown5 hN5 hL5 hrv HCA
       have c_z0 := bs.at 1 0 rfl rfl
       have f_z0 := bs.fz 1 0 rfl rfl
       have c_z1 := bs.at 1 1 rfl rfl
       have f_z1 := bs.fz 1 1 rfl rfl
       have c_z2 := bs.at 1 2 rfl rfl
       have f_z2 := bs.fz 1 2 rfl rfl
       go_wp2_with fail
       clear c_z0 f_z0 c_z1 f_z1 c_z2 f_z2
       obtain ⟨w91, hw91, y91, bs⟩ := bs.sets 1 1 [.slice a5 L5 c5] rfl (Nat.le_of_ble_eq_true rfl)
       replace o_a := o_a.sets (by omega) hw91
       replace o_r := o_r.sets (by omega) hw91
       replace o_v := o_v.sets (by omega) hw91
       obtain ⟨w92, hw92, y92, bs⟩ := bs.sets 1 0 [.slice a2 LA c2, .slice a5 L5 c5, .int .i64 n1] rfl (Nat.le_of_ble_eq_true rfl)
       replace o_a := o_a.sets (by omega) hw92
       replace o_r := o_r.sets (by omega) hw92
       replace o_v := o_v.sets (by omega) hw92
       replace q := bs.q
       simp only [World.setCells] at hw91
       rw [hw91]
       simp only [World.setCells, Nat.reduceAdd] at hw92
       rw [hw92]
       refine bodyPost_ret (ret_co3 rfl rfl rfl rfl (bs.box 1 rfl)) rfl ⟨⟨A2, (a2, c2), N5, (a5, c5), n1⟩, ?_, ?_, ⟨?_, ?_⟩, q⟩
       ·show _ = Ending.returned (.tuple #[.agg #[.slice a2 A2.length c2, .slice a5 N5.length c5, .int .i64 n1], .string ⟨(nmR O.data.toList n).toArray⟩, .int .i64 0])
        rw [HL1.out, HL5.out, HFB.out]
        rfl
       ·show (A2.map AcI.d, N5.map RsI.d, n1) = _
        have e5 : N5.map RsI.d = puO reN (R2.map RsI.d) r3.d := by rw [← HN5.out]; exact puO_map (f := RsI.d) (nm := reN) R2 r3
        rw [HD1.out, e5, HD2.out, HR3.out]
        rfl
       ·show OwL acY _ (.slice a2 A2.length c2) A2 _
        rw [HL1.out]
        exact OwL.mono o_a.own fun g _ hg => by omega
       ·show OwL rsY _ (.slice a5 N5.length c5) N5 _
        rw [HL5.out]
        exact OwL.mono o_v fun g _ hg => by omega
      ·rw [if_neg (show ¬ n1 < mostV from hmn)] at hZ
       have wn : (9007199254740991 : Int) ≤ n1 := by omega
       have hZ2 : (co0, [], 9) = Z := hZ
       subst hZ2
       clear hZ
       have c_c0 := bs.at 0 0 rfl rfl
       have c_c1 := bs.at 0 1 rfl rfl
       have c_c2 := bs.at 0 2 rfl rfl
       go_wp2_with fail
       have hB : w.heap.size + 2 ≤ w5.heap.size := bs.lt _ (List.mem_of_getElem? (i := 1) rfl)
       refine (TW.out w5 q).mono ?_
       rintro e w6 ⟨⟨A2, ⟨a2, c2⟩, R2, ⟨a3, c3⟩, m2⟩, rfl, hd, ⟨ho1, ho2⟩, hb⟩
       simp only [CoI.d, Prod.mk.injEq] at hd
       obtain ⟨hd1, hd2, rfl⟩ := hd
       simp only [CoI.v, CoI.av, CoI.rv] at ho1 ho2 ⊢
       have hl1 : A2.length = A.length := by have := congrArg List.length hd1; simpa using this
       have hl2 : R2.length = R.length := by have := congrArg List.length hd2; simpa using this
       rw [HLA.out] at hl1
       rw [HLR.out] at hl2
       rw [hl1, hl2]
       rw [hl2] at ho1 ho2
       rw [hl1] at ho1
       have o_a : OwU acY (w.heap.size + 2) (.slice a3 LR c3) (.slice a2 LA c2) A2 _ := OwU.of ho1 hB
       have o_r : OwU rsY (w.heap.size + 2) nilV (.slice a3 LR c3) R2 _ := OwU.ofN ho2 hB
       have HD1 := Lib.hid hd1
       have HD2 := Lib.hid hd2
       have HL1 := Lib.hid hl1
       have HL2 := Lib.hid hl2
       clear ho1 ho2 hd1 hd2 hl1 hl2 hB
       clear c_c0 c_c1 c_c2
       replace bs := bs.ret hb
       replace q := bs.q
       clear hb
       have c_c0 := bs.at 0 0 rfl rfl
       have c_c1 := bs.at 0 1 rfl rfl
       have c_c2 := bs.at 0 2 rfl rfl
       have c_z0 := bs.at 1 0 rfl rfl
       have f_z0 := bs.fz 1 0 rfl rfl
       have c_z1 := bs.at 1 1 rfl rfl
       have f_z1 := bs.fz 1 1 rfl rfl
       have c_z2 := bs.at 1 2 rfl rfl
       have f_z2 := bs.fz 1 2 rfl rfl
       go_wp2_with fail
       clear c_c0 c_c1 c_c2 c_z0 f_z0 c_z1 f_z1 c_z2 f_z2
       obtain ⟨w7, hw7, y7, bs⟩ := bs.sets 1 0 [.slice a2 LA c2, .slice a3 LR c3, .int .i64 m2] rfl (Nat.le_of_ble_eq_true rfl)
       replace o_a := o_a.sets (by omega) hw7
       replace o_r := o_r.sets (by omega) hw7
       replace q := bs.q
       simp only [World.setCells, Nat.reduceAdd] at hw7
       rw [hw7]
       have c_c0 := bs.at 0 0 rfl rfl
       have c_c1 := bs.at 0 1 rfl rfl
       have c_c2 := bs.at 0 2 rfl rfl
       have c_z0 := bs.at 1 0 rfl rfl
       have f_z0 := bs.fz 1 0 rfl rfl
       have c_z1 := bs.at 1 1 rfl rfl
       have f_z1 := bs.fz 1 1 rfl rfl
       have c_z2 := bs.at 1 2 rfl rfl
       have f_z2 := bs.fz 1 2 rfl rfl
       go_wp2_with fail
       refine (MD1.out w7 q).mono ?_
       rintro e w8 ⟨rfl, hb⟩
       clear c_c0 c_c1 c_c2 c_z0 f_z0 c_z1 f_z1 c_z2 f_z2
       replace o_a := o_a.ret hb
       replace o_r := o_r.ret hb
       replace bs := bs.ret hb
       replace q := bs.q
       clear hb
       have c_z0 := bs.at 1 0 rfl rfl
       have f_z0 := bs.fz 1 0 rfl rfl
       have c_z1 := bs.at 1 1 rfl rfl
       have f_z1 := bs.fz 1 1 rfl rfl
       have c_z2 := bs.at 1 2 rfl rfl
       have f_z2 := bs.fz 1 2 rfl rfl
       go_wp2_with fail
       clear c_z0 f_z0 c_z1 f_z1 c_z2 f_z2
       obtain ⟨w9, hw9, y9, bs⟩ := bs.sets 1 2 [.int .i64 n1] rfl (Nat.le_of_ble_eq_true rfl)
       replace o_a := o_a.sets (by omega) hw9
       replace o_r := o_r.sets (by omega) hw9
       replace q := bs.q
       simp only [World.setCells] at hw9
       rw [hw9]
       have c_z0 := bs.at 1 0 rfl rfl
       have f_z0 := bs.fz 1 0 rfl rfl
       have c_z1 := bs.at 1 1 rfl rfl
       have f_z1 := bs.fz 1 1 rfl rfl
       have c_z2 := bs.at 1 2 rfl rfl
       have f_z2 := bs.fz 1 2 rfl rfl
       have c_c0 := bs.at 0 0 rfl rfl
       have c_c1 := bs.at 0 1 rfl rfl
       have c_c2 := bs.at 0 2 rfl rfl
       go_wp2_with fail
       clear c_z0 f_z0 c_z1 f_z1 c_z2 f_z2 c_c0 c_c1 c_c2
       obtain ⟨w10, hw10, y10, bs⟩ := bs.sets 1 0 [.slice none 0 0, .slice none 0 0, .int .i64 0] rfl (Nat.le_of_ble_eq_true rfl)
       replace o_a := o_a.sets (by omega) hw10
       replace o_r := o_r.sets (by omega) hw10
       replace q := bs.q
       simp only [World.setCells, Nat.reduceAdd] at hw10
       rw [hw10]
       exact bodyPost_ret (ret_co3 rfl rfl rfl rfl (bs.box 1 rfl)) rfl (bind_no 9 q)
     ·rw [if_neg hl] at hZ
      have wl : (16 : Int) ≤ (LR : Int) := by omega
      have hZ2 : (co0, [], 9) = Z := hZ
      subst hZ2
      clear hZ he
      have c_z0 := bs.at 1 0 rfl rfl
      have f_z0 := bs.fz 1 0 rfl rfl
      have c_z1 := bs.at 1 1 rfl rfl
      have f_z1 := bs.fz 1 1 rfl rfl
      have c_z2 := bs.at 1 2 rfl rfl
      have f_z2 := bs.fz 1 2 rfl rfl
      have c_c0 := bs.at 0 0 rfl rfl
      have c_c1 := bs.at 0 1 rfl rfl
      have c_c2 := bs.at 0 2 rfl rfl
      go_wp2_with fail
      clear c_z0 f_z0 c_z1 f_z1 c_z2 f_z2 c_c0 c_c1 c_c2
      obtain ⟨w6, hw6, y6, bs⟩ := bs.sets 1 0 [.slice none 0 0, .slice none 0 0, .int .i64 0] rfl (Nat.le_of_ble_eq_true rfl)
      replace q := bs.q
      simp only [World.setCells, Nat.reduceAdd] at hw6
      rw [hw6]
      exact bodyPost_ret (ret_co3 rfl rfl rfl rfl (bs.box 1 rfl)) rfl (bind_no 9 q)
end Go.Proofs.YtjgeiieiinmdnaaGreatDoor
