/- Requests, one behind the other: the plain laws, and wire.requests' iterator. -/
import Derived.Test.YthgmgmbjjjnhnaaGreatDoorWiD
import Derived.Test.YthgmgmbjjjnhnaaGreatDoorGc
import Derived.Test.YthgmgmbjjjnhnaaGreatDoorGc
namespace Go.Proofs.YthgmgmbjjjnhnaaGreatDoor
open Go.RowKit

attribute [local go_sem] Oper.semAt_some

/-- What comes of a text's beginning, and how many bytes it takes. -/
def wiX (s : List UInt8) : Option (Cm × Nat) := match wiO s with
  | .more => none
  | .bad st => some ((st, [], [], false), s.length)
  | .done h b k n => some ((200, h, b, k), n)
theorem wiO_nil : wiO [] = .more := by kernel_rfl
theorem wiX_lt {s : List UInt8} {c : Cm} {n : Nat} (h : wiX s = some (c, n)) : 0 < n ∧ n ≤ s.length := by
  unfold wiX at h
  cases ho : wiO s with
  | more => rw [ho] at h; cases h
  | bad st =>
    rw [ho] at h
    injection h with h
    injection h with _ h
    subst h
    refine ⟨?_, Nat.le_refl _⟩
    cases s with
    | nil => rw [wiO_nil] at ho; cases ho
    | cons a l => simp
  | done hh b k m =>
    rw [ho] at h
    injection h with h
    injection h with _ h
    subst h
    exact wiO_done ho
abbrev It := Cm × List UInt8
def wiI : Nat → List UInt8 → List It
  | 0, _ => []
  | f + 1, s => match wiX s with
    | none => []
    | some (c, n) => (c, s.drop n) :: wiI f (s.drop n)
def wiIt (s : List UInt8) : List It := wiI (s.length + 1) s
theorem wiI_fuel : ∀ (f g : Nat) (s : List UInt8), s.length < f → s.length < g → wiI f s = wiI g s
  | 0, _, _, h, _ => by omega
  | _ + 1, 0, _, _, h => by omega
  | f + 1, g + 1, s, hf, hg => by
    unfold wiI
    cases hw : wiX s with
    | none => rfl
    | some x =>
      obtain ⟨c, n⟩ := x
      have := wiX_lt hw
      simp only
      rw [wiI_fuel f g (s.drop n) (by rw [List.length_drop]; omega) (by rw [List.length_drop]; omega)]
theorem wiIt_none {s : List UInt8} (h : wiX s = none) : wiIt s = [] := by
  unfold wiIt wiI
  rw [h]
theorem wiIt_some {s : List UInt8} {c : Cm} {n : Nat} (h : wiX s = some (c, n)) : wiIt s = (c, s.drop n) :: wiIt (s.drop n) := by
  have := wiX_lt h
  unfold wiIt
  conv => lhs; unfold wiI
  rw [h]
  simp only
  rw [wiI_fuel s.length ((s.drop n).length + 1) (s.drop n) (by rw [List.length_drop]; omega) (by omega)]
theorem wiIt_len : ∀ (N : Nat) (s : List UInt8), s.length ≤ N → (wiIt s).length ≤ s.length := by
  intro N
  induction N with
  | zero =>
    intro s hs
    cases hw : wiX s with
    | none => rw [wiIt_none hw]; simp
    | some x => obtain ⟨c, n⟩ := x; have := wiX_lt hw; omega
  | succ N ih =>
    intro s hs
    cases hw : wiX s with
    | none => rw [wiIt_none hw]; simp
    | some x =>
      obtain ⟨c, n⟩ := x
      have h1 := wiX_lt hw
      have h2 := ih (s.drop n) (by rw [List.length_drop]; omega)
      rw [wiIt_some hw, List.length_cons]
      rw [List.length_drop] at h2
      omega
/-- Does the connection go on? -/
def goes (x : It) : Bool := decide (x.1.1 = 200) && x.1.2.2.2
def restAt (s : List UInt8) : List It → List UInt8
  | [] => s
  | x :: l => restAt x.2 l
theorem restAt_snoc (x : It) : ∀ (l : List It) (s : List UInt8), restAt s (l ++ [x]) = x.2
  | [], _ => rfl
  | y :: l, _ => restAt_snoc x l y.2
theorem goes_done {s : List UInt8} {c : Cm} {n : Nat} {r : List UInt8} (h : wiX s = some (c, n)) (hg : goes (c, r) = true) : wiO s = .done c.2.1 c.2.2.1 true n ∧ c = (200, c.2.1, c.2.2.1, true) := by
  unfold wiX at h
  unfold goes at hg
  rw [Bool.and_eq_true, decide_eq_true_eq] at hg
  cases ho : wiO s with
  | more => rw [ho] at h; cases h
  | bad st =>
    rw [ho] at h
    injection h with h
    injection h with h _
    subst h
    exact absurd hg.1 (wiO_bad ho)
  | done hh b k m =>
    rw [ho] at h
    injection h with h
    injection h with h1 h2
    subst h1 h2
    have hk : k = true := hg.2
    subst hk
    exact ⟨rfl, rfl⟩
theorem wiR_all : ∀ (N : Nat) (s : List UInt8), s.length ≤ N → (∀ x ∈ wiIt s, goes x = true) → wiR s = ((wiIt s).map (·.1), some (restAt s (wiIt s))) := by
  intro N
  induction N with
  | zero =>
    intro s hs h
    cases hw : wiX s with
    | none =>
      rw [wiIt_none hw]
      have : wiO s = .more := by
        unfold wiX at hw
        cases ho : wiO s with
        | more => rfl
        | bad st => rw [ho] at hw; cases hw
        | done => rw [ho] at hw; cases hw
      exact wiR_more this
    | some x => obtain ⟨c, n⟩ := x; have := wiX_lt hw; omega
  | succ N ih =>
    intro s hs h
    cases hw : wiX s with
    | none =>
      rw [wiIt_none hw]
      have : wiO s = .more := by
        unfold wiX at hw
        cases ho : wiO s with
        | more => rfl
        | bad st => rw [ho] at hw; cases hw
        | done => rw [ho] at hw; cases hw
      exact wiR_more this
    | some x =>
      obtain ⟨c, n⟩ := x
      have h1 := wiX_lt hw
      rw [wiIt_some hw] at h ⊢
      obtain ⟨h2, h3⟩ := goes_done hw (h _ (List.mem_cons_self ..))
      rw [wiR_done h2, ih (s.drop n) (by rw [List.length_drop]; omega) (fun x hx => h x (List.mem_cons_of_mem _ hx)), List.map_cons]
      conv => rhs; rw [h3]
      rfl
theorem wiR_stop (x : It) (hx : goes x = false) : ∀ (pre : List It) (s : List UInt8), pre ++ [x] <+: wiIt s → (∀ y ∈ pre, goes y = true) → wiR s = ((pre ++ [x]).map (·.1), none)
  | [], s, hp, _ => by
    cases hw : wiX s with
    | none => rw [wiIt_none hw] at hp; have := hp.length_le; simp at this
    | some z =>
      obtain ⟨c, n⟩ := z
      rw [wiIt_some hw] at hp
      have hxe : x = (c, s.drop n) := by
        obtain ⟨t, ht⟩ := hp
        rw [List.nil_append, List.cons_append] at ht
        injection ht
      subst hxe
      unfold wiX at hw
      unfold goes at hx
      cases ho : wiO s with
      | more => rw [ho] at hw; cases hw
      | bad st =>
        rw [ho] at hw
        injection hw with hw
        injection hw with hw _
        rw [wiR_bad ho, ← hw]
        rfl
      | done hh b k m =>
        rw [ho] at hw
        injection hw with hw
        injection hw with hw _
        rw [← hw] at hx ⊢
        have hk : k = false := by simpa using hx
        subst hk
        rw [wiR_last ho]
        rfl
  | y :: pre, s, hp, hg => by
    cases hw : wiX s with
    | none => rw [wiIt_none hw] at hp; have := hp.length_le; simp at this
    | some z =>
      obtain ⟨c, n⟩ := z
      rw [wiIt_some hw] at hp
      obtain ⟨t, ht⟩ := hp
      rw [List.cons_append, List.cons_append] at ht
      injection ht with h1 h2
      have hy := hg y (List.mem_cons_self ..)
      rw [h1] at hy
      obtain ⟨h3, h4⟩ := goes_done hw hy
      rw [wiR_done h3, wiR_stop x hx pre (s.drop n) ⟨t, h2⟩ (fun z hz => hg z (List.mem_cons_of_mem _ hz)), h1, List.cons_append, List.map_cons]
      conv => rhs; rw [h4]
/-! ### The iterator -/
def encW (x : It) : Array Value := #[cmV x.1, .string ⟨x.2.toArray⟩]
theorem oneV_X {s : List UInt8} {c : Cm} {n : Nat} (h : wiX s = some (c, n)) : oneV s = .tuple #[cmV c, .int .i64 n, .bool false] := by
  unfold wiX at h
  unfold oneV
  cases ho : wiO s with
  | more => rw [ho] at h; cases h
  | bad st =>
    rw [ho] at h
    injection h with h
    injection h with h1 h2
    rw [← h1, ← h2]
  | done hh b k m =>
    rw [ho] at h
    injection h with h
    injection h with h1 h2
    rw [← h1, ← h2]
theorem oneV_N {s : List UInt8} (h : wiX s = none) : oneV s = .tuple #[cm0, .int .i64 0, .bool true] := by
  unfold wiX at h
  unfold oneV
  cases ho : wiO s with
  | more => rfl
  | bad st => rw [ho] at h; cases h
  | done hh b k m => rw [ho] at h; cases h
set_option maxRecDepth 100000 in
set_option maxHeartbeats 8000000 in
theorem requests1_seq (B : Nat) (s : ByteArray) (w : World) (hs : s.size ≤ 1000000) (hbox : Boxed w B 9 (.string s)) :
    SeqG Tryz.prog 74 #[.pointer (some ⟨B, 0, none⟩)] encW B (fun xs => xs = wiIt s.data.toList) (fun pre => pre <+: wiIt s.data.toList) (wiIt s.data.toList).length ML (fun _ => True) w := by
  intro l J Jx W hb hJ hJx hG hY h0
  have hbW : Boxed W B 9 (.string s) := boxed_below hbox hb
  have HY := Lib.hid hY
  have HJ := Lib.hid hJ
  have HG := Lib.hid hG
  clear hY hJ hb hbox hJx hG
  refine callsIn_of_wp Tryz.func74 rfl trivial ?_ rfl
  simp only [Tryz.ntmps74, List.size_toArray, List.length_cons, List.length_nil, Nat.reduceAdd, Nat.reduceSub, Array.replicate_succ, Array.replicate_zero, List.push_toArray, List.append_toArray, List.nil_append, List.cons_append]
  gi_wp2_with fail
  gi_loopw [3] (fun _ wr => ∃ (pre : List It) (r : ByteArray), Boxed wr B 9 (.string r) ∧ wiIt s.data.toList = pre ++ wiIt r.data.toList ∧ r.size ≤ 1000000 ∧ J pre wr) (fun _ wr => boxLen B wr)
  case atStart => exact ⟨[], s, hbW, rfl, hs, h0⟩
  case round =>
    obtain ⟨pre, r, hbx, hp, hr, hJs⟩ := hrel
    have hc := hbx.cell
    have HBX := Lib.hid hbx
    have HP := Lib.hid hp
    have HJS := Lib.hid hJs
    have O0 := wi_One r wr hr (HG.out pre wr hJs)
    clear hp hJs hbx hbW h0
    cases hx : wiX r.data.toList with
    | none =>
      rw [oneV_N hx] at O0
      have he : wiIt s.data.toList = pre := by rw [HP.out, wiIt_none hx]; simp
      have HE := Lib.hid he
      have OH := Lib.hid O0
      clear O0 hx he
      gi_wp2_with fail
      refine ⟨trivial, callsIn_wide.2 (OH.out.mono ?_)⟩
      rintro e w1 ⟨rfl, hb1⟩
      have hb2 : Below wr.heap.size wr (w1.alloc (.cells #[.int .i64 0, .string ⟨#[]⟩, .string ⟨#[]⟩, .bool false] 40)) := hb1.alloc hb1.size _
      have HJ2 := Lib.hid (HJ.out pre wr _ none HJS.out (grown_of_below hb2 _) (fun r e => by cases e))
      clear hb1 hb2
      gi_wp2_with fail
      refine bodyPost_ret (results_none rfl _ _ _) rfl ?_
      exact ⟨⟨_, rfl⟩, .inl ⟨_, rfl, by rw [HE.out]; exact HJ2.out⟩⟩
    | some x =>
      obtain ⟨c, n⟩ := x
      have hn := wiX_lt hx
      have hstep := wiIt_some hx
      rw [oneV_X hx] at O0
      rw [size_toList] at hn
      obtain ⟨Y, hY⟩ : ∃ Y : ByteArray, r.extract n r.size = Y := ⟨_, rfl⟩
      have hYl : Y.data.toList = r.data.toList.drop n := by rw [← hY, ext_tail]
      have hYs : Y.size < r.size := by rw [← size_toList, hYl, List.length_drop, size_toList]; omega
      have hstr : (⟨(r.data.toList.drop n).toArray⟩ : ByteArray) = Y := by rw [← hYl, str_mk]
      rw [← hYl] at hstep
      obtain ⟨st, ho, bd, kp⟩ := c
      obtain ⟨HH, hHH⟩ : ∃ Y : ByteArray, ⟨ho.toArray⟩ = Y := ⟨_, rfl⟩
      obtain ⟨BB, hBB⟩ : ∃ Y : ByteArray, ⟨bd.toArray⟩ = Y := ⟨_, rfl⟩
      have hsome : wiIt s.data.toList = pre ++ (((st, ho, bd, kp), Y.data.toList) :: wiIt Y.data.toList) := by rw [HP.out, hstep]
      have HSM := Lib.hid hsome
      simp only [cmV, hHH, hBB] at O0
      have OH := Lib.hid O0
      have HYE := Lib.hid hY
      have g1 : (n : Int) ≤ r.size := by omega
      have g2 : (0 : Int) ≤ (n : Int) := by omega
      have g3 : n ≤ r.size := hn.2
      clear O0 hx hstep hsome hY hYl hstr hn
      gi_wp2_with fail
      refine ⟨trivial, callsIn_wide.2 (OH.out.mono ?_)⟩
      rintro e w1 ⟨rfl, hb1⟩
      have hb2 : Below wr.heap.size wr (w1.alloc (.cells #[.int .i64 st, .string HH, .string BB, .bool kp] 40)) := hb1.alloc hb1.size _
      have hbx1 := boxed_below HBX.out hb1
      have hc1 := hbx1.cell
      have hf1 := hbx1.frozen
      have hlt1 := hbx1.lt
      have HJ1 := Lib.hid (HJ.out pre wr _ none HJS.out (grown_of_below hb1 _) (fun r e => by cases e))
      have HJ2 := Lib.hid (HJ.out pre _ _ (some B) HJ1.out (grownBy_setCell' _ _ (.string Y)) (fun r e => by cases e; rfl))
      have HJ3 := Lib.hid (HJ.out pre _ _ none HJ2.out (World.grownBy_alloc _ (.cells #[.int .i64 st, .string HH, .string BB, .bool kp] 40) none) (fun r e => by cases e))
      have HBX3 := Lib.hid ((hbx1.set (.string Y)).alloc (.cells #[.int .i64 st, .string HH, .string BB, .bool kp] 40))
      have hn3 : B ≠ w1.heap.size := by omega
      have hn4 : w1.heap.size ≠ B := by omega
      clear hb1 hb2 hbx1
      obtain ⟨fn, tmps, assign, body, hy, hR⟩ := HY.out pre ((st, ho, bd, kp), Y.data.toList) _ HJ3.out (by rw [HSM.out]; simp) trivial
      have HR := Lib.hid hR
      clear hR
      unfold encW at hy
      simp only [cmV, hHH, hBB, str_mk] at hy
      have hYe := HYE.out
      subst hYe
      gi_wp2_with fail
      refine HR.out.mono ?_
      rintro e w4 (⟨rfl, hJ4, hk4⟩ | ⟨rfl, hJ4⟩)
      · have hbx4 : Boxed w4 B 9 (.string (r.extract n r.size)) := hk4.2.trans HBX3.out
        have HBX4 := Lib.hid hbx4
        have HJ4 := Lib.hid hJ4
        clear hbx4 hJ4
        gi_wp2_with fail
        go_roundw
        case rel => exact ⟨pre ++ [((st, ho, bd, kp), (r.extract n r.size).data.toList)], r.extract n r.size, HBX4.out, by rw [HSM.out]; exact List.append_cons .., by omega, HJ4.out⟩
        case measure =>
          rw [boxLen_eq HBX4.out, boxLen_eq HBX.out]
          exact hYs
      · have HJ4 := Lib.hid hJ4
        clear hJ4
        gi_wp2_with fail
        refine bodyPost_ret (results_none rfl _ _ _) rfl ?_
        exact ⟨⟨_, rfl⟩, .inr ⟨pre ++ [((st, ho, bd, kp), (r.extract n r.size).data.toList)], ⟨wiIt (r.extract n r.size).data.toList, by rw [HSM.out]; exact (List.append_cons ..).symm⟩, HJ4.out⟩⟩
/-- requests: the string boxed, and the iterator over that box. -/
theorem wi_requests (s : ByteArray) (w : World) : Calls Tryz.prog 35 #[.string s] w (fun e w' => e = .returned (.func (.func 74) #[] #[.pointer (some ⟨w.heap.size, 0, none⟩)]) ∧ w' = w.alloc (.cells #[.string s] 9)) := by
  go_enter Tryz.func35, Tryz.ntmps35
  go_wp2_with fail
  go_ret
  exact ⟨rfl, rfl⟩
end Go.Proofs.YthgmgmbjjjnhnaaGreatDoor
