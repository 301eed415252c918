/- roster.seen, (*under).turn. PRINTED BY PROGRAM (gen_romx.py). -/
import Derived.Test.YtfonkblbgadhmaaGreatDoorRoMw
namespace Go.Proofs.YtfonkblbgadhmaaGreatDoor
open Go.RowKit Go.Lib

theorem Sx.ltm {w0 w : World} {bs : Bs} (h : Sx w0 bs w) : ∀ a ∈ bs.map Prod.fst, a < w.heap.size := fun a ha => by
 obtain ⟨b, hb, rfl⟩ := List.mem_map.1 ha
 exact h.lt b hb
theorem OwX.sub {w0 w : World} {ad ad' : List Nat} {e : TypeId} {size n : Nat} {v : Value} {xs : List Value} (h : OwX w0 ad e size v n xs w) (hs : ∀ a ∈ ad', a ∈ ad) : OwX w0 ad' e size v n xs w := ⟨h.1, fun g hg hm => h.2 g hg (hs g hm)⟩
theorem OwnX.sub {w0 w : World} {ad ad' : List Nat} {v : Value} {M : List Im} (h : OwnX w0 ad v M w) (hs : ∀ a ∈ ad', a ∈ ad) : OwnX w0 ad' v M w := ⟨h.1.sub hs, fun q hq => (h.2 q hq).sub hs⟩
theorem OwnX.re {w0 w w' : World} {ad ad1 : List Nat} {v v' : Value} {M M' : List Im} (h : OwnX w0 ad1 v' M' w') (hv : ∀ g, v'.ownBlock = some g → v.ownBlock = some g ∨ w.heap.size ≤ g) (hm : ∀ q ∈ M', (gvI q).ownBlock = none ∨ ∃ q' ∈ M, (gvI q).ownBlock = (gvI q').ownBlock) (ho : OwnX w0 ad v M w) (ha : ∀ a ∈ ad, a < w.heap.size) : OwnX w0 ad v' M' w' := by
 refine ⟨⟨h.1.1, fun g hg hmem => ?_⟩, fun q hq => ⟨(h.2 q hq).1, fun g hg hmem => ?_⟩⟩
 ·rcases hv g hg with h1 | h1
  ·exact ho.1.2 g h1 hmem
  ·have := ha g hmem; omega
 ·rcases hm q hq with h1 | ⟨q', h1, h2⟩
  ·rw [hg] at h1; cases h1
  ·exact (ho.2 q' h1).2 g (h2 ▸ hg) hmem
theorem KpA.up {U : Nat} {r : Option Nat} {w w1 w2 : World} {ad : List Nat} (h : KpA U none w ad w1) (hk : Kpt U r w1 w2) : KpA U r w ad w2 :=
 ⟨⟨Nat.le_trans h.1.1 hk.1, fun j hj h1 h2 => (hk.2 j (Nat.lt_of_lt_of_le hj h.1.1) h1 h2).trans (h.1.2 j hj h1 (fun e => by cases e))⟩, h.2⟩
/-- the call's own boxes alone have turned: all but the first of the list are newer than w. -/
def KpB (w : World) (ad : List Nat) (w' : World) : Prop := Below w.heap.size w w' ∧ ∀ k A, 1 ≤ k → ad[k]? = some A → w.heap.size ≤ A
theorem KpB.start (U : Nat) (w : World) : KpB w [U] w := ⟨Below.refl _ _, fun k A hk h => by
 rcases k with _ | k
 ·omega
 ·simp at h⟩
theorem KpB.ret {w w1 w2 : World} {ad : List Nat} (h : KpB w ad w1) (hb : Below w1.heap.size w1 w2) : KpB w ad w2 := ⟨h.1.trans (hb.mono h.1.size), h.2⟩
theorem KpB.sets {w w1 w2 : World} {ad : List Nat} (h : KpB w ad w1) (k : Nat) {A o : Nat} {vs : List Value} (hk : ad[k]? = some A) (e : w1.setCells A o vs = w2) (h1 : 1 ≤ k := by decide) : KpB w ad w2 := by
 subst e
 exact ⟨below_sets vs h.1 (h.2 k A h1 hk) o, h.2⟩
theorem KpB.alloc {w w1 w2 : World} {ad : List Nat} (h : KpB w ad w1) (A : Nat) (hA : w1.heap.size = A) (hb : Below w1.heap.size w1 w2) : KpB w (ad ++ [A]) w2 := ⟨(h.ret hb).1, fun k B hk hB => by
 rcases Nat.lt_or_ge k ad.length with hl | hl
 ·rw [List.getElem?_append_left hl] at hB
  exact h.2 k B hk hB
 ·rw [List.getElem?_append_right hl] at hB
  have := List.mem_of_getElem? hB
  rw [List.mem_singleton.1 this, ← hA]
  exact h.1.size⟩
theorem KpB.kp {w w1 : World} {ad : List Nat} {U : Nat} (h : KpB w (U :: ad) w1) : KpA U none w (U :: ad) w1 := ⟨⟨h.1.size, fun k hk _ _ => h.1.block k hk⟩, fun a ha => by
 obtain ⟨k, hk, rfl⟩ := List.mem_iff_getElem.1 ha
 rcases k with _ | k
 ·exact .inl rfl
 ·exact .inr (h.2 (k + 1) _ (by omega) (List.getElem?_eq_getElem hk))⟩
theorem below_of {w0 w w' : World} {U : Nat} {r : Option Nat} (hq : Below w0.heap.size w0 w) (hc : Below w0.heap.size w0 w') (kp : Kpt U r w w') : Below w0.heap.size w w' :=
 ⟨hc.os.trans hq.os.symm, hc.tape.trans hq.tape.symm, hc.output.trans hq.output.symm, kp.1, fun k hk => (hc.block k hk).trans (hq.block k hk).symm⟩
theorem Mv.of {w0 w w' : World} {U : Nat} {v v' : Value} {M M' : List Im} (ho : OwnX w0 [U] v M w) (hq : Below w0.heap.size w0 w) (hc : Below w0.heap.size w0 w') (kp : Kpt U v.ownBlock w w') (vb : ∀ g, v'.ownBlock = some g → v.ownBlock = some g ∨ w.heap.size ≤ g) : Mv w0 U v M v' M' w w' :=
 ⟨below_of hq hc kp, kp, vb, fun _ _ _ _ hm h => ⟨own_kept h.1 kp (fun e => h.2 U e hm) (own_apart2 ho.1.1 h.1), h.2⟩⟩
set_option maxHeartbeats 1000000 in
theorem ro_seen_w (j n : ByteArray) (ga : Option Addr) (L ca : Nat) (a b c d k : Bool) (w : World) (ho : k = true → (a && b || c && d) = false) :
  Calls Tryz.prog 81 #[.agg #[.string j, .string n, .slice ga L ca, .bool a, .bool b, .bool c, .bool d, .bool k]] w (Ret w (.tuple #[.string (if k then subName a c else ⟨#[]⟩), .bool (k && b)])) := by
 cases k with
 | false =>
  have q0 := (Below.refl w.heap.size w).alloc (Nat.le_refl _) (.cells #[.string j, .string n, .slice ga L ca, .bool a, .bool b, .bool c, .bool d, .bool false] 31)
  clear ho
  go_enter Tryz.func81, Tryz.ntmps81
  go_wp2_with fail
  go_ret2
  exact ⟨rfl, q0⟩
 | true =>
  have CN := Lib.hid (fun w => sub_Name a b c d w (ho rfl))
  clear ho
  obtain ⟨W0, hW, y0, bs⟩ := Sx.start1 w [.string j, .string n, .slice ga L ca, .bool a, .bool b, .bool c, .bool d, .bool true] 31
  have HW := Lib.hid hW
  clear hW
  have q := bs.q
  go_enter Tryz.func81, Tryz.ntmps81
  go_wp2_with fail
  rw [HW.out]
  refine (CN.out _).mono ?_
  rintro e w1 ⟨rfl, hb⟩
  replace bs := bs.ret hb
  replace q := bs.q
  clear hb
  go_wp2_with fail
  go_ret2
  exact ⟨rfl, q⟩
set_option maxRecDepth 100000 in
theorem ro_seen (p : Im) (w : World) (ho : subMay p.1.s = true) : Calls Tryz.prog 81 #[itA p] w (Ret w (.tuple #[.string ⟨(seenP p.1).1.toArray⟩, .bool (seenP p.1).2])) := by
 have h := ro_seen_w ⟨p.1.j.toArray⟩ ⟨p.1.n.toArray⟩ p.2.1 p.1.g.length p.2.2 p.1.s.1 p.1.s.2.1 p.1.s.2.2.1 p.1.s.2.2.2 p.1.k w (fun _ => subMay_ho ho)
 have e1 : (if p.1.k then subName p.1.s.1 p.1.s.2.2.1 else (⟨#[]⟩ : ByteArray)) = ⟨(seenP p.1).1.toArray⟩ := by
  unfold seenP
  cases p.1.k with
  | false => rfl
  | true =>
   simp only [if_true]
   generalize subName p.1.s.1 p.1.s.2.2.1 = s
   rfl
 have e2 : (p.1.k && p.1.s.2.1) = (seenP p.1).2 := by unfold seenP; cases p.1.k <;> rfl
 rw [e1, e2] at h
 exact h
end Go.Proofs.YtfonkblbgadhmaaGreatDoor
