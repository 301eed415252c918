/- law21: RosterTurns. PRINTED BY PROGRAM (gen_rot.py). -/
import Derived.Test.YtfonkblbgadhmaaGreatDoorRoDh
import Derived.Test.YtfonkblbgadhmaaGreatDoorKq
namespace Go.Proofs.YtfonkblbgadhmaaGreatDoor
open Go.RowKit Go.Lib

theorem grp_cell {v : Value} {g : List (List UInt8)} {w : World} (h : IsGrp v g w) {k : Nat} (hk : k < g.length) : ∃ b off cp, v = .slice (some ⟨b, off, none⟩) g.length cp ∧ b < w.heap.size ∧ k ≤ cp ∧ w.cell? ⟨b, off + k, none⟩ = some (.string ⟨(g[k]).toArray⟩) := by
 obtain ⟨hv, a, cap, hv1, hcap⟩ := h
 obtain ⟨b, off, cp, hf, hb0, hc⟩ := vals_cell' hv (k := k) (by rw [strV_len]; exact hk)
 rw [strV_len] at hf
 refine ⟨b, off, cp, hf, hb0, ?_, ?_⟩
 ·rw [hv1] at hf
  simp only [Value.slice.injEq] at hf
  obtain ⟨_, _, rfl⟩ := hf
  omega
 ·have := hc k (by rw [strV_len]; exact hk)
  have e1 : (strV g)[k]'(by rw [strV_len]; exact hk) = .string ⟨(g[k]).toArray⟩ := by simp [strV]
  rwa [e1] at this
theorem OwnB.alloc {C D : Nat} {v : Value} {M : List Im} {w w' : World} (h : OwnB C D v M w) (A : Nat) (_ : w.heap.size = A) (hb : Below w.heap.size w w') : OwnB C D v M w' := h.ret hb
theorem OwB.alloc {C D n size : Nat} {e : TypeId} {v : Value} {xs : List Value} {w w' : World} (h : OwB C D e size v n xs w) (A : Nat) (_ : w.heap.size = A) (hb : Below w.heap.size w w') : OwB C D e size v n xs w' := h.ret hb
/-- past a callee that writes over blocks from B on, below C. -/
theorem Sx.past {w0 w w' : World} {bs : Bs} {B C : Nat} (h : Sx w0 bs w) (hb : Below B w w') (hc : ∀ k, C ≤ k → w'.heap[k]? = w.heap[k]?) (hB : w0.heap.size ≤ B) (hs : ∀ b ∈ bs, b.1 < B ∨ C ≤ b.1) : Sx w0 bs w' := by
 refine ⟨fun b hm => ⟨?_, (h.bx b hm).2⟩, h.pw, h.q.trans (hb.mono hB)⟩
 rcases hs b hm with h1 | h1
 ·exact (h.bx b hm).1.retB hb h1
 ·exact (h.bx b hm).1.same (hc _ h1)
theorem OwnB.past {B C D E : Nat} {v : Value} {M : List Im} {w w' : World} (h : OwnB D E v M w) (hb : Below B w w') (hc : ∀ k, C ≤ k → w'.heap[k]? = w.heap[k]?) (hs : E ≤ B ∨ C ≤ D) : OwnB D E v M w' := h.keep fun k h1 h2 => by
 rcases hs with h3 | h3
 ·exact hb.block k (by omega)
 ·exact hc k (by omega)
theorem OwB.past {B C D E n size : Nat} {e : TypeId} {v : Value} {xs : List Value} {w w' : World} (h : OwB D E e size v n xs w) (hb : Below B w w') (hc : ∀ k, C ≤ k → w'.heap[k]? = w.heap[k]?) (hs : E ≤ B ∨ C ≤ D) : OwB D E e size v n xs w' := h.keep fun k h1 h2 => by
 rcases hs with h3 | h3
 ·exact hb.block k (by omega)
 ·exact hc k (by omega)
/-- what the laws go through. -/
structure Gd (M : List Im) : Prop where
 s : SmallI M
 l : M.length ≤ 18
 g : ∀ p ∈ M, p.1.g.length ≤ 10
theorem Gd.of {L : List It} {M : List Im} (h : greatP L = false) (hM : M.map Prod.fst = L) : Gd M := by
 obtain ⟨h1, h2⟩ := great_not h
 have hl : M.length ≤ 18 := by rw [← List.length_map (f := Prod.fst), hM]; exact h1
 refine ⟨⟨by omega, fun p hp => ?_⟩, hl, fun p hp => (h2 p.1 (by rw [← hM]; exact List.mem_map_of_mem hp)).2.2.1⟩
 obtain ⟨a, b, c, d⟩ := h2 p.1 (by rw [← hM]; exact List.mem_map_of_mem hp)
 exact ⟨by omega, by omega, by omega, fun x hx => by have := d x hx; omega⟩
/-- what comes out of them: at most one more, and groups of at most 1000. -/
theorem put_bound {L : List It} {x : It} (hL : L.length ≤ 18) (hg : ∀ y ∈ L, y.g.length ≤ 1000) (hx : x.g.length ≤ 1000) : (putL L x).length ≤ 19 ∧ ∀ y ∈ putL L x, y.g.length ≤ 1000 := by
 refine ⟨by rw [put_len]; split <;> omega, fun y hy => ?_⟩
 rcases put_mem y hy with rfl | h
 ·exact hx
 ·exact hg y h
theorem gone_bound {L : List It} {t : List UInt8} (hL : L.length ≤ 18) (hg : ∀ y ∈ L, y.g.length ≤ 1000) : (goneL L t).length ≤ 19 ∧ ∀ y ∈ goneL L t, y.g.length ≤ 1000 := by
 refine ⟨?_, fun y hy => hg y (gone_mem y hy)⟩
 unfold goneL
 split
 ·have := List.length_eraseIdx_le L (posL L t); omega
 ·omega
theorem was_bound {L : List It} {t : List UInt8} (hg : ∀ y ∈ L, y.g.length ≤ 1000) : (wasL L t).g.length ≤ 1000 := by
 unfold wasL
 cases h : findL L t with
 | none => exact Nat.zero_le _
 | some x => exact hg x (find_some h).1
theorem nil_bound : (([] : List It)).length ≤ 19 ∧ ∀ y ∈ ([] : List It), y.g.length ≤ 1000 := ⟨by simp, fun y hy => by cases hy⟩
theorem set_bound {L : List It} {v : Int} {t n : List UInt8} {g : List (List UInt8)} (hL : L.length ≤ 18) (hg : ∀ y ∈ L, y.g.length ≤ 1000) (hx : g.length ≤ 1000) : (setP L v t n g).1.length ≤ 19 ∧ ∀ y ∈ (setP L v t n g).1, y.g.length ≤ 1000 := by
 unfold setP
 split
 ·exact put_bound hL hg hx
 ·exact nil_bound
theorem drop_bound {L : List It} {v : Int} {t : List UInt8} (hL : L.length ≤ 18) (hg : ∀ y ∈ L, y.g.length ≤ 1000) : ((dropP L v t).1.length ≤ 19 ∧ ∀ y ∈ (dropP L v t).1, y.g.length ≤ 1000) ∧ (dropP L v t).2.2.g.length ≤ 1000 := by
 unfold dropP
 split
 ·exact ⟨gone_bound hL hg, was_bound hg⟩
 ·exact ⟨nil_bound, Nat.zero_le _⟩
theorem turn_bound {L : List It} {t : List UInt8} {s : Sb} (hL : L.length ≤ 18) (hg : ∀ y ∈ L, y.g.length ≤ 1000) : (turnL L t s).length ≤ 19 ∧ ∀ y ∈ turnL L t s, y.g.length ≤ 1000 := by
 unfold turnL
 split
 ·exact gone_bound hL hg
 ·exact put_bound hL hg (was_bound hg)
theorem send_bound {L : List It} {v : Int} {t : List UInt8} {k : Int} (hL : L.length ≤ 18) (hg : ∀ y ∈ L, y.g.length ≤ 1000) : (sendP L v t k).1.length ≤ 19 ∧ ∀ y ∈ (sendP L v t k).1, y.g.length ≤ 1000 := by
 unfold sendP
 split
 ·exact turn_bound hL hg
 ·exact nil_bound
theorem take_bound {L : List It} {v : Int} {t : List UInt8} {k : Int} (hL : L.length ≤ 18) (hg : ∀ y ∈ L, y.g.length ≤ 1000) : (takeP L v t k).1.length ≤ 19 ∧ ∀ y ∈ (takeP L v t k).1, y.g.length ≤ 1000 := by
 unfold takeP
 split
 ·exact turn_bound hL hg
 ·exact nil_bound
theorem bnd {L : List It} {M : List Im} (h : L.length ≤ 19 ∧ ∀ y ∈ L, y.g.length ≤ 1000) (hM : M.map Prod.fst = L) : M.length ≤ 10000 ∧ ∀ q ∈ M, q.1.g.length ≤ 10000 := by
 refine ⟨by rw [← List.length_map (f := Prod.fst), hM]; omega, fun q hq => ?_⟩
 have := h.2 q.1 (by rw [← hM]; exact List.mem_map_of_mem hq)
 omega
/-- two lists of the same contacts, compared. -/
theorem same_true {v u : Value} {M K : List Im} {L : List It} {w : World} (hv : IsItems v M w) (hu : IsItems u K w) (hM : M.map Prod.fst = L) (hK : K.map Prod.fst = L) (hb : L.length ≤ 19 ∧ ∀ y ∈ L, y.g.length ≤ 1000) (x : Int) :
  Calls Tryz.prog 20 #[.agg #[v, .int .i64 x], .agg #[u, .int .i64 x]] w (Ret w (.bool true)) := by
 obtain ⟨m1, m2⟩ := bnd hb hM
 obtain ⟨k1, k2⟩ := bnd hb hK
 have h := r21_Same v u M K w hv hu m1 k1 m2 k2 x x
 rw [hM, hK, decide_eq_true rfl, Bool.true_and, beq_self_eq_true] at h
 exact h
theorem own_grp {B n : Nat} {v : Value} {g : List (List UInt8)} {w : World} {e : TypeId} (h : w.ownsRow B e 1 v n (strV g)) (hn : g.length = n) : IsGrp v g w := by subst hn; exact IsGrp.own h
theorem same_item {p p' : Im} {x : It} {w : World} (h : IsGrp (gvI p) p.1.g w) (h' : IsGrp (gvI p') p'.1.g w) (e : p.1 = x) (e' : p'.1 = x) (z : x.g.length ≤ 1000) :
  Calls Tryz.prog 15 #[itA p, itA p'] w (Ret w (.bool true)) := by
 have k := r21_SameItem p p' w h h' (by rw [e]; omega) (by rw [e']; omega)
 rw [e, e', decide_eq_true rfl] at k
 exact k
theorem gd_of {L : List It} (h : greatP L = false) : L.length ≤ 18 ∧ ∀ y ∈ L, y.g.length ≤ 1000 := by
 obtain ⟨h1, h2⟩ := great_not h
 exact ⟨h1, fun y hy => by have := (h2 y hy).2.2.1; omega⟩
theorem set_both {L : List It} (ver : Int) {t nm : List UInt8} {g : List (List UInt8)} (hgr : greatP L = false) (zt : t.length ≤ 500) (zn : nm.length ≤ 500) (zg : g.length ≤ 10) (zx : ∀ x ∈ g, x.length ≤ 500) :
  ∃ S V E, (S.length ≤ 19 ∧ ∀ y ∈ S, y.g.length ≤ 1000) ∧
   (∀ v K u W, K.map Prod.fst = L → IsItems v K W → ML W → IsGrp u g W → Calls Tryz.prog 22 #[.agg #[v, .int .i64 ver], .string ⟨t.toArray⟩, .string ⟨nm.toArray⟩, u] W (RosC W S V E)) ∧
   (∀ v K u W, K.map Prod.fst = L → IsItems v K W → IsGrp u g W → Calls Tryz.prog 28 #[.agg #[v, .int .i64 ver], .string ⟨t.toArray⟩, .string ⟨nm.toArray⟩, u] W (RosC W S V E)) := by
 obtain ⟨b1, b2⟩ := gd_of hgr
 refine ⟨(setP L ver t nm g).1, (setP L ver t nm g).2, setC L ver t nm g, set_bound b1 b2 (show g.length ≤ 1000 by omega), fun v K u W hK h1 h2 h3 => ?_, fun v K u W hK h1 h3 => ?_⟩
 ·subst hK
  exact ro_Set v ver K t nm u g W h1 (Gd.of hgr rfl).s h2 h3 (by omega) (by omega) (by omega) (fun x hx => by have := zx x hx; omega)
 ·subst hK
  exact r21_Set v ver K t nm u g W h1 (Gd.of hgr rfl).s h3 (by omega) (by omega) (by omega) (fun x hx => by have := zx x hx; omega)
theorem drop_both {L : List It} (ver : Int) {t : List UInt8} (hgr : greatP L = false) (zt : t.length ≤ 500) :
  ∃ S V X E, ((S.length ≤ 19 ∧ ∀ y ∈ S, y.g.length ≤ 1000) ∧ X.g.length ≤ 1000) ∧
   (∀ v K W, K.map Prod.fst = L → IsItems v K W → ML W → Calls Tryz.prog 24 #[.agg #[v, .int .i64 ver], .string ⟨t.toArray⟩] W (DroC W S V X E)) ∧
   (∀ v K W, K.map Prod.fst = L → IsItems v K W → Calls Tryz.prog 29 #[.agg #[v, .int .i64 ver], .string ⟨t.toArray⟩] W (DroC W S V X E)) := by
 obtain ⟨b1, b2⟩ := gd_of hgr
 refine ⟨(dropP L ver t).1, (dropP L ver t).2.1, (dropP L ver t).2.2, dropC L ver t, drop_bound b1 b2, fun v K W hK h1 h2 => ?_, fun v K W hK h1 => ?_⟩
 ·subst hK
  exact ro_Drop v ver K t W h1 (Gd.of hgr rfl).s h2 (by omega)
 ·subst hK
  exact r21_Drop v ver K t W h1 (Gd.of hgr rfl).s
theorem send_both {L : List It} (ver : Int) {t : List UInt8} {k : Int} (hgr : greatP L = false) (zt : t.length ≤ 500) (hk0 : 0 ≤ k) (hk1 : k ≤ 255) :
  ∃ S V a b E, (S.length ≤ 19 ∧ ∀ y ∈ S, y.g.length ≤ 1000) ∧
   (∀ v K W, K.map Prod.fst = L → IsItems v K W → ML W → Calls Tryz.prog 23 #[.agg #[v, .int .i64 ver], .string ⟨t.toArray⟩, .int .u8 k] W (SendC W S V a b E)) ∧
   (∀ v K W, K.map Prod.fst = L → IsItems v K W → Calls Tryz.prog 30 #[.agg #[v, .int .i64 ver], .string ⟨t.toArray⟩, .int .u8 k] W (SendC W S V a b E)) := by
 obtain ⟨b1, b2⟩ := gd_of hgr
 refine ⟨(sendP L ver t k).1, (sendP L ver t k).2.1, (sendP L ver t k).2.2.1, (sendP L ver t k).2.2.2, sendC L ver t k, send_bound b1 b2, fun v K W hK h1 h2 => ?_, fun v K W hK h1 => ?_⟩
 ·subst hK
  exact ro_Send v ver K t k W h1 (Gd.of hgr rfl).s h2 (by omega) hk0 hk1
 ·subst hK
  exact r21_Send v ver K t k W h1 (Gd.of hgr rfl).s (by omega)
theorem take_both {L : List It} (ver : Int) {t : List UInt8} {k : Int} (hgr : greatP L = false) (zt : t.length ≤ 500) (hk0 : 0 ≤ k) (hk1 : k ≤ 255) :
  ∃ S V a b c E, (S.length ≤ 19 ∧ ∀ y ∈ S, y.g.length ≤ 1000) ∧
   (∀ v K W, K.map Prod.fst = L → IsItems v K W → ML W → Calls Tryz.prog 25 #[.agg #[v, .int .i64 ver], .string ⟨t.toArray⟩, .int .u8 k] W (TakeC W S V a b c E)) ∧
   (∀ v K W, K.map Prod.fst = L → IsItems v K W → Calls Tryz.prog 31 #[.agg #[v, .int .i64 ver], .string ⟨t.toArray⟩, .int .u8 k] W (TakeC W S V a b c E)) := by
 obtain ⟨b1, b2⟩ := gd_of hgr
 refine ⟨(takeP L ver t k).1, (takeP L ver t k).2.1, (takeP L ver t k).2.2.1, (takeP L ver t k).2.2.2.1, (takeP L ver t k).2.2.2.2, takeC L ver t k, take_bound b1 b2, fun v K W hK h1 h2 => ?_, fun v K W hK h1 => ?_⟩
 ·subst hK
  exact ro_Take v ver K t k W h1 (Gd.of hgr rfl).s h2 (by omega) hk0 hk1
 ·subst hK
  exact r21_Take v ver K t k W h1 (Gd.of hgr rfl).s (by omega)
end Go.Proofs.YtfonkblbgadhmaaGreatDoor
