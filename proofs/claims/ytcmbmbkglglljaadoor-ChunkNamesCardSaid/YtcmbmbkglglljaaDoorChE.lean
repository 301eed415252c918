/- chunk.Decode is the plain machine's run. -/
import Derived.Test.YtcmbmbkglglljaaDoorChD
import Derived.Test.YtcmbmbkglglljaaDoorChG
namespace Go.Proofs.YtcmbmbkglglljaaDoor
open Go.RowKit

theorem results_tmp4 {fn : Func} {t u v x : Tmp} (h : fn.results = #[.tmp t, .tmp u, .tmp v, .tmp x]) (tmps : Array Value) (P : Program) (w : World) :
    (results fn tmps).run P w = .ok (.tuple #[tmps.getD t undef, tmps.getD u undef, tmps.getD v undef, tmps.getD x undef]) w := by
  simp [results, h]
theorem fresh_mach (w : World) : CM.In w.heap.size w.heap.size CM.zero (w.alloc (.cells #[.int .i64 0, .int .i64 0, .int .i64 0, .int .i64 0, .pointer none, .slice none 0 0] 60)) :=
  .inl ⟨Nat.le_refl _, .slice none 0 0, heap_alloc_new w _, World.ownsRow_nil _ _ _ _, by simp [Value.ownBlock], fun _ => rfl⟩
set_option maxHeartbeats 2000000 in
theorem ch_Decode (s : ByteArray) (w : World) (hs : s.size ≤ 9223372036854775807) :
    Calls Tryd.prog 17 #[.string s] w (Ret w (.tuple #[.string ⟨(dcOf s.data.toList).1.toArray⟩, .int .i64 (dcOf s.data.toList).2.1, .bool (dcOf s.data.toList).2.2.1, .int .i64 (dcOf s.data.toList).2.2.2])) := by
  go_enter Tryd.func17, Tryd.ntmps17
  go_wp2_with fail
  go_step3
  go_wp2_with fail
  go_step3
  go_wp2_with fail
  go_loopw [3, 13] (fun u i wr => ∃ (k : Nat) (m : CM), k ≤ s.size ∧ i = .int .i64 k ∧ u = .int .i64 k ∧ CM.zero.run 0 s.data.toList = m.run k (s.data.toList.drop k) ∧ m.Ok ∧ m.st ≤ 6 ∧ m.In w.heap.size w.heap.size wr ∧ Below w.heap.size w wr) (fun _ i _ => s.size - (intOf i).toNat)
  case atStart => exact ⟨0, CM.zero, Nat.zero_le _, rfl, rfl, by simp, zero_ok, by simp [CM.zero], fresh_mach w, by go_grown⟩
  case round =>
    obtain ⟨k, m, hk, rfl, rfl, hrun, hok, h6, hin, hb⟩ := hrel
    have IN := Lib.hid hin
    obtain ⟨q, hq, hin'⟩ := IsM.at hin
    obtain ⟨c0, c1, c2, c3, f0, f1, f2, f3⟩ := hin'.facts
    clear hin hin' hq
    by_cases hlt : k < s.size
    · have hc : s.data.toList.drop k = s[k] :: s.data.toList.drop (k + 1) := by
        rw [List.drop_eq_getElem_cons (by simpa using hlt)]
        rfl
      rw [hc] at hrun
      have T := mc_take w.heap.size w.heap.size m hok h6 s[k] wr IN.out (by have := hb.size; simpa using this)
      unfold TakeIs at T
      obtain ⟨e, he⟩ : ∃ e, (m.take s[k]).2 = e := ⟨_, rfl⟩
      rw [he] at T
      by_cases h0 : e = 0
      · subst h0
        have hok' := take_keeps hok he
        have TT := Lib.hid T
        clear T
        by_cases h7 : (m.take s[k]).1.st = 7
        · have hd : dcOf s.data.toList = ((m.take s[k]).1.body, k + 1, true, 0) := by
            unfold dcOf
            rw [hrun]
            simp only [CM.run]
            rw [if_neg (by rw [he]; simp), if_pos h7]
          have HD := Lib.hid hd
          obtain ⟨m', hm'⟩ : ∃ m', (m.take s[k]).1 = m' := ⟨_, rfl⟩
          rw [hm'] at h7 HD TT
          clear hd hrun hc hok' he hm'
          obtain ⟨st', sz', mn', sn', body'⟩ := m'
          simp only at h7
          subst h7
          go_wp2_with fail
          refine TT.out.mono ?_
          rintro e' w1 ⟨rfl, hin1, hb1⟩
          have hin2 := hin1 (by simp)
          obtain ⟨q1, hq1, hin3⟩ := IsM.at hin2
          obtain ⟨d0, d1, d2, d3, g0, g1, g2, g3⟩ := hin3.facts
          have d0' : w1.cell? ⟨w.heap.size, 0, none⟩ = some (.int .i64 7) := d0
          have IN2 := Lib.hid hin2
          clear hin1 hin2 hin3 hq1 d0
          go_wp2_with fail
          refine (mc_String_any w.heap.size w.heap.size _ _ _ _ body' w1 IN2.out).mono ?_
          rintro e2 w2 ⟨rfl, hb2⟩
          go_wp2_with fail
          (try rw [Exit.noGoto_ret])
          (try simp only [Exit.inBlock, Exit.then])
          refine bodyPost_ret (results_tmp4 rfl _ _ _) rfl ?_
          rw [HD.out]
          exact ⟨rfl, (hb.trans hb1).trans hb2⟩
        · have hr2 : CM.zero.run 0 s.data.toList = (m.take s[k]).1.run (k + 1) (s.data.toList.drop (k + 1)) := by
            rw [hrun]
            simp only [CM.run]
            rw [if_neg (by rw [he]; simp), if_neg h7]
          have h7' : (m.take s[k]).1.st ≤ 6 := by have := hok'.st; omega
          have HR := Lib.hid hr2
          obtain ⟨m', hm'⟩ : ∃ m', (m.take s[k]).1 = m' := ⟨_, rfl⟩
          rw [hm'] at hok' h7' HR TT
          have g7 : ((m'.st : Int) == 7) = false := by apply beq_false_of_ne; omega
          clear hr2 hrun hc h7
          go_wp2_with fail
          refine TT.out.mono ?_
          rintro e' w1 ⟨rfl, hin1, hb1⟩
          have hin2 := hin1 (by simp)
          obtain ⟨q1, hq1, hin3⟩ := IsM.at hin2
          obtain ⟨d0, d1, d2, d3, g0, g1, g2, g3⟩ := hin3.facts
          have IN2 := Lib.hid hin2
          clear hin1 hin2 hin3 hq1
          go_wp2_with fail
          go_roundw
          case rel => exact ⟨k + 1, m', by omega, by go_num, by go_num, HR.out, hok', h7', IN2.out, hb.trans hb1⟩
          case measure => simp [intOf]; omega
      · have hd : dcOf s.data.toList = ([], 0, false, e) := by
          unfold dcOf
          rw [hrun]
          simp only [CM.run]
          rw [if_pos (by rw [he]; exact h0), he]
        have HD := Lib.hid hd
        have TT := Lib.hid T
        have HRUN := Lib.hid hrun
        clear T hd hrun hc
        have h0' : (e == 0) = false := by simpa using h0
        go_wp2_with fail
        refine TT.out.mono ?_
        rintro e' w1 ⟨rfl, _, hb1⟩
        go_wp2_with fail
        (try rw [Exit.noGoto_ret])
        (try simp only [Exit.inBlock, Exit.then])
        refine bodyPost_ret (results_tmp4 rfl _ _ _) rfl ?_
        rw [HD.out]
        exact ⟨rfl, hb.trans hb1⟩
    · obtain rfl : k = s.size := by omega
      have hd : dcOf s.data.toList = ([], 0, false, 0) := by
        unfold dcOf
        rw [hrun, List.drop_eq_nil_of_le (by simp)]
        rfl
      have HD := Lib.hid hd
      clear hd hrun
      have g7 : ((m.st : Int) == 7) = false := by apply beq_false_of_ne; omega
      go_wp2_with fail
      (try simp only [Exit.inBlock, Exit.then])
      refine bodyPost_ret (results_tmp4 rfl _ _ _) rfl ?_
      rw [HD.out]
      exact ⟨rfl, hb⟩
end Go.Proofs.YtcmbmbkglglljaaDoor
