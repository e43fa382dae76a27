/- What CpuDoes makes of it. -/
import Derived.Test.YtbkfnbnechpolaaDoorC08
import Derived.Test.YtbkfnbnechpolaaDoorC09
import Derived.Test.YtbkfnbnechpolaaDoorC12
import Derived.Test.YtbkfnbnechpolaaDoorC13
import Derived.Test.YtbkfnbnechpolaaDoorC14
import Derived.Test.YtbkfnbnechpolaaDoorAmArg
set_option linter.unusedVariables false
set_option linter.unusedSimpArgs false
namespace Go.Am
open Go Go.Proofs
set_option linter.unusedSimpArgs false
set_option linter.unusedVariables false
set_option maxHeartbeats 8000000
set_option maxRecDepth 100000
attribute [local irreducible] aC aL thenQ blockQ scopeQ ALoop AWp

theorem frm_none {op : Int} (h : op < 1 ∨ 17 < op) : frm op = ([], []) := by
  simp [frm, show op ≠ 1 by omega, show op ≠ 2 by omega, show op ≠ 3 by omega, show op ≠ 4 by omega, show op ≠ 5 by omega, show op ≠ 6 by omega, show op ≠ 7 by omega, show op ≠ 8 by omega, show op ≠ 9 by omega,
    show op ≠ 10 by omega, show op ≠ 11 by omega, show op ≠ 12 by omega, show op ≠ 13 by omega, show op ≠ 14 by omega, show op ≠ 15 by omega, show op ≠ 16 by omega, show op ≠ 17 by omega]

theorem reg_range {p : List UInt8} {c : UInt8} {n : Int} (h : RegOk p c n) : 0 ≤ n ∧ n < 8 := by
  unfold RegOk at h
  omega

theorem do_both (L : List Int) (op d a b imm ld : Int) (hL : L.length = 9) (hw : ∀ n ∈ L, 0 ≤ n ∧ n ≤ 18446744073709551615) (h0 : -9223372036854775808 ≤ imm) (h1 : imm ≤ 9223372036854775807) :
    ∃ (L' : List Int) (k n : Int), L'.length = 9 ∧ APure cx 15 [.agg (ws L), .agg [.int .i64 op, .int .i64 d, .int .i64 a, .int .i64 b, .int .i64 imm], .int .u64 ld] (.tup [.agg (ws L'), .agg [.int .i64 k, .int .i64 n]]) ∧
      APure cx 16 [.agg (ws L), .agg [.int .i64 op, .int .i64 d, .int .i64 a, .int .i64 b, .int .i64 imm], .int .u64 ld] (.tup [.agg (ws L'), .agg [.int .i64 k, .int .i64 n]]) := by
  obtain ⟨c1, c2, c3, c4, c5, c6, c7, c8⟩ := cpu_do_a L d a b imm ld hL h0 h1
  obtain ⟨c9, c10, c11, c12, c13, c14t, c14f, c15, c16, c17, cno⟩ := cpu_do_b L d a b imm ld hL h0 h1
  obtain ⟨r1, r2, r3, r4, r5, r6, r7, r8⟩ := ref_do_a L d a b imm ld hL h0 h1
  obtain ⟨r9, r10, r11, r12, r13, r14t, r14f, r15, r16, r17, rno⟩ := ref_do_b L d a b imm ld hL h0 h1
  by_cases hm : MayF op d a b imm (frm op).1 (frm op).2
  · have hm' := hm
    obtain ⟨hne, hd, ha, hb, _⟩ := hm'
    obtain ⟨d0, d8⟩ := reg_range hd
    obtain ⟨a0, a8⟩ := reg_range ha
    obtain ⟨b0, b8⟩ := reg_range hb
    have hbm : 0 ≤ L.getD b.toNat 0 ∧ L.getD b.toNat 0 ≤ 18446744073709551615 := by
      have hk : b.toNat < L.length := by omega
      rw [getD_pos L 0 b.toNat hk]
      exact hw _ (List.getElem_mem hk)
    obtain ⟨bn, bm⟩ := hbm
    rcases ops_cases op with (rfl | rfl | rfl | rfl | rfl | rfl | rfl | rfl | rfl | rfl | rfl | rfl | rfl | rfl | rfl | rfl | rfl) | h
    · exact ⟨_, _, _, by simp [hL], c1 d0 d8 a0 a8 b0 b8 bn bm hm, r1 d0 d8 a0 a8 b0 b8 bn bm hm⟩
    · exact ⟨_, _, _, by simp [hL], c2 d0 d8 a0 a8 b0 b8 bn bm hm, r2 d0 d8 a0 a8 b0 b8 bn bm hm⟩
    · exact ⟨_, _, _, by simp [hL], c3 d0 d8 a0 a8 b0 b8 bn bm hm, r3 d0 d8 a0 a8 b0 b8 bn bm hm⟩
    · exact ⟨_, _, _, by simp [hL], c4 d0 d8 a0 a8 b0 b8 bn bm hm, r4 d0 d8 a0 a8 b0 b8 bn bm hm⟩
    · exact ⟨_, _, _, by simp [hL], c5 d0 d8 a0 a8 b0 b8 bn bm hm, r5 d0 d8 a0 a8 b0 b8 bn bm hm⟩
    · exact ⟨_, _, _, by simp [hL], c6 d0 d8 a0 a8 b0 b8 bn bm hm, r6 d0 d8 a0 a8 b0 b8 bn bm hm⟩
    · exact ⟨_, _, _, by simp [hL], c7 d0 d8 a0 a8 b0 b8 bn bm hm, r7 d0 d8 a0 a8 b0 b8 bn bm hm⟩
    · exact ⟨_, _, _, by simp [hL], c8 d0 d8 a0 a8 b0 b8 bn bm hm, r8 d0 d8 a0 a8 b0 b8 bn bm hm⟩
    · exact ⟨_, _, _, by simp [hL], c9 d0 d8 a0 a8 b0 b8 bn bm hm, r9 d0 d8 a0 a8 b0 b8 bn bm hm⟩
    · exact ⟨_, _, _, by simp [hL], c10 d0 d8 a0 a8 b0 b8 bn bm hm, r10 d0 d8 a0 a8 b0 b8 bn bm hm⟩
    · exact ⟨_, _, _, by simp [hL], c11 d0 d8 a0 a8 b0 b8 bn bm hm, r11 d0 d8 a0 a8 b0 b8 bn bm hm⟩
    · exact ⟨_, _, _, by simp [hL], c12 d0 d8 a0 a8 b0 b8 bn bm hm, r12 d0 d8 a0 a8 b0 b8 bn bm hm⟩
    · exact ⟨_, _, _, by simp [hL], c13 d0 d8 a0 a8 b0 b8 bn bm hm, r13 d0 d8 a0 a8 b0 b8 bn bm hm⟩
    · by_cases hz : L.getD a.toNat 0 = 0
      · exact ⟨_, _, _, by simp [hL], c14f d0 d8 a0 a8 b0 b8 bn bm hm hz, r14f d0 d8 a0 a8 b0 b8 bn bm hm hz⟩
      · exact ⟨_, _, _, by simp [hL], c14t d0 d8 a0 a8 b0 b8 bn bm hm hz, r14t d0 d8 a0 a8 b0 b8 bn bm hm hz⟩
    · exact ⟨_, _, _, by simp [hL], c15 d0 d8 a0 a8 b0 b8 bn bm hm, r15 d0 d8 a0 a8 b0 b8 bn bm hm⟩
    · exact ⟨_, _, _, by simp [hL], c16 d0 d8 a0 a8 b0 b8 bn bm hm, r16 d0 d8 a0 a8 b0 b8 bn bm hm⟩
    · exact ⟨_, _, _, hL, c17 d0 d8 a0 a8 b0 b8 bn bm hm, r17 d0 d8 a0 a8 b0 b8 bn bm hm⟩
    · rw [frm_none h] at hne
      exact absurd rfl hne
  · exact ⟨L, 3, 0, hL, cno op hm, rno op hm⟩

theorem needs_both (L : List Int) (op d a b imm : Int) (hL : L.length = 9) (hw : ∀ n ∈ L, 0 ≤ n ∧ n ≤ 18446744073709551615) (h0 : -9223372036854775808 ≤ imm) (h1 : imm ≤ 9223372036854775807) :
    ∃ k x y : Int, APure cx 17 [.agg (ws L), .agg [.int .i64 op, .int .i64 d, .int .i64 a, .int .i64 b, .int .i64 imm]] (.agg [.int .i64 k, .int .u64 x, .int .u64 y]) ∧
      APure cx 18 [.agg (ws L), .agg [.int .i64 op, .int .i64 d, .int .i64 a, .int .i64 b, .int .i64 imm]] (.agg [.int .i64 k, .int .u64 x, .int .u64 y]) := by
  obtain ⟨cl, cs, cn, co⟩ := cpu_needs L d a b imm hL h0 h1
  obtain ⟨rl, rs, rn, ro⟩ := ref_needs L d a b imm hL h0 h1
  by_cases hm : MayF op d a b imm (frm op).1 (frm op).2
  · have hm' := hm
    obtain ⟨hne, hd, ha, hb, _⟩ := hm'
    obtain ⟨d0, d8⟩ := reg_range hd
    obtain ⟨a0, a8⟩ := reg_range ha
    obtain ⟨b0, b8⟩ := reg_range hb
    have hbm : 0 ≤ L.getD b.toNat 0 ∧ L.getD b.toNat 0 ≤ 18446744073709551615 := by
      have hk : b.toNat < L.length := by omega
      rw [getD_pos L 0 b.toNat hk]
      exact hw _ (List.getElem_mem hk)
    obtain ⟨bn, bm⟩ := hbm
    by_cases h11 : op = 11
    · subst h11
      exact ⟨_, _, _, cl d0 d8 a0 a8 b0 b8 bn bm hm, rl d0 d8 a0 a8 b0 b8 bn bm hm⟩
    · by_cases h12 : op = 12
      · subst h12
        exact ⟨_, _, _, cs d0 d8 a0 a8 b0 b8 bn bm hm, rs d0 d8 a0 a8 b0 b8 bn bm hm⟩
      · exact ⟨_, _, _, cn op d0 d8 a0 a8 b0 b8 bn bm hm h11 h12, rn op d0 d8 a0 a8 b0 b8 bn bm hm h11 h12⟩
  · exact ⟨_, _, _, co op hm, ro op hm⟩
end Go.Am
