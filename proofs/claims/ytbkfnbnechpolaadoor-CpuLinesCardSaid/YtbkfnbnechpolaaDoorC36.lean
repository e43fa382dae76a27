/- What comes of an instruction: at most one register turns. -/
import Derived.Test.YtbkfnbnechpolaaDoorC07
import Derived.Test.YtbkfnbnechpolaaDoorC07
import Derived.Test.YtbkfnbnechpolaaDoorC04
import Derived.Laws.Bits64
import Derived.Laws.Bits64b
set_option linter.unusedVariables false
set_option linter.unusedSimpArgs false
namespace Go.Am
open Go Go.Proofs
set_option linter.unusedSimpArgs false
set_option linter.unusedVariables false
set_option maxHeartbeats 8000000
set_option maxRecDepth 100000

def Wd (n : Int) : Prop := 0 ≤ n ∧ n ≤ 18446744073709551615

theorem wd_wrap (n : Int) : Wd (IntKind.u64.wrap n) := by
  unfold Wd
  rw [IntKind.wrap_u64]
  omega
theorem wd_xor {x y : Int} (hx : Wd x) (hy : Wd y) : Wd (bits .xor .u64 x y) := by
  unfold Wd at *
  have h := bits_xor_u64_nat x.toNat y.toNat (by omega) (by omega)
  rw [Int.toNat_of_nonneg hx.1, Int.toNat_of_nonneg hy.1] at h
  rw [h]
  have := Nat.xor_lt_two_pow (n := 64) (show x.toNat < 2 ^ 64 by omega) (show y.toNat < 2 ^ 64 by omega)
  omega
theorem wd_and {x y : Int} (hx : Wd x) (hy : Wd y) : Wd (bits .and .u64 x y) := by
  unfold Wd at *
  have h := bits_and_u64_nat x.toNat y.toNat (by omega) (by omega)
  rw [Int.toNat_of_nonneg hx.1, Int.toNat_of_nonneg hy.1] at h
  rw [h]
  have := Nat.and_lt_two_pow x.toNat (n := 64) (show y.toNat < 2 ^ 64 by omega)
  omega
theorem wd_fdiv {x : Int} (hx : Wd x) (k : Nat) : Wd (x.fdiv (2 ^ k)) := by
  unfold Wd at *
  have hp : (0 : Int) < 2 ^ k := Int.pow_pos (by decide)
  rw [Int.fdiv_eq_ediv_of_nonneg _ (Int.le_of_lt hp)]
  refine ⟨Int.ediv_nonneg hx.1 (Int.le_of_lt hp), ?_⟩
  exact Int.le_trans (Int.ediv_le_self _ hx.1) hx.2

theorem regs_keep {L : List Int} {v x d : Int} {j : Nat} (hj : j < 8) (hd0 : 0 ≤ d) (hd : (j : Int) ≠ d) : ((L.set 8 v).set d.toNat x).getD j 0 = L.getD j 0 := by
  have h1 : d.toNat ≠ j := by omega
  have h2 : (8 : Nat) ≠ j := by omega
  simp only [List.getD, List.getElem?_set_ne h1, List.getElem?_set_ne h2]
theorem regs_keep8 {L : List Int} {v : Int} {j : Nat} (hj : j < 8) : (L.set 8 v).getD j 0 = L.getD j 0 := by
  have h2 : (8 : Nat) ≠ j := by omega
  simp only [List.getD, List.getElem?_set_ne h2]
theorem wd_set {L : List Int} (h : ∀ n ∈ L, Wd n) {v : Int} (hv : Wd v) (k : Nat) : ∀ n ∈ L.set k v, Wd n := fun n hn => by
  rcases List.mem_or_eq_of_mem_set hn with h' | h'
  · exact h n h'
  · rw [h']; exact hv

theorem do_one (L : List Int) (op d a b imm ld : Int) (hL : L.length = 9) (hw : ∀ n ∈ L, Wd n) (hld : Wd ld) (h0 : -9223372036854775808 ≤ imm) (h1 : imm ≤ 9223372036854775807) :
    ∃ (L' : List Int) (k n : Int), (L'.length = 9 ∧ (∀ j : Nat, j < 8 → (j : Int) ≠ d → L'.getD j 0 = L.getD j 0) ∧ ∀ n ∈ L', Wd n) ∧
      APure cx 15 [.agg (ws L), .agg [.int .i64 op, .int .i64 d, .int .i64 a, .int .i64 b, .int .i64 imm], .int .u64 ld] (.tup [.agg (ws L'), .agg [.int .i64 k, .int .i64 n]]) := by
  obtain ⟨c1, c2, c3, c4, c5, c6, c7, c8⟩ := cpu_do_a L d a b imm ld hL h0 h1
  obtain ⟨c9, c10, c11, c12, c13, c14t, c14f, c15, c16, c17, cno⟩ := cpu_do_b L d a b imm ld hL h0 h1
  by_cases hm : MayF op d a b imm (frm op).1 (frm op).2
  · have hm' := hm
    obtain ⟨hne, hd, ha, hb, _⟩ := hm'
    obtain ⟨d0, d8⟩ := reg_range hd
    obtain ⟨a0, a8⟩ := reg_range ha
    obtain ⟨b0, b8⟩ := reg_range hb
    have hwd : ∀ j : Int, 0 ≤ j → j < 8 → Wd (L.getD j.toNat 0) := fun j g1 g2 => by
      have hk : j.toNat < L.length := by omega
      rw [getD_pos L 0 j.toNat hk]
      exact hw _ (List.getElem_mem hk)
    have wa := hwd a a0 a8
    have wb := hwd b b0 b8
    have bn := wb.1
    have bm := wb.2
    have k1 : ∀ v : Int, Wd v → ((L.set 8 v).length = 9 ∧ (∀ j : Nat, j < 8 → (j : Int) ≠ d → (L.set 8 v).getD j 0 = L.getD j 0) ∧ ∀ n ∈ L.set 8 v, Wd n) :=
      fun v hv => ⟨by simp [hL], fun j hj _ => regs_keep8 hj, wd_set hw hv 8⟩
    have k2 : ∀ v x : Int, Wd v → Wd x → (((L.set 8 v).set d.toNat x).length = 9 ∧ (∀ j : Nat, j < 8 → (j : Int) ≠ d → ((L.set 8 v).set d.toNat x).getD j 0 = L.getD j 0) ∧ ∀ n ∈ (L.set 8 v).set d.toNat x, Wd n) :=
      fun v x hv hx => ⟨by simp [hL], fun j hj hjd => regs_keep hj d0 hjd, wd_set (wd_set hw hv 8) hx _⟩
    have k3 : ∀ v x : Int, Wd v → Wd x → (((L.set 8 v).set 8 x).length = 9 ∧ (∀ j : Nat, j < 8 → (j : Int) ≠ d → ((L.set 8 v).set 8 x).getD j 0 = L.getD j 0) ∧ ∀ n ∈ (L.set 8 v).set 8 x, Wd n) :=
      fun v x hv hx => ⟨by simp [hL], fun j hj hjd => by rw [regs_keep8 hj, regs_keep8 hj], wd_set (wd_set hw hv 8) hx _⟩
    rcases ops_cases op with (rfl | rfl | rfl | rfl | rfl | rfl | rfl | rfl | rfl | rfl | rfl | rfl | rfl | rfl | rfl | rfl | rfl) | h
    · exact ⟨_, _, _, k1 _ (wd_wrap _), c1 d0 d8 a0 a8 b0 b8 bn bm hm⟩
    · exact ⟨_, _, _, k2 _ _ (wd_wrap _) (wd_wrap _), c2 d0 d8 a0 a8 b0 b8 bn bm hm⟩
    · exact ⟨_, _, _, k2 _ _ (wd_wrap _) wa, c3 d0 d8 a0 a8 b0 b8 bn bm hm⟩
    · exact ⟨_, _, _, k2 _ _ (wd_wrap _) (wd_wrap _), c4 d0 d8 a0 a8 b0 b8 bn bm hm⟩
    · exact ⟨_, _, _, k2 _ _ (wd_wrap _) (wd_wrap _), c5 d0 d8 a0 a8 b0 b8 bn bm hm⟩
    · exact ⟨_, _, _, k2 _ _ (wd_wrap _) (wd_xor wa wb), c6 d0 d8 a0 a8 b0 b8 bn bm hm⟩
    · exact ⟨_, _, _, k2 _ _ (wd_wrap _) (wd_and wa wb), c7 d0 d8 a0 a8 b0 b8 bn bm hm⟩
    · exact ⟨_, _, _, k2 _ _ (wd_wrap _) (wd_wrap _), c8 d0 d8 a0 a8 b0 b8 bn bm hm⟩
    · exact ⟨_, _, _, k2 _ _ (wd_wrap _) (wd_wrap _), c9 d0 d8 a0 a8 b0 b8 bn bm hm⟩
    · exact ⟨_, _, _, k2 _ _ (wd_wrap _) (wd_fdiv wa _), c10 d0 d8 a0 a8 b0 b8 bn bm hm⟩
    · exact ⟨_, _, _, k2 _ _ (wd_wrap _) hld, c11 d0 d8 a0 a8 b0 b8 bn bm hm⟩
    · exact ⟨_, _, _, k1 _ (wd_wrap _), c12 d0 d8 a0 a8 b0 b8 bn bm hm⟩
    · exact ⟨_, _, _, k3 _ _ (wd_wrap _) (wd_wrap _), c13 d0 d8 a0 a8 b0 b8 bn bm hm⟩
    · by_cases hz : L.getD a.toNat 0 = 0
      · exact ⟨_, _, _, k1 _ (wd_wrap _), c14f d0 d8 a0 a8 b0 b8 bn bm hm hz⟩
      · exact ⟨_, _, _, k3 _ _ (wd_wrap _) (wd_wrap _), c14t d0 d8 a0 a8 b0 b8 bn bm hm hz⟩
    · exact ⟨_, _, _, k1 _ (wd_wrap _), c15 d0 d8 a0 a8 b0 b8 bn bm hm⟩
    · exact ⟨_, _, _, k1 _ (wd_wrap _), c16 d0 d8 a0 a8 b0 b8 bn bm hm⟩
    · exact ⟨_, _, _, ⟨hL, fun _ _ _ => rfl, hw⟩, c17 d0 d8 a0 a8 b0 b8 bn bm hm⟩
    · rw [frm_none h] at hne
      exact absurd rfl hne
  · exact ⟨L, 3, 0, ⟨hL, fun _ _ _ => rfl, hw⟩, cno op hm⟩
end Go.Am
