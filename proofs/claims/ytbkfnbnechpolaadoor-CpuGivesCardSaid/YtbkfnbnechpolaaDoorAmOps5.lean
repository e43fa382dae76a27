/- The abstract layer: cutting slices and strings. -/
import Derived.Test.YtbkfnbnechpolaaDoorAmOps4
set_option linter.unusedVariables false
set_option linter.unusedSimpArgs false
namespace Go.Am
open Go
section
variable {P : Program} {G : Nat → Option AVal} {E : Env}

abbrev Bd := Option (IntKind × Int)
def Bd.val : Bd → Option Value := Option.map fun (k, n) => .int k n
def Bd.at (b : Bd) (d : Nat) : Nat := match b with | none => d | some (_, n) => n.toNat
def Bd.pos (b : Bd) : Prop := match b with | none => True | some (_, n) => 0 ≤ n

theorem run_sliceBound (k : IntKind) (n : Int) (y : Nat) (c : BoundsCode) (h0 : 0 ≤ n) (h : n.toNat ≤ y) (w : World) : (Instr.sliceBound (.int k n) y c).run P w = .ok n.toNat w := by
  have : n ≤ (y : Int) := by omega
  simp [Instr.sliceBound, asIntOf, h0, this]

theorem run_sliceBounds (isSlice : Bool) (len cap : Nat) (lo hi mx : Bd) (p1 : lo.pos) (p2 : hi.pos) (p3 : mx.pos) (h1 : lo.at 0 ≤ hi.at len) (h2 : hi.at len ≤ mx.at cap) (h3 : mx.at cap ≤ cap)
    (h4 : mx.isSome = true → hi.isSome = true) (w : World) : (Instr.sliceBounds isSlice len cap lo.val hi.val mx.val).run P w = .ok (lo.at 0, hi.at len, mx.at cap) w := by
  match lo, hi, mx with
  | none, none, none => simp [Instr.sliceBounds, Bd.val, Bd.at]
  | some (k, n), none, none =>
    have := run_sliceBound (P := P) k n len .sliceB p1 h1 w
    simp [Instr.sliceBounds, Bd.val, Bd.at, this]
  | none, some (k, n), none =>
    have := fun c => run_sliceBound (P := P) k n cap c p2 h2 w
    simp [Instr.sliceBounds, Bd.val, Bd.at, this]
  | some (k, n), some (k', n'), none =>
    have a := run_sliceBound (P := P) k n n'.toNat .sliceB p1 h1 w
    have b := fun c => run_sliceBound (P := P) k' n' cap c p2 h2 w
    simp [Instr.sliceBounds, Bd.val, Bd.at, a, b]
  | none, some (k', n'), some (k'', n'') =>
    have b := fun c => run_sliceBound (P := P) k' n' n''.toNat c p2 h2 w
    have d := fun c => run_sliceBound (P := P) k'' n'' cap c p3 h3 w
    simp [Instr.sliceBounds, Bd.val, Bd.at, b, d]
  | some (k, n), some (k', n'), some (k'', n'') =>
    have a := run_sliceBound (P := P) k n n'.toNat .slice3C p1 h1 w
    have b := fun c => run_sliceBound (P := P) k' n' n''.toNat c p2 h2 w
    have d := fun c => run_sliceBound (P := P) k'' n'' cap c p3 h3 w
    simp [Instr.sliceBounds, Bd.val, Bd.at, a, b, d]
  | _, none, some _ => simp at h4

/-- What a cut slice's capacity is known to be. -/
def cutTag (len : Nat) (hi mx : Bd) : Tag := match mx with | none => .any | some (_, m) => if hi.at len = m.toNat then .full else .any

theorem slice_sl {t e : TypeId} {i : TI} (hE : Wf G E) (hu : P.underlying t = some (.slice e)) (hi : i.ok P e) {sz : Nat} {nl : Bool} {xs : List AVal} {tg : Tag} {x : Value}
    (hx : R E (.sl sz nl xs tg) x) (hsz : sz = i.size) (lo h mx : Bd) (p1 : lo.pos) (p2 : h.pos) (p3 : mx.pos) (h1 : lo.at 0 ≤ h.at xs.length) (h2 : h.at xs.length ≤ xs.length)
    (h3 : mx = none ∨ (h.at xs.length ≤ mx.at 0 ∧ mx.at 0 ≤ xs.length ∧ h.isSome = true)) :
    ROk G E E.S (.sl sz nl ((xs.take (h.at xs.length)).drop (lo.at 0)) (cutTag xs.length h mx)) ((Instr.sliceAt t x lo.val h.val mx.val).run P E.w) := by
  obtain ⟨_, inf, z, hinf, hs, _, _, _, _, _, _, _⟩ := hi
  cases hx with
  | slnil =>
    have hz : h.at 0 = 0 := by simpa using h2
    have hl : lo.at 0 = 0 := by have : lo.at 0 ≤ h.at 0 := h1; omega
    have hm : mx.at 0 = 0 := by
      rcases h3 with rfl | ⟨a, b, _⟩
      · rfl
      · simpa using b
    have hb := run_sliceBounds (P := P) true 0 0 lo h mx p1 p2 p3 (by omega) (by omega) (by omega) (by
      intro hm; rcases h3 with rfl | ⟨_, _, c⟩
      · simp at hm
      · exact c) E.w
    have hrun : (Instr.sliceAt t (.slice none 0 0) lo.val h.val mx.val).run P E.w = .ok (.slice none 0 0) E.w := by
      simp [Instr.sliceAt, Instr.slice, run_underlying hu, hb, hz, hl, hm, run_sizeOf hinf]
    refine .pure hE hrun ?_
    simp only [List.take_nil, List.drop_nil]
    refine .slnil _ _ ?_
    unfold cutTag
    split
    · trivial
    · split
      · rfl
      · trivial
  | sl _ _ _ ad n c f hn hc hmx hf hcs hr ht =>
    subst hn
    have hmc : h.at xs.length ≤ mx.at c ∧ mx.at c ≤ c := by
      rcases h3 with rfl | ⟨a, b, _⟩
      · exact ⟨Nat.le_trans h2 hc, Nat.le_refl _⟩
      · match mx, a, b with
        | none, _, _ => exact ⟨Nat.le_trans h2 hc, Nat.le_refl _⟩
        | some _, a, b => exact ⟨a, Nat.le_trans b hc⟩
    have hb := run_sliceBounds (P := P) true xs.length c lo h mx p1 p2 p3 h1 hmc.1 hmc.2 (by
      intro hm; rcases h3 with rfl | ⟨_, _, c⟩
      · simp at hm
      · exact c) E.w
    have hlen : ((xs.take (h.at xs.length)).drop (lo.at 0)).length = h.at xs.length - lo.at 0 := by simp; omega
    have hrun : (Instr.sliceAt t (.slice (some ad) xs.length c) lo.val h.val mx.val).run P E.w =
        .ok (.slice (some (if mx.at c = lo.at 0 then ad else ad.add (lo.at 0 * sz))) (h.at xs.length - lo.at 0) (mx.at c - lo.at 0)) E.w := by
      simp only [Instr.sliceAt, Instr.slice, run_underlying hu, Sem.run_bind, Result.andThen_ok, hb, run_sizeOf hinf, hs, ← hsz, Sem.run_pure]
      split <;> rfl
    refine .pure hE hrun ?_
    have helem : ∀ k (hk : k < ((xs.take (h.at xs.length)).drop (lo.at 0)).length), ((xs.take (h.at xs.length)).drop (lo.at 0))[k] = xs[lo.at 0 + k]'(by omega) := fun k hk => by simp
    refine .sl sz _ _ _ _ _ (fun j => f (lo.at 0 * sz + j)) hlen.symm (by omega) (by omega) (fun j hj => ?_) (fun k hk => ?_) (fun k hk j hj => ?_) ?_
    · have hpos : 0 < h.at xs.length - lo.at 0 := by
        rcases Nat.eq_zero_or_pos (h.at xs.length - lo.at 0) with e | e
        · rw [e] at hj; omega
        · exact e
      rw [if_neg (by omega)]
      have hb' : lo.at 0 * sz + j < xs.length * sz := by
        have a : lo.at 0 * sz + (h.at xs.length - lo.at 0) * sz ≤ xs.length * sz := by
          rw [← Nat.add_mul]; exact Nat.mul_le_mul_right _ (by omega)
        omega
      obtain ⟨g1, g2, g3, g4⟩ := hf _ hb'
      rw [add_form ad _ g1]
      refine ⟨rfl, ?_, ?_, g4⟩
      · rw [add_form _ j rfl]; rw [add_form ad _ g1] at g2; simpa [Nat.add_assoc] using g2
      · simpa [Nat.add_assoc] using g3
    · rw [helem k hk]; exact hcs _ _
    · have hj' : j < (xs[lo.at 0 + k]'(by omega)).cells.length := by rw [← helem k hk]; exact hj
      have := hr (lo.at 0 + k) (by omega) j hj'
      rw [Nat.add_mul, Nat.add_assoc] at this
      simpa only [helem k hk] using this
    · unfold cutTag
      split
      · trivial
      · next k m =>
        split
        · next e => show m.toNat - lo.at 0 = h.at xs.length - lo.at 0; omega
        · trivial

theorem slice_str {t : TypeId} (hE : Wf G E) (hu : P.underlying t = some .string) {s : List UInt8} {x : Value} (hx : R E (.str s) x) (lo h : Bd) (p1 : lo.pos) (p2 : h.pos) (h1 : lo.at 0 ≤ h.at s.length) (h2 : h.at s.length ≤ s.length) :
    ROk G E E.S (.str ((s.take (h.at s.length)).drop (lo.at 0))) ((Instr.sliceAt t x lo.val h.val none).run P E.w) := by
  cases hx with
  | str b _ hb0 =>
    subst hb0
    have hsz : b.data.toList.length = b.size := rfl
    rw [hsz] at h1 h2 ⊢
    have hb := run_sliceBounds (P := P) false b.size b.size lo h none p1 p2 trivial h1 h2 (Nat.le_refl _) (by simp) E.w
    simp only [Bd.val, Option.map_none] at hb
    have hrun : (Instr.sliceAt t (.string b) lo.val h.val none).run P E.w = .ok (.string (b.extract (lo.at 0) (h.at b.size))) E.w := by
      simp only [Instr.sliceAt, Instr.slice, run_underlying hu, Sem.run_bind, Result.andThen_ok, Option.isSome_none, Bool.false_eq_true, if_false]
      simp only [Bd.val, hb, Result.andThen_ok, Sem.run_pure]
    refine .pure hE hrun (.str _ _ ?_)
    simp [List.drop_take]

/-- A whole array behind a pointer, cut. -/
theorem slice_arr {t e : TypeId} {m : Nat} {i : TI} (hE : Wf G E) (hu : P.underlying t = some (.array m e)) (hi : i.ok P e) {b off : Nat} {x : Value}
    (hx : R E (.ptr b off) x) (lo h : Bd) (p1 : lo.pos) (p2 : h.pos) (h1 : lo.at 0 ≤ h.at m) (h2 : h.at m ≤ m) (h3 : lo.at 0 < m ∨ lo.at 0 = 0) :
    ROk G E E.S (.view b (off + lo.at 0 * i.size) (h.at m - lo.at 0) (m - lo.at 0)) ((Instr.sliceAt t x lo.val h.val none).run P E.w) := by
  obtain ⟨_, inf, z, hinf, hs, _, _, _, _, _, _, _⟩ := hi
  cases hx with
  | ptr _ _ c hm hb' =>
    have hb := run_sliceBounds (P := P) false m m lo h none p1 p2 trivial h1 h2 (Nat.le_refl _) (by simp) E.w
    simp only [Bd.val, Option.map_none] at hb
    have hrun : (Instr.sliceAt t (.pointer (some ⟨c, off, none⟩)) lo.val h.val none).run P E.w = .ok (.slice (some ⟨c, off + lo.at 0 * i.size, none⟩) (h.at m - lo.at 0) (m - lo.at 0)) E.w := by
      simp only [Instr.sliceAt, run_underlying hu, Sem.run_bind, Result.andThen_ok, Instr.sureAddr, Sem.run_pure, run_sizeOf hinf, hs]
      simp only [Bd.val, hb, Result.andThen_ok]
      rcases h3 with h3 | h3
      · have : ¬ (Bd.at none m = lo.at 0) := by show ¬ (m = lo.at 0); omega
        rw [if_neg this, add_form _ _ rfl]; rfl
      · simp only [h3, Nat.zero_mul, Nat.add_zero]
        split <;> rfl
    exact .pure hE hrun (.view _ _ _ _ _ (by omega) hm hb')

/-! ### len -/
theorem len_sl {t e ty : TypeId} (hE : Wf G E) (hu : P.underlying t = some (.slice e)) {sz : Nat} {nl : Bool} {xs : List AVal} {tg : Tag} {x : Value} (hx : R E (.sl sz nl xs tg) x) :
    ROk G E E.S (.int .i64 xs.length) ((Builtin.len_ #[t] ty #[x]).run P E.w) := by
  cases hx with
  | slnil => exact .pure hE (by simp [Builtin.len_, run_underlying hu, goInt]) (.int _ _)
  | sl _ _ _ ad n c f hn _ _ _ _ _ _ => subst hn; exact .pure hE (by simp [Builtin.len_, run_underlying hu, goInt]) (.int _ _)

theorem len_view {t e ty : TypeId} (hE : Wf G E) (hu : P.underlying t = some (.slice e)) {b off n cap : Nat} {x : Value} (hx : R E (.view b off n cap) x) :
    ROk G E E.S (.int .i64 n) ((Builtin.len_ #[t] ty #[x]).run P E.w) := by
  cases hx with
  | view => exact .pure hE (by simp [Builtin.len_, run_underlying hu, goInt]) (.int _ _)

theorem len_str {t ty : TypeId} (hE : Wf G E) (hu : P.underlying t = some .string) {s : List UInt8} {x : Value} (hx : R E (.str s) x) :
    ROk G E E.S (.int .i64 s.length) ((Builtin.len_ #[t] ty #[x]).run P E.w) := by
  cases hx with
  | str b _ h => subst h; exact .pure hE (x := .int .i64 b.size) (by simp [Builtin.len_, run_underlying hu, goInt]) (.int _ _)

theorem len_arr {t e ty : TypeId} {n : Nat} (hE : Wf G E) (hu : P.underlying t = some (.array n e)) {x : Value} :
    ROk G E E.S (.int .i64 n) ((Builtin.len_ #[t] ty #[x]).run P E.w) :=
  .pure hE (x := .int .i64 n) (by simp [Builtin.len_, run_underlying hu, goInt]) (.int _ _)
end
end Go.Am
