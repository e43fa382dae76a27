/- The abstract layer: two aggregates of plain cells are held against each other. -/
import Derived.Test.YtodiaabcaahnjaaGreatDoorAmOps
import Derived.ChangeKeysEq
set_option linter.unusedVariables false
set_option linter.unusedSimpArgs false
namespace Go.Am
open Go
noncomputable section
open Classical
def skb : AVal → AVal → Bool
  | .int k _, .int k' _ => k == k'
  | .bool _, .bool _ => true
  | .str _, .str _ => true
  | _, _ => false
def skbs : List AVal → List AVal → Bool
  | [], [] => true
  | a :: as, b :: bs => skb a b && skbs as bs
  | _, _ => false
theorem skbs_iff {xs ys : List AVal} : skbs xs ys = true ↔ xs.length = ys.length ∧ ∀ k (h : k < xs.length) (h' : k < ys.length), skb xs[k] ys[k] = true := by
  induction xs generalizing ys with
  | nil => cases ys <;> simp [skbs]
  | cons a as ih =>
    cases ys with
    | nil => simp [skbs]
    | cons b bs =>
      simp only [skbs, Bool.and_eq_true, ih, List.length_cons]
      constructor
      · rintro ⟨h1, h2, h3⟩
        refine ⟨by omega, fun k h h' => ?_⟩
        cases k with
        | zero => exact h1
        | succ k => exact h3 k (by omega) (by omega)
      · rintro ⟨h1, h2⟩
        exact ⟨h2 0 (by omega) (by omega), by omega, fun k h h' => h2 (k + 1) (by omega) (by omega)⟩
theorem skb_trans {a b c : AVal} (h : skb a b = true) (h' : skb c b = true) : skb a c = true := by
  cases a <;> cases b <;> simp_all [skb] <;> cases c <;> simp_all [skb]
theorem skbs_part {xs ys : List AVal} (h : skbs xs ys = true) (o n : Nat) : skbs ((xs.drop o).take n) ((ys.drop o).take n) = true := by
  rw [skbs_iff] at h ⊢
  refine ⟨by simp [h.1], fun k h1 h2 => ?_⟩
  simp only [List.getElem_take, List.getElem_drop]
  exact h.2 _ _ _
theorem skb_symm {a b : AVal} (h : skb a b = true) : skb b a = true := by
  cases a <;> cases b <;> simp_all [skb]
theorem skbs_trans' {a b c : List AVal} (h : skbs a b = true) (h' : skbs b c = true) : skbs a c = true := by
  rw [skbs_iff] at h h' ⊢
  refine ⟨by omega, fun k h1 h2 => skb_trans (h.2 k h1 (by omega)) (skb_symm (h'.2 k (by omega) h2))⟩
def flatT (P : Program) (T : TypeId → Option TI) : Nat → TypeId → Bool
  | 0, _ => false
  | n + 1, t => match T t with
    | none => false
    | some i => match i.d with
      | .bool => match i.zero with | [.bool _] => true | _ => false
      | .int _ => match i.zero with | [.int _ _] => true | _ => false
      | .string => match i.zero with | [.str _] => true | _ => false
      | .array m e => match T e with
        | some j => flatT P T n e && (i.size == m * j.size) && decide (0 < j.size) && (List.range m).all (fun k => skbs ((i.zero.drop (k * j.size)).take j.size) j.zero)
        | none => false
      | .struct fs => !P.stoodInHeld t && fs.toList.all (fun f => f.name != "_" && flatT P T n f.type && (match T f.type with | some j => decide (f.offset + j.size ≤ i.size) && skbs ((i.zero.drop f.offset).take j.size) j.zero | none => false)) &&
          (List.range i.size).all (fun p => fs.toList.any fun f => match T f.type with | some j => decide (f.offset ≤ p) && decide (p < f.offset + j.size) | none => false)
      | _ => false
section
variable {P : Program} {G : Nat → Option AVal} {E : Env}
def EqOk (P : Program) (n : Nat) (t : TypeId) (i : TI) : Prop :=
  ∀ (E : Env) (d : Nat) (xs ys : List AVal) (x y : Value), skbs xs i.zero = true → skbs ys i.zero = true → R E (ofCells i xs) x → R E (ofCells i ys) y →
    (Op.equalIn (d + n) t x y).run P E.w = .ok (decide (xs = ys)) E.w
theorem zero_len {t : TypeId} {i : TI} (hi : i.ok P t) : i.zero.length = i.size := by
  obtain ⟨_, _, _, _, _, h, _⟩ := ofCells_zero hi
  exact h
theorem eqItems_ok {e : TypeId} {j : TI} {d : Nat} (hj : j.ok P e) (hc : P.cellsOf e = j.size) (IH : ∀ (xs ys : List AVal) (x y : Value), skbs xs j.zero = true → skbs ys j.zero = true → R E (ofCells j xs) x → R E (ofCells j ys) y → (Op.equalIn d e x y).run P E.w = .ok (decide (xs = ys)) E.w)
    {xs ys : List AVal} {as bs : Array Value} (h1 : as.size = xs.length) (h2 : bs.size = ys.length) (rx : ∀ k (h : k < xs.length), R E xs[k] (as.getD k undef)) (ry : ∀ k (h : k < ys.length), R E ys[k] (bs.getD k undef)) :
    ∀ is : List Nat, (∀ k ∈ is, skbs ((xs.drop (k * j.size)).take j.size) j.zero = true ∧ skbs ((ys.drop (k * j.size)).take j.size) j.zero = true ∧ k * j.size + j.size ≤ xs.length ∧ k * j.size + j.size ≤ ys.length) →
      (Op.eqItems d e (P.cellsOf e) as bs is).run P E.w = .ok (decide (∀ k ∈ is, (xs.drop (k * j.size)).take j.size = (ys.drop (k * j.size)).take j.size)) E.w := by
  intro is
  induction is with
  | nil => intro _; simp [Op.eqItems]
  | cons k is ih =>
    intro h
    obtain ⟨z1, z2, l1, l2⟩ := h k (List.mem_cons_self ..)
    rw [hc] at ih ⊢
    obtain ⟨a, pa, ra⟩ := run_part (P := P) hj h1 rx (k * j.size) l1 E.w
    obtain ⟨b, pb, rb⟩ := run_part (P := P) hj h2 ry (k * j.size) l2 E.w
    have he := IH _ _ a b z1 z2 ra rb
    simp only [Op.eqItems, Sem.run_bind, pa, pb, he, Result.andThen_ok]
    by_cases heq : (xs.drop (k * j.size)).take j.size = (ys.drop (k * j.size)).take j.size
    · simp only [heq, decide_true, Bool.not_true, Bool.false_eq_true, if_false]
      rw [ih (fun k' hk => h k' (List.mem_cons_of_mem _ hk))]
      simp [heq]
    · simp only [heq, decide_false, Bool.not_false, if_true, Sem.run_pure]
      simp [heq]
theorem eqFields_ok {T : TypeId → Option TI} (hT : TOk P T) {d : Nat} {xs ys : List AVal} {as bs : Array Value} (h1 : as.size = xs.length) (h2 : bs.size = ys.length) (rx : ∀ k (h : k < xs.length), R E xs[k] (as.getD k undef)) (ry : ∀ k (h : k < ys.length), R E ys[k] (bs.getD k undef)) :
    ∀ fs : List Field, (∀ f ∈ fs, f.name ≠ "_" ∧ ∃ j, T f.type = some j ∧ f.offset + j.size ≤ xs.length ∧ f.offset + j.size ≤ ys.length ∧ skbs ((xs.drop f.offset).take j.size) j.zero = true ∧ skbs ((ys.drop f.offset).take j.size) j.zero = true ∧
        ∀ (xs ys : List AVal) (x y : Value), skbs xs j.zero = true → skbs ys j.zero = true → R E (ofCells j xs) x → R E (ofCells j ys) y → (Op.equalIn d f.type x y).run P E.w = .ok (decide (xs = ys)) E.w) →
      (Op.eqFields d as bs fs).run P E.w = .ok (decide (∀ f ∈ fs, ∀ j, T f.type = some j → (xs.drop f.offset).take j.size = (ys.drop f.offset).take j.size)) E.w := by
  intro fs
  induction fs with
  | nil => intro _; simp [Op.eqFields]
  | cons f fs ih =>
    intro h
    obtain ⟨hn, j, hj, l1, l2, z1, z2, IH⟩ := h f (List.mem_cons_self ..)
    obtain ⟨a, pa, ra⟩ := run_part (P := P) (hT.ok _ _ hj) h1 rx f.offset l1 E.w
    obtain ⟨b, pb, rb⟩ := run_part (P := P) (hT.ok _ _ hj) h2 ry f.offset l2 E.w
    have he := IH _ _ a b z1 z2 ra rb
    simp only [Op.eqFields, hn, ne_eq, not_false_eq_true, if_true, Sem.run_bind, pa, pb, he, Result.andThen_ok]
    by_cases heq : (xs.drop f.offset).take j.size = (ys.drop f.offset).take j.size
    · simp only [heq, decide_true, Bool.not_true, Bool.false_eq_true, if_false]
      rw [ih (fun g hg => h g (List.mem_cons_of_mem _ hg))]
      congr 2
      simp [hj, heq]
    · simp only [heq, decide_false, Bool.not_false, if_true, Sem.run_pure]
      congr 1
      symm
      rw [decide_eq_false_iff_not]
      intro hh
      exact heq (hh f (List.mem_cons_self ..) j hj)
theorem chunks_eq {xs ys : List AVal} {m c : Nat} (h1 : xs.length = m * c) (h2 : ys.length = m * c) (hc : 0 < c) :
    (∀ k ∈ List.range m, (xs.drop (k * c)).take c = (ys.drop (k * c)).take c) ↔ xs = ys := by
  constructor
  · intro h
    apply List.ext_getElem (by omega)
    intro p hp hp'
    have hk : p / c < m := by rw [Nat.div_lt_iff_lt_mul hc]; omega
    have hd : p / c * c + p % c = p := by rw [Nat.mul_comm]; exact Nat.div_add_mod p c
    have hm : p % c < c := Nat.mod_lt _ hc
    have := h (p / c) (List.mem_range.2 hk)
    have e := congrArg (fun l => l[p % c]?) this
    simp only [List.getElem?_take, hm, if_true, List.getElem?_drop, hd] at e
    rw [List.getElem?_eq_getElem hp, List.getElem?_eq_getElem hp'] at e
    injection e
  · rintro rfl _ _; rfl
theorem eq_ok {T : TypeId → Option TI} (hT : TOk P T) (hcell : ∀ t i, T t = some i → P.cellsOf t = i.size) : ∀ (n : Nat) (t : TypeId) (i : TI), T t = some i → flatT P T n t = true → EqOk P n t i := by
  intro n
  induction n with
  | zero => intro t i _ h; simp [flatT] at h
  | succ n IH =>
    intro t i ht hf E d xs ys x y zx zy hx hy
    have hi := hT.ok t i ht
    have hzl := zero_len hi
    have hlx : xs.length = i.size := by rw [← hzl]; exact (skbs_iff.1 zx).1
    have hly : ys.length = i.size := by rw [← hzl]; exact (skbs_iff.1 zy).1
    have hu := hi.1
    unfold flatT at hf
    simp only [ht] at hf
    have scalar : i.isAgg = false → ∀ (z : AVal), i.zero = [z] → ∃ a b, xs = [a] ∧ ys = [b] ∧ skb a z = true ∧ skb b z = true ∧ R E a x ∧ R E b y := by
      intro hag z hz
      rw [hz] at zx zy
      obtain ⟨a, rfl⟩ := List.length_eq_one_iff.1 (skbs_iff.1 zx).1
      obtain ⟨b, rfl⟩ := List.length_eq_one_iff.1 (skbs_iff.1 zy).1
      refine ⟨a, b, rfl, rfl, by simpa [skbs] using zx, by simpa [skbs] using zy, ?_, ?_⟩
      · simpa [ofCells, hag] using hx
      · simpa [ofCells, hag] using hy
    cases hd : i.d <;> simp only [hd] at hf <;> try (cases hf; done)
    case bool =>
      have hag : i.isAgg = false := by simp [TI.isAgg, hd, isAggD]
      split at hf
      · next z hz =>
        obtain ⟨a, b, rfl, rfl, sa, sb, ra, rb⟩ := scalar hag _ hz
        cases a <;> simp only [skb, reduceCtorEq] at sa
        cases b <;> simp only [skb, reduceCtorEq] at sb
        rw [ra.bool_inv, rb.bool_inv, show d + (n + 1) = (d + n) + 1 from rfl, run_equalIn_bool' E.w _ _ _ _ (by rw [hu, hd])]
        congr 1
        rename_i a b
        cases a <;> cases b <;> simp
      · cases hf
    case int k' =>
      have hag : i.isAgg = false := by simp [TI.isAgg, hd, isAggD]
      split at hf
      · next kz nz hz =>
        obtain ⟨a, b, rfl, rfl, sa, sb, ra, rb⟩ := scalar hag _ hz
        cases a <;> simp only [skb, reduceCtorEq, beq_iff_eq] at sa
        cases b <;> simp only [skb, reduceCtorEq, beq_iff_eq] at sb
        subst sa; subst sb
        rw [ra.int_inv, rb.int_inv, show d + (n + 1) = (d + n) + 1 from rfl]
        have := run_equalIn_int (P := P) E.w (d + n) t
        rename_i a _ b
        rw [this _ k' _ _ (by rw [hu, hd])]
        congr 1
        by_cases e : a = b
        · subst e; simp
        · simp [e]
      · cases hf
    case string =>
      have hag : i.isAgg = false := by simp [TI.isAgg, hd, isAggD]
      split at hf
      · next z hz =>
        obtain ⟨a, b, rfl, rfl, sa, sb, ra, rb⟩ := scalar hag _ hz
        cases a <;> simp only [skb, reduceCtorEq] at sa
        cases b <;> simp only [skb, reduceCtorEq] at sb
        cases ra with
        | str s _ h1 =>
          cases rb with
          | str u _ h2 =>
            rw [show d + (n + 1) = (d + n) + 1 from rfl, run_equalIn_string E.w _ _ _ _ (by rw [hu, hd]), ByteArray.toList_eq, ByteArray.toList_eq, h1, h2]
            congr 1
            rename_i l1 l2
            by_cases e : l1 = l2
            · subst e; simp
            · simp [e]
      · cases hf
    case array m e =>
      have hag : i.isAgg = true := by simp [TI.isAgg, hd, isAggD]
      cases hj : T e with
      | none => simp [hj] at hf
      | some j =>
        simp only [hj, Bool.and_eq_true, beq_iff_eq, decide_eq_true_eq, List.all_eq_true] at hf
        obtain ⟨⟨⟨hfe, hsz⟩, hpos⟩, hz⟩ := hf
        have hje := hT.ok e j hj
        obtain ⟨_, inf, _, hinf, _⟩ := hje.2
        have hinf : P.info? e = some hje.2.choose := hje.2.choose_spec.choose_spec.1
        simp only [ofCells, hag, if_true] at hx hy
        cases hx with
        | agg _ as h1 rx =>
          cases hy with
          | agg _ bs h2 ry =>
            rw [show d + (n + 1) = (d + n) + 1 from rfl, run_equalIn_array E.w (d + n) as bs (by rw [hu, hd]) hinf]
            rw [eqItems_ok (E := E) (d := d + n) hje (hcell e j hj) (fun xs ys x y => IH e j hj hfe E d xs ys x y) h1 h2 rx ry (List.range m) (fun k hk => by
              have hk' := List.mem_range.1 hk
              have hle : k * j.size + j.size ≤ m * j.size := by
                have : (k + 1) * j.size ≤ m * j.size := Nat.mul_le_mul_right _ hk'
                rw [Nat.add_mul] at this; omega
              exact ⟨skbs_trans' (skbs_part zx _ _) (hz k hk), skbs_trans' (skbs_part zy _ _) (hz k hk), by omega, by omega⟩)]
            congr 1
            exact decide_eq_decide.2 (chunks_eq (by omega) (by omega) hpos)
    case struct fs =>
      have hag : i.isAgg = true := by simp [TI.isAgg, hd, isAggD]
      simp only [Bool.and_eq_true, Bool.not_eq_true', List.all_eq_true, List.any_eq_true, bne_iff_ne, ne_eq] at hf
      obtain ⟨⟨hst, hfs⟩, hcov⟩ := hf
      have hfo : P.fieldsOf t = fs := by simp [Program.fieldsOf, hu, hd]
      simp only [ofCells, hag, if_true] at hx hy
      cases hx with
      | agg _ as h1 rx =>
        cases hy with
        | agg _ bs h2 ry =>
          rw [show d + (n + 1) = (d + n) + 1 from rfl, run_equalIn_agg E.w (d + n) t as bs (by rw [hfo, hu, hd]) hst, hfo]
          rw [eqFields_ok hT h1 h2 rx ry fs.toList (fun f hfm => by
            obtain ⟨⟨hn, hfl⟩, hrest⟩ := hfs f hfm
            cases hj : T f.type with
            | none => simp [hj] at hrest
            | some j =>
              simp only [hj, Bool.and_eq_true, decide_eq_true_eq] at hrest
              exact ⟨hn, j, rfl, by omega, by omega, skbs_trans' (skbs_part zx _ _) hrest.2, skbs_trans' (skbs_part zy _ _) hrest.2, fun xs ys x y => IH f.type j hj hfl E d xs ys x y⟩)]
          congr 1
          refine decide_eq_decide.2 ⟨fun h => ?_, fun h => by subst h; intros; rfl⟩
          apply List.ext_getElem (by omega)
          intro p hp hp'
          obtain ⟨f, hfm, hff⟩ := hcov p (List.mem_range.2 (by omega))
          cases hj : T f.type with
          | none => simp [hj] at hff
          | some j =>
            simp only [hj, Bool.and_eq_true, decide_eq_true_eq] at hff
            have e := congrArg (fun l => l[p - f.offset]?) (h f hfm j hj)
            have hlt : p - f.offset < j.size := by omega
            simp only [List.getElem?_take, hlt, if_true, List.getElem?_drop, show f.offset + (p - f.offset) = p by omega] at e
            rw [List.getElem?_eq_getElem hp, List.getElem?_eq_getElem hp'] at e
            injection e
end
end
end Go.Am
