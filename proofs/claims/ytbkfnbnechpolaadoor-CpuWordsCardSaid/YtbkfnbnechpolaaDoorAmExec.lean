/- The abstract layer, reckoned by the kernel: what is to be asked of one operation, as a truth value. -/
import Derived.Test.YtbkfnbnechpolaaDoorAmDrop
import Derived.Test.YtbkfnbnechpolaaDoorAmType
set_option linter.unusedVariables false
set_option linter.unusedSimpArgs false
namespace Go.Am
open Go

noncomputable section

def tagEq : Tag → Tag → Bool
  | .any, .any => true
  | .full, .full => true
  | .grow g, .grow h => Nat.beq g h
  | _, _ => false

def kindEq (a b : IntKind) : Bool := a == b
def fnEq : Fn → Fn → Bool
  | .func f, .func g => Nat.beq f g
  | _, _ => false

mutual
def veq : AVal → AVal → Bool
  | .any, .any => true
  | .int k n, .int k' n' => kindEq k k' && n == n'
  | .bool b, .bool b' => b == b'
  | .str s, .str s' => s == s'
  | .nilp, .nilp => true
  | .ptr i o, .ptr i' o' => Nat.beq i i' && Nat.beq o o'
  | .cptr cs, .cptr cs' => veqs cs cs'
  | .sl sz nl xs tg, .sl sz' nl' xs' tg' => Nat.beq sz sz' && nl == nl' && tagEq tg tg' && veqs xs xs'
  | .view i o n c, .view i' o' n' c' => Nat.beq i i' && Nat.beq o o' && Nat.beq n n' && Nat.beq c c'
  | .nilmap, .nilmap => true
  | .map i, .map i' => Nat.beq i i'
  | .fn f as bs, .fn f' as' bs' => fnEq f f' && veqs as as' && veqs bs bs'
  | .nilfn, .nilfn => true
  | .ifc t v, .ifc t' v' => Nat.beq t t' && veq v v'
  | .nilifc, .nilifc => true
  | .agg cs, .agg cs' => veqs cs cs'
  | .tup cs, .tup cs' => veqs cs cs'
  | .yld i, .yld i' => Nat.beq i i'
  | _, _ => false
def veqs : List AVal → List AVal → Bool
  | [], [] => true
  | a :: as, b :: bs => veq a b && veqs as bs
  | _, _ => false
end

theorem nbeq {a b : Nat} (h : Nat.beq a b = true) : a = b := Nat.eq_of_beq_eq_true h
theorem tagEq_ok {a b : Tag} (h : tagEq a b = true) : a = b := by
  cases a <;> cases b <;> first | rfl | (simp [tagEq] at h; done) | (simp only [tagEq] at h; rw [nbeq h])
theorem fnEq_ok {a b : Fn} (h : fnEq a b = true) : a = b := by
  cases a <;> cases b <;> first | (simp [fnEq] at h; done) | (simp only [fnEq] at h; rw [nbeq h])

mutual
theorem veq_ok : ∀ a b : AVal, veq a b = true → a = b
  | .any, b, h => by cases b <;> first | rfl | (simp [veq] at h)
  | .raw v, b, h => by cases b <;> simp [veq] at h
  | .int k n, b, h => by cases b <;> simp [veq, kindEq] at h; simp [h]
  | .bool x, b, h => by cases b <;> simp [veq] at h; simp [h]
  | .str s, b, h => by cases b <;> simp [veq] at h; simp [h]
  | .nilp, b, h => by cases b <;> first | rfl | (simp [veq] at h)
  | .ptr i o, b, h => by
    cases b <;> simp only [veq, Bool.and_eq_true, Bool.false_eq_true] at h
    rw [nbeq h.1, nbeq h.2]
  | .cptr cs, b, h => by
    cases b <;> simp only [veq, Bool.false_eq_true] at h
    rw [veqs_ok cs _ h]
  | .sl sz nl xs tg, b, h => by
    cases b <;> simp only [veq, Bool.and_eq_true, beq_iff_eq, Bool.false_eq_true] at h
    rw [nbeq h.1.1.1, h.1.1.2, tagEq_ok h.1.2, veqs_ok xs _ h.2]
  | .view i o n c, b, h => by
    cases b <;> simp only [veq, Bool.and_eq_true, Bool.false_eq_true] at h
    rw [nbeq h.1.1.1, nbeq h.1.1.2, nbeq h.1.2, nbeq h.2]
  | .nilmap, b, h => by cases b <;> first | rfl | (simp [veq] at h)
  | .map i, b, h => by
    cases b <;> simp only [veq, Bool.false_eq_true] at h
    rw [nbeq h]
  | .fn f as bs, b, h => by
    cases b <;> simp only [veq, Bool.and_eq_true, Bool.false_eq_true] at h
    rw [fnEq_ok h.1.1, veqs_ok as _ h.1.2, veqs_ok bs _ h.2]
  | .nilfn, b, h => by cases b <;> first | rfl | (simp [veq] at h)
  | .ifc t v, b, h => by
    cases b <;> simp only [veq, Bool.and_eq_true, Bool.false_eq_true] at h
    rw [nbeq h.1, veq_ok v _ h.2]
  | .nilifc, b, h => by cases b <;> first | rfl | (simp [veq] at h)
  | .agg cs, b, h => by
    cases b <;> simp only [veq, Bool.false_eq_true] at h
    rw [veqs_ok cs _ h]
  | .tup cs, b, h => by
    cases b <;> simp only [veq, Bool.false_eq_true] at h
    rw [veqs_ok cs _ h]
  | .room g sz t n, b, h => by cases b <;> simp [veq] at h
  | .yld i, b, h => by
    cases b <;> simp only [veq, Bool.false_eq_true] at h
    rw [nbeq h]
theorem veqs_ok : ∀ as bs : List AVal, veqs as bs = true → as = bs
  | [], bs, h => by cases bs <;> first | rfl | (simp [veqs] at h)
  | a :: as, bs, h => by
    cases bs with
    | nil => simp [veqs] at h
    | cons b bs =>
      simp only [veqs, Bool.and_eq_true] at h
      rw [veq_ok a b h.1, veqs_ok as bs h.2]
end

def meqs : List (AVal × AVal × Nat) → List (AVal × AVal × Nat) → Bool
  | [], [] => true
  | (a, b, n) :: r, (a', b', n') :: r' => veq a a' && veq b b' && Nat.beq n n' && meqs r r'
  | _, _ => false
theorem meqs_ok : ∀ {a b}, meqs a b = true → a = b
  | [], [], _ => rfl
  | [], _ :: _, h => by simp [meqs] at h
  | _ :: _, [], h => by simp [meqs] at h
  | (a, b, n) :: r, (a', b', n') :: r', h => by
    simp only [meqs, Bool.and_eq_true] at h
    rw [veq_ok _ _ h.1.1.1, veq_ok _ _ h.1.1.2, nbeq h.1.2, meqs_ok h.2]

def peqs : List (AVal × AVal) → List (AVal × AVal) → Bool
  | [], [] => true
  | (a, b) :: r, (a', b') :: r' => veq a a' && veq b b' && peqs r r'
  | _, _ => false
theorem peqs_ok : ∀ {a b}, peqs a b = true → a = b
  | [], [], _ => rfl
  | [], _ :: _, h => by simp [peqs] at h
  | _ :: _, [], h => by simp [peqs] at h
  | (a, b) :: r, (a', b') :: r', h => by
    simp only [peqs, Bool.and_eq_true] at h
    rw [veq_ok _ _ h.1.1, veq_ok _ _ h.1.2, peqs_ok h.2]

def beqB : ABox → ABox → Bool
  | .cells cs t, .cells cs' t' => Nat.beq t t' && veqs cs cs'
  | .grow n sz t, .grow n' sz' t' => Nat.beq n n' && Nat.beq sz sz' && Nat.beq t t'
  | .mp es c, .mp es' c' => Nat.beq c c' && meqs es es'
  | .hole, .hole => true
  | .siter s p, .siter s' p' => s == s' && Nat.beq p p'
  | .mpx es c, .mpx es' c' => Nat.beq c c' && peqs es es'
  | .frz o, .frz o' => (match o, o' with | none, none => true | some a, some b => peqs a b | _, _ => false)
  | .iter m s l q, .iter m' s' l' q' => (match m, m' with | none, none => true | some a, some b => Nat.beq a b | _, _ => false) && Nat.beq s s' && l == l' && Nat.beq q q'
  | _, _ => false
theorem beqB_ok {a b : ABox} (h : beqB a b = true) : a = b := by
  cases a <;> cases b <;> simp only [beqB, Bool.and_eq_true, Bool.false_eq_true] at h
  · rw [nbeq h.1, veqs_ok _ _ h.2]
  · rw [nbeq h.1.1, nbeq h.1.2, nbeq h.2]
  · rw [nbeq h.1, meqs_ok h.2]
  · next m s l q m' s' l' q' =>
    obtain ⟨⟨⟨h1, h2⟩, h3⟩, h4⟩ := h
    rw [nbeq h2, nbeq h4, beq_iff_eq.1 h3]
    cases m <;> cases m' <;> first | rfl | (cases h1; done) | (rw [nbeq h1])
  · rw [nbeq h.1, peqs_ok h.2]
  · next o o' => cases o <;> cases o' <;> first | rfl | (cases h; done) | (rw [peqs_ok h])
  · rfl
  · rw [beq_iff_eq.1 h.1, nbeq h.2]

def seq : St → St → Bool
  | [], [] => true
  | a :: s, b :: s' => beqB a b && seq s s'
  | _, _ => false
theorem seq_ok : ∀ {a b : St}, seq a b = true → a = b
  | [], [], _ => rfl
  | [], _ :: _, h => by simp [seq] at h
  | _ :: _, [], h => by simp [seq] at h
  | a :: s, b :: s', h => by
    simp only [seq, Bool.and_eq_true] at h
    rw [beqB_ok h.1, seq_ok h.2]

def okcB (v : AVal) : Bool := v.cells.all (·.one)
theorem okcB_ok {v : AVal} (h : okcB v = true) : v.okc := fun c hc => List.all_eq_true.1 h c hc

def posB : Bd → Bool
  | none => true
  | some (_, n) => decide (0 ≤ n)
theorem posB_ok {b : Bd} (h : posB b = true) : b.pos := by
  cases b with
  | none => trivial
  | some p => exact (by simpa [posB] using h : 0 ≤ p.2)

def isU8 : TypeDesc → Bool
  | .int k => k == .u8
  | _ => false
theorem isU8_ok {d : TypeDesc} (h : isU8 d = true) : d = .int .u8 := by
  cases d <;> simp only [isU8, Bool.false_eq_true, beq_iff_eq] at h
  rw [h]

def srcTyB (C : Cx) (tx : TypeId) (v : AVal) : Bool :=
  match C.T tx with
  | none => false
  | some i => match v with
    | .str _ => (match i.d with | .string => true | _ => false)
    | _ => (match i.d with | .slice _ => true | _ => false)
theorem srcTyB_ok {C : Cx} {tx : TypeId} {v : AVal} (h : srcTyB C tx v = true) : srcTy C tx v := by
  unfold srcTyB at h
  unfold srcTy
  split at h
  · cases h
  · next i hi =>
    split
    · next s =>
      simp only at h
      split at h
      · next hd => exact ⟨i, hi, hd⟩
      · cases h
    · next hv =>
      split at h
      · next s => exact absurd rfl (hv s)
      · split at h
        · next e hd => exact ⟨i, e, hi, hd⟩
        · cases h

def srcOkB (S : St) (sz : Nat) (v : AVal) : Bool :=
  match v with
  | .sl sz' _ xs _ => Nat.beq sz' sz || xs.isEmpty
  | .str _ => Nat.beq sz 1
  | .view i off n _ => match S[i]? with
    | some (.cells cs _) => Nat.beq sz 1 && decide (off + n ≤ cs.length) && ((cs.drop off).take n).all (·.one)
    | _ => false
  | _ => false
theorem srcOkB_ok {S : St} {sz : Nat} {v : AVal} (h : srcOkB S sz v = true) : srcOk S sz v := by
  unfold srcOkB at h
  split at h
  · rcases Bool.or_eq_true_iff.1 h with h | h
    · exact .inl (nbeq h)
    · exact .inr (by simpa using h)
  · exact nbeq h
  · split at h
    · next cs t hS =>
      simp only [Bool.and_eq_true, decide_eq_true_eq] at h
      exact ⟨nbeq h.1.1, cs, t, hS, h.1.2, fun c hc => List.all_eq_true.1 h.2 c hc⟩
    · cases h
  · cases h

def keysB (C : Cx) (kt : TypeId) (k : AVal) (es : Ents) : Bool := keyFit C kt k && es.all fun e => keyFit C kt e.1
theorem keysB_ok {C : Cx} {kt : TypeId} {k : AVal} {es : Ents} (h : keysB C kt k es = true) : keysOk C kt k es := by
  simp only [keysB, Bool.and_eq_true] at h
  exact ⟨h.1, fun e he => List.all_eq_true.1 h.2 e he⟩

def isI64 : AVal → Bool
  | .int k _ => k == .i64
  | _ => false

section
variable (C : Cx) (g : Nat → AVal) (S : St)

def cLoad (t : TypeId) (v : AVal) : Bool :=
  match C.T t with
  | none => false
  | some i => match v with
    | .cptr cs => decide (i.size ≤ cs.length)
    | .ptr b off => match S[b]? with
      | some (.cells bs _) => decide (off + i.size ≤ bs.length)
      | _ => false
    | _ => false

def cStore (t : TypeId) (a v : AVal) : Bool :=
  match C.T t with
  | none => false
  | some i => match a with
    | .ptr b off => match S[b]? with
      | some (.cells bs _) => decide (off + i.size ≤ bs.length) && Nat.beq v.cells.length i.size && okcB v
      | _ => false
    | _ => false

def cIndexAddr (t : TypeId) (x ix : AVal) : Bool :=
  match C.T t with
  | none => false
  | some i => match i.d with
    | .slice e => match C.T e with
      | none => false
      | some j => match x, ix with
        | .sl sz _ xs _, .int _ n => Nat.beq sz j.size && decide (0 ≤ n) && decide (n.toNat < xs.length)
        | .view _ _ m _, .int _ n => decide (0 ≤ n) && decide (n.toNat < m)
        | _, _ => false
    | .array m e => match C.T e with
      | none => false
      | some _ => match x, ix with
        | .ptr _ _, .int _ n => decide (0 ≤ n) && decide (n.toNat < m)
        | .cptr _, .int _ n => decide (0 ≤ n) && decide (n.toNat < m)
        | _, _ => false
    | _ => false

def cIndex (t : TypeId) (x ix : AVal) : Bool :=
  match C.T t with
  | none => false
  | some i => match i.d with
    | .string => match x, ix with
      | .str s, .int _ n => decide (0 ≤ n) && decide (n.toNat < s.length)
      | _, _ => false
    | .array m e => match C.T e with
      | none => false
      | some j => match x, ix with
        | .agg cs, .int _ n => decide (0 ≤ n) && decide (n.toNat < m) && decide (n.toNat * j.size + j.size ≤ cs.length)
        | _, _ => false
    | _ => false

def cFieldAddr (t : TypeId) (k : Nat) : Bool :=
  match C.T t with
  | none => false
  | some i => match fieldOf i k with
    | none => false
    | some (_, tf) => match C.T tf with
      | none => false
      | some j => !Nat.beq j.size 0

def cField (t : TypeId) (x : AVal) (k : Nat) : Bool :=
  match C.T t with
  | none => false
  | some i => match fieldOf i k with
    | none => false
    | some (off, tf) => match C.T tf with
      | none => false
      | some j => match x with
        | .agg cs => decide (off + j.size ≤ cs.length)
        | _ => false

def cSlice (t : TypeId) (x : AVal) (lo hi mx : Option AVal) : Bool :=
  match C.T t, toBd lo, toBd hi, toBd mx with
  | some i, some l, some h, some m => match i.d with
    | .string => match x with
      | .str s => mx.isNone && posB l && posB h && decide (l.at 0 ≤ h.at s.length) && decide (h.at s.length ≤ s.length)
      | _ => false
    | .slice e => match C.T e with
      | none => false
      | some j => match x with
        | .room _ sz q _ => Nat.beq sz j.size && Nat.beq q e && l.isNone && h.isSome && posB h && Nat.beq (h.at 0) 0 && m.isNone
        | .view _ _ n c => m.isNone && posB l && posB h && decide (l.at 0 ≤ h.at n) && decide (h.at n ≤ c) && (decide (l.at 0 < c) || Nat.beq (l.at 0) 0)
        | .sl sz _ xs _ => Nat.beq sz j.size && posB l && posB h && posB m && decide (l.at 0 ≤ h.at xs.length) && decide (h.at xs.length ≤ xs.length) && (m.isNone || (decide (h.at xs.length ≤ m.at 0) && decide (m.at 0 ≤ xs.length) && h.isSome))
        | _ => false
    | .array n e => match C.T e with
      | none => false
      | some j => match x with
        | .ptr _ _ => mx.isNone && posB l && posB h && decide (l.at 0 ≤ h.at n) && decide (h.at n ≤ n) && (decide (l.at 0 < n) || Nat.beq (l.at 0) 0)
        | .cptr cs => mx.isNone && posB l && posB h && decide (l.at 0 ≤ h.at n) && decide (h.at n ≤ n) && (decide (l.at 0 < n) || Nat.beq (l.at 0) 0) && Nat.beq j.size 1 && cs.all (·.one) && decide (n ≤ cs.length) && decide (n ≤ maxLen)
        | _ => false
    | _ => false
  | _, _, _, _ => false

def cConvert (src dst : TypeId) (x : AVal) : Bool :=
  match C.T src, C.T dst with
  | some i, some j => match i.d, j.d with
    | .int _, .int _ => true
    | .string, .string => true
    | .string, .slice e => match C.T e with
      | some q => match x with
        | .str s => isU8 q.d && decide (s.length ≤ maxLen)
        | _ => false
      | none => false
    | .slice e, .string => match C.T e with
      | some q => match x with
        | .sl sz _ xs _ => isU8 q.d && Nat.beq sz 1 && veqs xs (bl (xs.map unb))
        | _ => false
      | none => false
    | _, _ => false
  | _, _ => false

def cAgg (t : TypeId) (xs ys : List AVal) : Bool :=
  match C.T t with
  | some i => i.isAgg && flatT C.P C.T 20 t && !C.P.eqGuardType C.P.depth t && skbs xs i.zero && skbs ys i.zero
  | none => false

def cNil (t : TypeId) (x y : AVal) : Bool :=
  match C.T t with
  | some i => nilKind i.d x && nilKind i.d y
  | none => false

def cIfc (t : TypeId) : Bool :=
  match C.T t with
  | some i => (match i.d with | .interface _ => true | _ => false)
  | none => false

def cBin (op : BinOp) (t : TypeId) (x y : AVal) : Bool :=
  match op, x, y with
  | .shl, .int _ _, .int _ b => decide (0 ≤ b)
  | .shr, .int _ _, .int _ b => decide (0 ≤ b)
  | op, .int k _, .int k' b => kindEq k k' && (match op with | .quo | .rem => !(b == 0) | _ => true)
  | .add, .str a, .str b => decide (a.length + b.length ≤ maxLen)
  | _, .str _, .str _ => true
  | _, .bool _, .bool _ => true
  | _, .agg xs, .agg ys => cAgg C t xs ys
  | _, .nilifc, .nilifc => cIfc C t
  | _, x, y => cNil C t x y

def cAppend (t tx : TypeId) (x v : AVal) : Bool :=
  match C.T t with
  | none => false
  | some i => match i.d with
    | .slice e => match C.T e with
      | none => false
      | some j => match x with
        | .sl sz _ xs (.grow g) => Nat.beq sz j.size && (match S[g]? with | some (.grow n s q) => Nat.beq n xs.length && Nat.beq s j.size && Nat.beq q e | _ => false) && srcTyB C tx v && srcOkB S j.size v &&
            decide (xs.length + (srcOf S v).length ≤ maxLen) && decide ((xs.length + (srcOf S v).length) * j.bytes ≤ 140737488355328)
        | .sl _ true [] _ => srcTyB C tx v && srcOkB S j.size v && decide ((srcOf S v).length ≤ maxLen) && decide ((srcOf S v).length * j.bytes ≤ 140737488355328)
        | .sl sz _ xs .full => Nat.beq sz j.size && srcTyB C tx v && srcOkB S j.size v && decide (xs.length + (srcOf S v).length ≤ maxLen) && decide ((xs.length + (srcOf S v).length) * j.bytes ≤ 140737488355328)
        | _ => false
    | _ => false

def cAppend0 (t tx : TypeId) (n : Int) : Bool :=
  match C.T t with
  | none => false
  | some i => match i.d with
    | .slice e => match C.T e with
      | none => false
      | some j => decide (0 < n) && decide (0 < j.size) && decide (n ≤ 9223372036854775807) && decide (n.toNat * j.bytes ≤ 140737488355328) && (match C.T tx with | some q => (match q.d with | .int _ => true | _ => false) | none => false)
    | _ => false

def cCopy (t : TypeId) (x v : AVal) : Bool :=
  match C.T t with
  | none => false
  | some i => match i.d with
    | .slice e => match C.T e with
      | none => false
      | some j => match x with
        | .view b off n _ => match S[b]? with
          | some (.cells bs _) => Nat.beq j.size 1 && decide (off + n ≤ bs.length) && srcOkB S 1 v && (srcOf S v).all (·.one)
          | _ => false
        | _ => false
    | _ => false

def cKeys (t : TypeId) (x k : AVal) : Bool :=
  match C.T t with
  | none => false
  | some i => match i.d with
    | .map kt _ => match x with
      | .nilmap => keyFit C kt k
      | .map b => match S[b]? with
        | some (.mp es _) => keysB C kt k es
        | _ => false
      | _ => false
    | _ => false

def cKeysX (t : TypeId) (x k : AVal) (q : List (AVal × AVal) → Bool) : Bool :=
  match C.T t with
  | none => false
  | some i => match i.d with
    | .map kt _ => match x with
      | .map b => match boxX S[b]? with
        | some es => keysB C kt k (tagE es) && q es
        | none => false
      | _ => false
    | _ => false

def cMake (t : TypeId) (l c : AVal) : Bool :=
  match C.T t with
  | none => false
  | some i => match i.d with
    | .slice e => match C.T e with
      | none => false
      | some j => match l, c with
        | .int _ n, .int _ m => isI64 l && isI64 c && decide (0 ≤ n) && decide (n ≤ m) && decide (m ≤ 9223372036854775807) && decide (j.bytes * m.toNat ≤ 140737488355328)
        | _, _ => false
    | _ => false

def cEntry (it : AVal) : Bool :=
  match it with
  | .ptr k 0 => match S[k]? with
    | some (.iter (some mi) _ _ last) => match S[mi]? with
      | some (.mp _ c) => Nat.beq c last
      | _ => false
    | _ => false
  | _ => false

def cS2a (t : TypeId) (v : AVal) : Bool :=
  match C.T t with
  | some i => match i.d with
    | .array n e => match C.T e with
      | some j => match v with
        | .sl sz _ xs _ => Nat.beq sz 1 && Nat.beq j.size 1 && decide (0 < n) && decide (n ≤ xs.length) && (xs.take n).all (·.one)
        | .view _ _ m _ => decide (n ≤ m)
        | _ => false
      | none => false
    | _ => false
  | none => false

def cBuild (t : TypeId) (parts : Array (Nat × Operand)) : Bool :=
  match C.T t with
  | some i => i.isAgg && (match i.d with | .array _ e => (C.T e).isSome | _ => true) && parts.toList.all fun p => okcB (aEval C g p.2)
  | none => false

def cBuildSlice (t : TypeId) (n : Nat) (parts : Array (Nat × Operand)) : Bool :=
  match C.T t with
  | some i => match i.d with
    | .slice e => match C.T e with
      | some j => decide (0 < j.size) && decide (n * j.size ≤ 16777216) && parts.toList.all fun p => okcB (aEval C g p.2)
      | none => false
    | _ => false
  | none => false

def xchk (op : Op) : Bool :=
  match op with
  | .move _ | .assign _ | .pick _ _ _ | .alloc _ | .unOp _ _ _ | .makeFunc _ _ _ | .makeMap _ _ | .range _ _ | .entryStore _ _ _ _ | .nilCheck _ | .next _ true => true
  | .box _ x => okcB (aEval C g x)
  | .build t parts => cBuild C g t parts
  | .buildSlice t n parts => cBuildSlice C g t n parts
  | .load t a => cLoad C S t (aEval C g a)
  | .store t a v => cStore C S t (aEval C g a) (aEval C g v)
  | .binOp op t x y _ => cBin C op t (aEval C g x) (aEval C g y)
  | .convert src dst x => cConvert C src dst (aEval C g x)
  | .sliceToArrayPointer t x => cS2a C t (aEval C g x)
  | .makeInterface t _ => C.P.concrete t
  | .slice t x lo hi mx => cSlice C t (aEval C g x) (lo.map (aEval C g)) (hi.map (aEval C g)) (mx.map (aEval C g))
  | .fieldAddr t _ k => cFieldAddr C t k
  | .field t x k => cField C t (aEval C g x) k
  | .indexAddr t x ix => cIndexAddr C t (aEval C g x) (aEval C g ix)
  | .index t x ix => cIndex C t (aEval C g x) (aEval C g ix)
  | .extract t k => match aEval C g t with
    | .tup vs => Nat.blt k vs.length
    | _ => false
  | .insert t m k _ => cKeys C S t (aEval C g m) (aEval C g k) || cKeysX C S t (aEval C g m) (aEval C g k) (freshX (aEval C g k))
  | .mapUpdate t m k _ => cKeys C S t (aEval C g m) (aEval C g k) || cKeysX C S t (aEval C g m) (aEval C g k) (freshX (aEval C g k))
  | .lookup t m k _ => cKeys C S t (aEval C g m) (aEval C g k) || cKeysX C S t (aEval C g m) (aEval C g k) (oneX (aEval C g k))
  | .mapEntry t m k => cKeys C S t (aEval C g m) (aEval C g k)
  | .entry it => cEntry S (aEval C g it)
  | .makeSlice t l c => cMake C t (aEval C g l) (aEval C g c)
  | .call c => match c.callee with
    | .builtin b => match b, c.argTypes.toList, c.args.toList.map (aEval C g) with
      | .len, [_], [_] => true
      | .append, [t, tx], [x, v] => match x, v with
        | .sl _ true [] _, .int _ n => cAppend0 C t tx n
        | _, _ => cAppend C S t tx x v
      | .cap, [_], [_] => true
      | .copy, [t, _], [x, v] => cCopy C S t x v
      | .delete, [t, _], [x, k] => cKeys C S t x k
      | .min, _, _ => true
      | .max, _, _ => true
      | _, _, _ => false
    | _ => false
  | _ => false
end

section
variable {C : Cx} {g : Nat → AVal} {S : St} {out : Out}

theorem cLoad_ok {t : TypeId} {v : AVal} (h : cLoad C S t v = true) (ha : aLoad C S t v = some out) : out.sd := by
  unfold cLoad at h
  unfold aLoad at ha
  split at ha
  · cases ha
  · next i hi =>
    simp only [hi] at h
    split at ha
    · injection ha with ha; subst ha; exact of_decide_eq_true h
    · split at ha
      · next hb =>
        simp only [hb] at h
        injection ha with ha; subst ha; exact of_decide_eq_true h
      · cases ha
    · cases ha

theorem cStore_ok {t : TypeId} {a v : AVal} (h : cStore C S t a v = true) (ha : aStore C S t a v = some out) : out.sd := by
  unfold cStore at h
  unfold aStore at ha
  split at ha
  · cases ha
  · next i hi =>
    simp only [hi] at h
    split at ha
    · split at ha
      · next hb =>
        simp only [hb, Bool.and_eq_true, decide_eq_true_eq] at h
        injection ha with ha; subst ha; exact ⟨h.1.1, nbeq h.1.2, okcB_ok h.2⟩
      · cases ha
    · cases ha

theorem cIndexAddr_ok {t : TypeId} {x ix : AVal} (h : cIndexAddr C t x ix = true) (ha : aIndexAddr C S t x ix = some out) : out.sd := by
  unfold cIndexAddr at h
  unfold aIndexAddr at ha
  split at ha
  · cases ha
  · next i hi =>
    simp only [hi] at h
    split at ha
    · next e hd =>
      simp only [hd] at h
      split at ha
      · cases ha
      · next j hj =>
        simp only [hj] at h
        split at ha
        · simp only [Bool.and_eq_true, decide_eq_true_eq] at h
          injection ha with ha; subst ha; exact ⟨nbeq h.1.1, h.1.2, h.2⟩
        · simp only [Bool.and_eq_true, decide_eq_true_eq] at h
          injection ha with ha; subst ha; exact h
        · cases ha
    · next m e hd =>
      simp only [hd] at h
      split at ha
      · cases ha
      · next j hj =>
        simp only [hj] at h
        split at ha
        · simp only [Bool.and_eq_true, decide_eq_true_eq] at h
          injection ha with ha; subst ha; exact h
        · simp only [Bool.and_eq_true, decide_eq_true_eq] at h
          injection ha with ha; subst ha; exact h
        · cases ha
    · cases ha

theorem cIndex_ok {t : TypeId} {x ix : AVal} (h : cIndex C t x ix = true) (ha : aIndex C S t x ix = some out) : out.sd := by
  unfold cIndex at h
  unfold aIndex at ha
  split at ha
  · cases ha
  · next i hi =>
    simp only [hi] at h
    split at ha
    · next hd =>
      simp only [hd] at h
      split at ha
      · simp only [Bool.and_eq_true, decide_eq_true_eq] at h
        injection ha with ha; subst ha; exact h
      · cases ha
    · next m e hd =>
      simp only [hd] at h
      split at ha
      · cases ha
      · next j hj =>
        simp only [hj] at h
        split at ha
        · simp only [Bool.and_eq_true, decide_eq_true_eq] at h
          injection ha with ha; subst ha; exact ⟨h.1.1, h.1.2, h.2⟩
        · cases ha
    · cases ha

theorem cFieldAddr_ok {t : TypeId} {x : AVal} {k : Nat} (h : cFieldAddr C t k = true) (ha : aFieldAddr C S t x k = some out) : out.sd := by
  unfold cFieldAddr at h
  unfold aFieldAddr at ha
  split at ha
  · cases ha
  · next i hi =>
    simp only [hi] at h
    split at ha
    · cases ha
    · next off tf hf =>
      simp only [hf] at h
      split at ha
      · cases ha
      · next j hj =>
        simp only [hj, Bool.not_eq_true'] at h
        have hne : j.size ≠ 0 := fun e => by rw [e] at h; simp at h
        split at ha
        · injection ha with ha; subst ha; exact hne
        · injection ha with ha; subst ha; exact hne
        · cases ha

theorem cField_ok {t : TypeId} {x : AVal} {k : Nat} (h : cField C t x k = true) (ha : aField C S t x k = some out) : out.sd := by
  unfold cField at h
  unfold aField at ha
  split at ha
  · cases ha
  · next i hi =>
    simp only [hi] at h
    split at ha
    · cases ha
    · next off tf hf =>
      simp only [hf] at h
      split at ha
      · cases ha
      · next j hj =>
        simp only [hj] at h
        split at ha
        · injection ha with ha; subst ha; exact of_decide_eq_true h
        · cases ha

theorem cSlice_ok {t : TypeId} {x : AVal} {lo hi mx : Option AVal} (h : cSlice C t x lo hi mx = true) (ha : aSlice C S t x lo hi mx = some out) : out.sd := by
  unfold cSlice at h
  unfold aSlice at ha
  split at ha
  · next i l hh m e1 e2 e3 e4 =>
    simp only [e1, e2, e3, e4] at h
    split at ha
    · next hd =>
      simp only [hd] at h
      split at ha
      · simp only [Bool.and_eq_true, decide_eq_true_eq, Option.isNone_iff_eq_none] at h
        injection ha with ha; subst ha
        exact ⟨h.1.1.1.1, posB_ok h.1.1.1.2, posB_ok h.1.1.2, h.1.2, h.2⟩
      · cases ha
    · next e hd =>
      simp only [hd] at h
      split at ha
      · cases ha
      · next j hj =>
        simp only [hj] at h
        split at ha
        · simp only [Bool.and_eq_true, Option.isNone_iff_eq_none] at h
          injection ha with ha; subst ha
          obtain ⟨⟨⟨⟨⟨⟨h1, h2⟩, h3⟩, h4⟩, h5⟩, h6⟩, h7⟩ := h
          exact ⟨nbeq h1, nbeq h2, h3, h4, posB_ok h5, nbeq h6, h7⟩
        · simp only [Bool.and_eq_true, Bool.or_eq_true, decide_eq_true_eq, Option.isNone_iff_eq_none] at h
          injection ha with ha; subst ha
          obtain ⟨⟨⟨⟨⟨h1, h2⟩, h3⟩, h4⟩, h5⟩, h6⟩ := h
          exact ⟨h1, posB_ok h2, posB_ok h3, h4, h5, h6.imp id nbeq⟩
        · simp only [Bool.and_eq_true, Bool.or_eq_true, decide_eq_true_eq, Option.isNone_iff_eq_none] at h
          injection ha with ha; subst ha
          obtain ⟨⟨⟨⟨⟨⟨h1, h2⟩, h3⟩, h4⟩, h5⟩, h6⟩, h7⟩ := h
          exact ⟨nbeq h1, posB_ok h2, posB_ok h3, posB_ok h4, h5, h6, h7.imp id fun q => ⟨q.1.1, q.1.2, q.2⟩⟩
        · cases ha
    · next n e hd =>
      simp only [hd] at h
      split at ha
      · cases ha
      · next j hj =>
        simp only [hj] at h
        split at ha
        · simp only [Bool.and_eq_true, Bool.or_eq_true, decide_eq_true_eq, Option.isNone_iff_eq_none] at h
          injection ha with ha; subst ha
          obtain ⟨⟨⟨⟨⟨h1, h2⟩, h3⟩, h4⟩, h5⟩, h6⟩ := h
          exact ⟨h1, posB_ok h2, posB_ok h3, h4, h5, h6.imp id nbeq⟩
        · simp only [Bool.and_eq_true, Bool.or_eq_true, decide_eq_true_eq, Option.isNone_iff_eq_none] at h
          injection ha with ha; subst ha
          obtain ⟨⟨⟨⟨⟨⟨⟨⟨⟨h1, h2⟩, h3⟩, h4⟩, h5⟩, h6⟩, h7⟩, h8⟩, h9⟩, h10⟩ := h
          exact ⟨h1, posB_ok h2, posB_ok h3, h4, h5, h6.imp id nbeq, nbeq h7, fun c hc => List.all_eq_true.1 h8 c hc, h9, h10⟩
        · cases ha
    · cases ha
  · cases ha

theorem cConvert_ok {src dst : TypeId} {x : AVal} (h : cConvert C src dst x = true) (ha : aConvert C S src dst x = some out) : out.sd := by
  unfold cConvert at h
  unfold aConvert at ha
  split at ha
  · next i j hi hj =>
    simp only [hi, hj] at h
    split at ha
    · split at ha
      · injection ha with ha; subst ha; trivial
      · cases ha
    · split at ha
      · injection ha with ha; subst ha; trivial
      · cases ha
    · next e h1 h2 =>
      simp only [h1, h2] at h
      split at ha
      · next q hq =>
        simp only [hq] at h
        split at ha
        · simp only [Bool.and_eq_true, decide_eq_true_eq] at h
          injection ha with ha; subst ha; exact ⟨isU8_ok h.1, h.2⟩
        · cases ha
      · cases ha
    · next e h1 h2 =>
      simp only [h1, h2] at h
      split at ha
      · next q hq =>
        simp only [hq] at h
        split at ha
        · simp only [Bool.and_eq_true] at h
          injection ha with ha; subst ha; exact ⟨isU8_ok h.1.1, nbeq h.1.2, veqs_ok _ _ h.2⟩
        · cases ha
      · cases ha
    · cases ha
  · cases ha

theorem cNil_ok {t : TypeId} {x y : AVal} (h : cNil C t x y = true) : ∃ i, C.T t = some i ∧ nilKind i.d x = true ∧ nilKind i.d y = true := by
  unfold cNil at h
  split at h
  · next i hi =>
    simp only [Bool.and_eq_true] at h
    exact ⟨i, hi, h⟩
  · cases h

theorem cAppend_ok {t tx : TypeId} {x v : AVal} (h : cAppend C S t tx x v = true) (ha : aAppend C S t tx x v = some out) : out.sd := by
  unfold cAppend at h
  unfold aAppend at ha
  split at ha
  · cases ha
  · next i hi =>
    simp only [hi] at h
    split at ha
    · next e hd =>
      simp only [hd] at h
      split at ha
      · cases ha
      · next j hj =>
        simp only [hj] at h
        split at ha
        · next sz nl xs gg =>
          simp only [Bool.and_eq_true, decide_eq_true_eq] at h
          injection ha with ha; subst ha
          obtain ⟨⟨⟨⟨⟨h1, h2⟩, h3⟩, h4⟩, h5⟩, h6⟩ := h
          refine ⟨nbeq h1, ?_, srcTyB_ok h3, srcOkB_ok h4, h5, h6⟩
          split at h2
          · next n s q hg =>
            simp only [Bool.and_eq_true] at h2
            rw [hg, nbeq h2.1.1, nbeq h2.1.2, nbeq h2.2]
          · cases h2
        · simp only [Bool.and_eq_true, decide_eq_true_eq] at h
          injection ha with ha; subst ha
          exact ⟨srcTyB_ok h.1.1.1, srcOkB_ok h.1.1.2, h.1.2, h.2⟩
        · simp only [Bool.and_eq_true, decide_eq_true_eq] at h
          injection ha with ha; subst ha
          exact ⟨nbeq h.1.1.1.1, srcTyB_ok h.1.1.1.2, srcOkB_ok h.1.1.2, h.1.2, h.2⟩
        · cases ha
    · cases ha

theorem cAppend0_ok {t tx : TypeId} {n : Int} (h : cAppend0 C t tx n = true) (ha : aAppend0 C S t tx n = some out) : out.sd := by
  unfold cAppend0 at h
  unfold aAppend0 at ha
  split at ha
  · cases ha
  · next i hi =>
    simp only [hi] at h
    split at ha
    · next e hd =>
      simp only [hd] at h
      split at ha
      · cases ha
      · next j hj =>
        simp only [hj, Bool.and_eq_true, decide_eq_true_eq] at h
        injection ha with ha; subst ha
        obtain ⟨⟨⟨⟨h1, h2⟩, h3⟩, h4⟩, h5⟩ := h
        refine ⟨h1, h2, h3, h4, ?_⟩
        split at h5
        · next q hq =>
          split at h5
          · next k hk => exact ⟨q, k, hq, hk⟩
          · cases h5
        · cases h5
    · cases ha

theorem cCopy_ok {t tx : TypeId} {x v : AVal} (h : cCopy C S t x v = true) (ha : aCopy C S t tx x v = some out) : out.sd := by
  unfold cCopy at h
  unfold aCopy at ha
  split at ha
  · cases ha
  · next i hi =>
    simp only [hi] at h
    split at ha
    · next e hd =>
      simp only [hd] at h
      split at ha
      · cases ha
      · next j hj =>
        simp only [hj] at h
        split at ha
        · split at ha
          · next hb =>
            simp only [hb, Bool.and_eq_true, decide_eq_true_eq] at h
            injection ha with ha; subst ha
            exact ⟨nbeq h.1.1.1, h.1.1.2, srcOkB_ok h.1.2, fun y hy => List.all_eq_true.1 h.2 y hy⟩
          · cases ha
        · cases ha
    · cases ha
end
end
end Go.Am
