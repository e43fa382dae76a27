/- The abstract layer: one operation, reckoned. -/
import Derived.Test.YtodiaabcaahnjaaGreatDoorAmMap
set_option linter.unusedVariables false
set_option linter.unusedSimpArgs false
namespace Go.Am
open Go
noncomputable section
open Classical
def AVal.okc (v : AVal) : Prop := ∀ c ∈ v.cells, c.one = true
def aLoad (C : Cx) (S : St) (t : TypeId) (v : AVal) : Option Out :=
  match C.T t with
  | none => none
  | some i => match v with
    | .cptr cs => some ⟨i.size ≤ cs.length, ofCells i (cs.take i.size), S⟩
    | .ptr b off => match S[b]? with
      | some (.cells bs _) => some ⟨off + i.size ≤ bs.length, ofCells i ((bs.drop off).take i.size), S⟩
      | some (.row bs _) => some ⟨off + i.size ≤ bs.length, ofCells i ((bs.drop off).take i.size), S⟩
      | _ => none
    | _ => none
def aStore (C : Cx) (S : St) (t : TypeId) (a v : AVal) : Option Out :=
  match C.T t with
  | none => none
  | some i => match a with
    | .ptr b off => match S[b]? with
      | some (.cells bs tb) => some ⟨off + i.size ≤ bs.length ∧ v.cells.length = i.size ∧ v.okc, .raw undef, S.set b (.cells (putCells bs off v.cells) tb)⟩
      | some (.row bs tb) => some ⟨off + i.size ≤ bs.length ∧ v.cells.length = i.size ∧ v.okc, .raw undef, S.set b (.row (putCells bs off v.cells) tb)⟩
      | _ => none
    | _ => none
def aIndexAddr (C : Cx) (S : St) (t : TypeId) (x ix : AVal) : Option Out :=
  match C.T t with
  | none => none
  | some i => match i.d with
    | .slice e => match C.T e with
      | none => none
      | some j => match x, ix with
        | .sl sz _ xs _, .int _ n => some ⟨sz = j.size ∧ 0 ≤ n ∧ n.toNat < xs.length, .cptr ((xs.getD n.toNat .any).cells), S⟩
        | .view b off m _, .int _ n => some ⟨0 ≤ n ∧ n.toNat < m, .ptr b (off + n.toNat * j.size), S⟩
        | .vrow b off m, .int _ n => some ⟨0 ≤ n ∧ n.toNat < m, .ptr b (off + n.toNat * j.size), S⟩
        | _, _ => none
    | .array m e => match C.T e with
      | none => none
      | some j => match x, ix with
        | .ptr b off, .int _ n => some ⟨0 ≤ n ∧ n.toNat < m, .ptr b (off + n.toNat * j.size), S⟩
        | .cptr cs, .int _ n => some ⟨0 ≤ n ∧ n.toNat < m, .cptr (cs.drop (n.toNat * j.size)), S⟩
        | _, _ => none
    | _ => none
def aIndex (C : Cx) (S : St) (t : TypeId) (x ix : AVal) : Option Out :=
  match C.T t with
  | none => none
  | some i => match i.d with
    | .string => match x, ix with
      | .str s, .int _ n => some ⟨0 ≤ n ∧ n.toNat < s.length, .int .u8 ((s.getD n.toNat 0).toNat : Int), S⟩
      | _, _ => none
    | .array m e => match C.T e with
      | none => none
      | some j => match x, ix with
        | .agg cs, .int _ n => some ⟨0 ≤ n ∧ n.toNat < m ∧ n.toNat * j.size + j.size ≤ cs.length, ofCells j ((cs.drop (n.toNat * j.size)).take j.size), S⟩
        | _, _ => none
    | _ => none
def aFieldAddr (C : Cx) (S : St) (t : TypeId) (x : AVal) (k : Nat) : Option Out :=
  match C.T t with
  | none => none
  | some i => match fieldOf i k with
    | none => none
    | some (off, tf) => match C.T tf with
      | none => none
      | some j => match x with
        | .ptr b o => some ⟨j.size ≠ 0, .ptr b (o + off), S⟩
        | .cptr cs => some ⟨j.size ≠ 0, .cptr (cs.drop off), S⟩
        | _ => none
def aField (C : Cx) (S : St) (t : TypeId) (x : AVal) (k : Nat) : Option Out :=
  match C.T t with
  | none => none
  | some i => match fieldOf i k with
    | none => none
    | some (off, tf) => match C.T tf with
      | none => none
      | some j => match x with
        | .agg cs => some ⟨off + j.size ≤ cs.length, ofCells j ((cs.drop off).take j.size), S⟩
        | _ => none
def toBd : Option AVal → Option Bd
  | none => some none
  | some (.int k n) => some (some (k, n))
  | _ => none
def aSlice (C : Cx) (S : St) (t : TypeId) (x : AVal) (lo hi mx : Option AVal) : Option Out :=
  match C.T t, toBd lo, toBd hi, toBd mx with
  | some i, some l, some h, some m => match i.d with
    | .string => match x with
      | .str s => some ⟨mx = none ∧ l.pos ∧ h.pos ∧ l.at 0 ≤ h.at s.length ∧ h.at s.length ≤ s.length, .str ((s.take (h.at s.length)).drop (l.at 0)), S⟩
      | _ => none
    | .slice e => match C.T e with
      | none => none
      | some j => match x with
        | .room g sz q n => some ⟨sz = j.size ∧ q = e ∧ l = none ∧ h.isSome = true ∧ h.pos ∧ h.at 0 = 0 ∧ m = none, .sl j.size false [] (.grow g), S⟩
        | .view b off n c => some ⟨m = none ∧ l.pos ∧ h.pos ∧ l.at 0 ≤ h.at n ∧ h.at n ≤ c ∧ (l.at 0 < c ∨ l.at 0 = 0), .view b (off + l.at 0 * j.size) (h.at n - l.at 0) (c - l.at 0), S⟩
        | .sl sz nl xs _ => some ⟨sz = j.size ∧ l.pos ∧ h.pos ∧ m.pos ∧ l.at 0 ≤ h.at xs.length ∧ h.at xs.length ≤ xs.length ∧ (m = none ∨ (h.at xs.length ≤ m.at 0 ∧ m.at 0 ≤ xs.length ∧ h.isSome = true)),
            .sl sz nl ((xs.take (h.at xs.length)).drop (l.at 0)) (cutTag xs.length h m), S⟩
        | _ => none
    | .array n e => match C.T e with
      | none => none
      | some j => match x with
        | .ptr b off => some ⟨mx = none ∧ l.pos ∧ h.pos ∧ l.at 0 ≤ h.at n ∧ h.at n ≤ n ∧ (l.at 0 < n ∨ l.at 0 = 0), .view b (off + l.at 0 * j.size) (h.at n - l.at 0) (n - l.at 0), S⟩
        | .cptr cs => some ⟨mx = none ∧ l.pos ∧ h.pos ∧ l.at 0 ≤ h.at n ∧ h.at n ≤ n ∧ (l.at 0 < n ∨ l.at 0 = 0) ∧ j.size = 1 ∧ (∀ c ∈ cs, c.one = true) ∧ n ≤ cs.length ∧ n ≤ maxLen, .sl 1 false ((cs.take (h.at n)).drop (l.at 0)) .any, S⟩
        | _ => none
    | _ => none
  | _, _, _, _ => none
def aConvert (C : Cx) (S : St) (src dst : TypeId) (x : AVal) : Option Out :=
  match C.T src, C.T dst with
  | some i, some j => match i.d, j.d with
    | .int _, .int k => match x with
      | .int _ n => some ⟨True, .int k (k.wrap n), S⟩
      | _ => none
    | .string, .string => match x with
      | .str s => some ⟨True, .str s, S⟩
      | _ => none
    | .string, .slice e => match C.T e with
      | some q => match x with
        | .str s => some ⟨q.d = .int .u8 ∧ s.length ≤ maxLen, .sl 1 false (bl s) .any, S⟩
        | _ => none
      | none => none
    | .slice _, .slice e => match C.T e with
      | some q => match x with
        | .sl sz false xs .lit => some ⟨src = dst ∧ q.d = .int .u8, .sl sz false xs .full, S⟩
        | _ => none
      | none => none
    | .slice e, .string => match C.T e with
      | some q => match x with
        | .sl sz _ xs _ => some ⟨q.d = .int .u8 ∧ sz = 1 ∧ xs = bl (xs.map unb), .str (xs.map unb), S⟩
        | _ => none
      | none => none
    | _, _ => none
  | _, _ => none
def nilEq : AVal → AVal → Option Bool
  | .nilp, .nilp => some true
  | .ptr _ _, .nilp | .nilp, .ptr _ _ | .cptr _, .nilp | .nilp, .cptr _ => some false
  | .sl _ nl _ _, .sl _ true [] _ => some nl
  | .view _ _ _ _, .sl _ true [] _ => some false
  | .nilmap, .nilmap => some true
  | .map _, .nilmap => some false
  | .nilfn, .nilfn => some true
  | .fn _ _ _, .nilfn => some false
  | .ifc _ _, .nilifc => some false
  | _, _ => none
def nilKind : TypeDesc → AVal → Bool
  | .pointer _, .nilp | .pointer _, .ptr _ _ | .pointer _, .cptr _ => true
  | .slice _, .sl _ _ _ _ | .slice _, .view _ _ _ _ => true
  | .map _ _, .nilmap | .map _ _, .map _ => true
  | .func _ _ _, .nilfn | .func _ _ _, .fn _ _ _ => true
  | .interface _, .nilifc | .interface _, .ifc _ _ => true
  | _, _ => false
def aBin (C : Cx) (S : St) (op : BinOp) (t : TypeId) (ox oy : Operand) (x y : AVal) : Option Out :=
  match op, x, y with
  | .shl, .int k a, .int _ b => some ⟨0 ≤ b, .int k (k.wrap (a * 2 ^ (min b.toNat k.bits))), S⟩
  | .shr, .int k a, .int _ b => some ⟨0 ≤ b, .int k (a.fdiv (2 ^ (min b.toNat k.bits))), S⟩
  | op, .int k a, .int k' b => (intBin op k a b).map fun (sd, r) => ⟨k = k' ∧ sd, r, S⟩
  | op, .str a, .str b => (strBin op a b).map fun (sd, r) => ⟨sd, r, S⟩
  | op, .bool a, .bool b => match C.T t with
    | some i => match i.d, op with
      | .bool, .eql => some ⟨True, .bool (a == b), S⟩
      | .bool, .neq => some ⟨True, .bool (!(a == b)), S⟩
      | _, _ => none
    | none => none
  | op, .agg xs, .agg ys => match C.T t with
    | some i => match op with
      | .eql => some ⟨i.isAgg = true ∧ flatT C.P C.T 20 t = true ∧ C.P.eqGuardType C.P.depth t = false ∧ skbs xs i.zero = true ∧ skbs ys i.zero = true, .bool (decide (xs = ys)), S⟩
      | .neq => some ⟨i.isAgg = true ∧ flatT C.P C.T 20 t = true ∧ C.P.eqGuardType C.P.depth t = false ∧ skbs xs i.zero = true ∧ skbs ys i.zero = true, .bool (!decide (xs = ys)), S⟩
      | _ => none
    | none => none
  | op, .nilifc, .nilifc => match ox, oy, op with
    | _, .const _, .eql => some ⟨∃ i m, C.T t = some i ∧ i.d = .interface m, .bool true, S⟩
    | _, .const _, .neq => some ⟨∃ i m, C.T t = some i ∧ i.d = .interface m, .bool false, S⟩
    | _, _, _ => none
  | op, x, y => match C.T t with
    | some i => match op, nilEq x y with
      | .eql, some b => some ⟨nilKind i.d x = true ∧ nilKind i.d y = true, .bool b, S⟩
      | .neq, some b => some ⟨nilKind i.d x = true ∧ nilKind i.d y = true, .bool (!b), S⟩
      | _, _ => none
    | none => none
def aUn (S : St) (op : UnOp) (x : AVal) : Option Out :=
  match op, x with
  | .neg, .int k n => some ⟨True, .int k (k.wrap (0 - n)), S⟩
  | .xor, .int k n => some ⟨True, .int k (bits .xor k (if k.signed then -1 else k.max) n), S⟩
  | .not, .bool b => some ⟨True, .bool (!b), S⟩
  | _, _ => none
def aLen (C : Cx) (S : St) (t : TypeId) (x : AVal) : Option Out :=
  match C.T t with
  | none => none
  | some i => match i.d with
    | .slice _ => match x with
      | .sl _ _ xs _ => some ⟨True, .int .i64 xs.length, S⟩
      | .view _ _ n _ => some ⟨True, .int .i64 n, S⟩
      | .vrow _ _ n => some ⟨True, .int .i64 n, S⟩
      | _ => none
    | .string => match x with
      | .str s => some ⟨True, .int .i64 s.length, S⟩
      | _ => none
    | .array n _ => some ⟨True, .int .i64 n, S⟩
    | .map _ _ => match x with
      | .nilmap => some ⟨True, .int .i64 0, S⟩
      | .map b => match S[b]? with
        | some (.mp es _) => some ⟨True, .int .i64 es.length, S⟩
        | _ => none
      | _ => none
    | _ => none
def foldI (f : Int → Int → Int) : Int → List AVal → Option Int
  | a, [] => some a
  | a, .int _ b :: rest => foldI f (f a b) rest
  | _, _ => none
def foldMM (f : Int → Int → Int) : List AVal → Option AVal
  | .int k a :: rest => (foldI f a rest).map (.int k)
  | _ => none
def minI (a b : Int) : Int := if b < a then b else a
def maxI (a b : Int) : Int := if a < b then b else a
def aMakeSlice (C : Cx) (S : St) (t : TypeId) (l c : AVal) : Option Out :=
  match C.T t with
  | none => none
  | some i => match i.d with
    | .slice e => match C.T e with
      | none => none
      | some j => match l, c with
        | .int _ n, .int _ m => some ⟨l = .int .i64 n ∧ c = .int .i64 m ∧ 0 ≤ n ∧ n ≤ m ∧ m ≤ 9223372036854775807 ∧ j.bytes * m.toNat ≤ 140737488355328, .view S.length 0 n.toNat m.toNat, S ++ [.cells (List.replicate m.toNat j.zero).flatten e]⟩
        | _, _ => none
    | _ => none
def srcTy (C : Cx) (tx : TypeId) (v : AVal) : Prop :=
  match v with
  | .str _ => ∃ i, C.T tx = some i ∧ i.d = .string
  | _ => ∃ i e, C.T tx = some i ∧ i.d = .slice e
def aAppend0 (C : Cx) (S : St) (t tx : TypeId) (n : Int) : Option Out :=
  match C.T t with
  | none => none
  | some i => match i.d with
    | .slice e => match C.T e with
      | none => none
      | some j => some ⟨0 < n ∧ 0 < j.size ∧ n ≤ 9223372036854775807 ∧ n.toNat * j.bytes ≤ 140737488355328 ∧ ∃ q k, C.T tx = some q ∧ q.d = .int k, .room S.length j.size e n.toNat, S ++ [.grow 0 j.size e]⟩
    | _ => none
def aCap (C : Cx) (S : St) (t : TypeId) (x : AVal) : Option Out :=
  match C.T t with
  | none => none
  | some i => match i.d with
    | .slice _ => match x with
      | .sl _ true [] _ => some ⟨True, .int .i64 0, S⟩
      | .view _ _ _ c => some ⟨True, .int .i64 c, S⟩
      | _ => none
    | _ => none
def aAppend (C : Cx) (S : St) (t tx : TypeId) (x v : AVal) : Option Out :=
  match C.T t with
  | none => none
  | some i => match i.d with
    | .slice e => match C.T e with
      | none => none
      | some j => match x with
        | .sl sz nl xs (.grow g) => some ⟨sz = j.size ∧ S[g]? = some (.grow xs.length j.size e) ∧ srcTy C tx v ∧ srcOk S j.size v ∧ xs.length + (srcOf S v).length ≤ maxLen ∧ (xs.length + (srcOf S v).length) * j.bytes ≤ 140737488355328,
            .sl j.size (nl && (srcOf S v).isEmpty) (xs ++ srcOf S v) (.grow g), S.set g (.grow (xs.length + (srcOf S v).length) j.size e)⟩
        | .sl sz nl xs (.own g) => some ⟨sz = j.size ∧ S[g]? = some (.grow xs.length j.size e) ∧ srcTy C tx v ∧ srcOk S j.size v ∧ xs.length + (srcOf S v).length ≤ maxLen ∧ (xs.length + (srcOf S v).length) * j.bytes ≤ 140737488355328,
            .sl j.size (nl && (srcOf S v).isEmpty) (xs ++ srcOf S v) (.own g), S.set g (.grow (xs.length + (srcOf S v).length) j.size e)⟩
        | .sl _ true [] _ => some ⟨srcTy C tx v ∧ srcOk S j.size v ∧ (srcOf S v).length ≤ maxLen ∧ (srcOf S v).length * j.bytes ≤ 140737488355328,
            .sl j.size (srcOf S v).isEmpty (srcOf S v) (.grow S.length), S ++ [.grow (srcOf S v).length j.size e]⟩
        | .sl sz nl xs .full => some ⟨sz = j.size ∧ srcTy C tx v ∧ srcOk S j.size v ∧ xs.length + (srcOf S v).length ≤ maxLen ∧ (xs.length + (srcOf S v).length) * j.bytes ≤ 140737488355328,
            .sl j.size (nl && (srcOf S v).isEmpty) (xs ++ srcOf S v) (.grow S.length), S ++ [.grow (xs.length + (srcOf S v).length) j.size e]⟩
        | _ => none
    | _ => none
def aCopy (C : Cx) (S : St) (t tx : TypeId) (x v : AVal) : Option Out :=
  match C.T t with
  | none => none
  | some i => match i.d with
    | .slice e => match C.T e with
      | none => none
      | some j => match x with
        | .view b off n _ => match S[b]? with
          | some (.cells bs tb) => some ⟨j.size = 1 ∧ off + n ≤ bs.length ∧ srcOk S 1 v ∧ ∀ y ∈ srcOf S v, y.one = true,
              .int .i64 (min (srcOf S v).length n : Nat), S.set b (.cells (putCells bs off ((srcOf S v).take n)) tb)⟩
          | _ => none
        | _ => none
    | _ => none
def aBuiltin (C : Cx) (S : St) (b : Builtin) (ts : List TypeId) (xs : List AVal) : Option Out :=
  match b, ts, xs with
  | .len, [t], [x] => aLen C S t x
  | .append, [t, tx], [x, v] => match v, x with
    | .int _ n, .sl _ true [] _ => aAppend0 C S t tx n
    | _, _ => aAppend C S t tx x v
  | .cap, [t], [x] => aCap C S t x
  | .copy, [t, tx], [x, v] => aCopy C S t tx x v
  | .delete, [t, _], [x, k] => aDelete C S t x k
  | .min, _, xs => (foldMM minI xs).map fun r => ⟨True, r, S⟩
  | .max, _, xs => (foldMM maxI xs).map fun r => ⟨True, r, S⟩
  | _, _, _ => none
def aStep (C : Cx) (op : Op) (g : Nat → AVal) (S : St) : Option Out :=
  match op with
  | .move x | .assign x => some ⟨True, aEval C g x, S⟩
  | .pick c a b => match aEval C g c with
    | .bool t => some ⟨True, if t = true then aEval C g a else aEval C g b, S⟩
    | _ => none
  | .alloc t => match C.T t with
    | some i => some ⟨True, .ptr S.length 0, S ++ [.cells i.zero t]⟩
    | none => none
  | .box t x => some ⟨(aEval C g x).okc, .ptr S.length 0, S ++ [.cells (aEval C g x).cells t]⟩
  | .build t parts => match C.T t with
    | some i => match fillCells (placeOf C.T i) i.zero (parts.toList.map fun p => (p.1, aEval C g p.2)) with
      | some out => some ⟨i.isAgg = true ∧ (∀ n e, i.d = .array n e → (C.T e).isSome = true) ∧ ∀ p ∈ parts.toList, (aEval C g p.2).okc, .agg out, S⟩
      | none => none
    | none => none
  | .buildSlice t n parts => match C.T t with
    | some i => match i.d with
      | .slice e => match C.T e with
        | some j => match setElems j.size (List.replicate n (ofCells j j.zero)) (parts.toList.map fun p => (p.1, aEval C g p.2)) with
          | some out => some ⟨0 < j.size ∧ n * j.size ≤ 16777216 ∧ ∀ p ∈ parts.toList, (aEval C g p.2).okc, .sl j.size false out .full, S⟩
          | none => none
        | none => none
      | _ => none
    | none => none
  | .load t a => aLoad C S t (aEval C g a)
  | .store t a v => aStore C S t (aEval C g a) (aEval C g v)
  | .nilCheck x => match aEval C g x with
    | .ptr b o => some ⟨True, .ptr b o, S⟩
    | .cptr cs => some ⟨True, .cptr cs, S⟩
    | .fn (.func f) as bs => some ⟨True, .fn (.func f) as bs, S⟩
    | _ => none
  | .binOp op t x y _ => aBin C S op t x y (aEval C g x) (aEval C g y)
  | .unOp op _ x => aUn S op (aEval C g x)
  | .convert src dst x => aConvert C S src dst (aEval C g x)
  | .sliceToArrayPointer t x => match C.T t with
    | some i => match i.d with
      | .array n e => match C.T e with
        | some j => match aEval C g x with
          | .sl sz _ xs _ => some ⟨sz = 1 ∧ j.size = 1 ∧ 0 < n ∧ n ≤ xs.length ∧ ∀ c ∈ xs.take n, c.one = true, .cptr (xs.take n), S⟩
          | .view b off m _ => some ⟨n ≤ m, .ptr b off, S⟩
          | _ => none
        | none => none
      | _ => none
    | none => none
  | .makeInterface t x => some ⟨C.P.concrete t = true, .ifc t (aEval C g x), S⟩
  | .makeFunc fn as bs => some ⟨True, .fn fn (as.toList.map (aEval C g)) (bs.toList.map (aEval C g)), S⟩
  | .slice t x lo hi mx => aSlice C S t (aEval C g x) (lo.map (aEval C g)) (hi.map (aEval C g)) (mx.map (aEval C g))
  | .fieldAddr t x k => aFieldAddr C S t (aEval C g x) k
  | .field t x k => aField C S t (aEval C g x) k
  | .indexAddr t x ix => aIndexAddr C S t (aEval C g x) (aEval C g ix)
  | .index t x ix => aIndex C S t (aEval C g x) (aEval C g ix)
  | .extract t k => match aEval C g t with
    | .tup vs => some ⟨k < vs.length, vs.getD k .any, S⟩
    | _ => none
  | .makeMap _ r => aMakeMap S (r.map (aEval C g))
  | .insert t m k x => aMapUpdate C S t (aEval C g m) (aEval C g k) (aEval C g x)
  | .mapUpdate t m k x => aMapUpdate C S t (aEval C g m) (aEval C g k) (aEval C g x)
  | .lookup t m k ok => aLookup C S t (aEval C g m) (aEval C g k) ok
  | .mapEntry t m k => aMapEntry C S t (aEval C g m) (aEval C g k)
  | .entryStore _ m st x => aEntryStore S (aEval C g m) (aEval C g st) (aEval C g x)
  | .range t x => aRange C S t (aEval C g x)
  | .entry it => aEntry S (aEval C g it)
  | .next it true => aNextS S (aEval C g it)
  | .makeSlice t l c => aMakeSlice C S t (aEval C g l) (aEval C g c)
  | .call c => match c.callee with
    | .builtin b => aBuiltin C S b c.argTypes.toList (c.args.toList.map (aEval C g))
    | _ => none
  | _ => none
end
end Go.Am
