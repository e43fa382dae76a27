/- View chapter: cells of numbers, pages, vCPUs; whether they are the same. -/
import Derived.Test.YtligpgckkbloaaaGreatP01
set_option linter.unusedVariables false
set_option linter.unusedSimpArgs false
namespace Go.Am
open Go Go.Proofs
set_option maxHeartbeats 8000000
set_option maxRecDepth 100000
def wl (ws : List Nat) : List AVal := ws.map fun (w : Nat) => .int .u64 ((w : Nat) : Int)
@[simp] theorem length_wl (ws : List Nat) : (wl ws).length = ws.length := by simp [wl]
@[simp] theorem closed_wl (ws : List Nat) : (∀ x ∈ wl ws, Closed x) ↔ True := ⟨fun _ => trivial, fun _ x hx => by obtain ⟨b, _, rfl⟩ := List.mem_map.1 hx; simp⟩
theorem one_wl (l : List Nat) : (∀ c ∈ wl l, c.one = true) ↔ True := ⟨fun _ => trivial, fun _ c hc => by obtain ⟨b, _, rfl⟩ := List.mem_map.1 hc; rfl⟩
attribute [go_sem] length_wl one_wl
theorem aeqs_cons (x y : AVal) (a b : List AVal) : aeqs (x :: a) (y :: b) = (aeq x y && aeqs a b) := rfl
theorem aeq_int (k q : IntKind) (x y : Int) : aeq (.int k x) (.int q y) = (x == y) := rfl
theorem skbs_cons (x y : AVal) (a b : List AVal) : skbs (x :: a) (y :: b) = (skb x y && skbs a b) := rfl
theorem skb_int (k : IntKind) (a b : Int) : skb (.int k a) (.int k b) = true := by simp [skb]
theorem skbs_app : ∀ {a b c d : List AVal}, skbs a b = true → skbs c d = true → skbs (a ++ c) (b ++ d) = true
  | [], [], _, _, _, h => h
  | [], _ :: _, _, _, h, _ => by cases h
  | _ :: _, [], _, _, h, _ => by cases h
  | x :: a, y :: b, c, d, h, k => by
    rw [skbs_cons, Bool.and_eq_true] at h
    rw [List.cons_append, List.cons_append, skbs_cons, h.1, skbs_app h.2 k]
    rfl
theorem aeqs_app : ∀ {a b c d : List AVal}, a.length = b.length → aeqs (a ++ c) (b ++ d) = (aeqs a b && aeqs c d)
  | [], [], _, _, _ => by simp [aeqs]
  | [], _ :: _, _, _, h => by cases h
  | _ :: _, [], _, _, h => by cases h
  | x :: a, y :: b, c, d, h => by
    rw [List.cons_append, List.cons_append, aeqs_cons, aeqs_cons, aeqs_app (by simpa using h), Bool.and_assoc]
theorem skbs_wl : ∀ {a b : List Nat}, a.length = b.length → skbs (wl a) (wl b) = true
  | [], [], _ => rfl
  | [], _ :: _, h => by cases h
  | _ :: _, [], h => by cases h
  | x :: a, y :: b, h => by
    show skbs (.int .u64 x :: wl a) (.int .u64 y :: wl b) = true
    rw [skbs_cons, skb_int, skbs_wl (by simpa using h)]; rfl
theorem aeqs_wl : ∀ {a b : List Nat}, a.length = b.length → aeqs (wl a) (wl b) = decide (a = b)
  | [], [], _ => rfl
  | [], _ :: _, h => by cases h
  | _ :: _, [], h => by cases h
  | x :: a, y :: b, h => by
    show aeqs (.int .u64 x :: wl a) (.int .u64 y :: wl b) = _
    rw [aeqs_cons, aeq_int, aeqs_wl (by simpa using h)]
    by_cases h1 : x = y
    · subst h1; simp
    · have : ¬ ((x : Int) = (y : Int)) := by omega
      simp [h1, this]
theorem skbs_by : ∀ {a b : List UInt8}, a.length = b.length → skbs (bl a) (bl b) = true
  | [], [], _ => rfl
  | [], _ :: _, h => by cases h
  | _ :: _, [], h => by cases h
  | x :: a, y :: b, h => by
    show skbs (.int .u8 x.toNat :: bl a) (.int .u8 y.toNat :: bl b) = true
    rw [skbs_cons, skb_int, skbs_by (by simpa using h)]; rfl
theorem aeqs_by : ∀ {a b : List UInt8}, a.length = b.length → aeqs (bl a) (bl b) = decide (a = b)
  | [], [], _ => rfl
  | [], _ :: _, h => by cases h
  | _ :: _, [], h => by cases h
  | x :: a, y :: b, h => by
    show aeqs (.int .u8 x.toNat :: bl a) (.int .u8 y.toNat :: bl b) = _
    rw [aeqs_cons, aeq_int, aeqs_by (by simpa using h)]
    by_cases h1 : x = y
    · subst h1; simp
    · have : ¬ ((x.toNat : Int) = (y.toNat : Int)) := fun e => h1 (UInt8.toNat_inj.1 (by omega))
      simp [h1, this]
structure Pg where
  n : Int
  b : List UInt8
deriving DecidableEq
def pgC (p : Pg) : List AVal := .int .i64 p.n :: bl p.b
def Pg.Ok (p : Pg) : Prop := p.b.length = 128
structure Rc where
  g : Int
  rd : Int
  inst : Nat
  regs : List Nat
  pc : Nat
  run : Bool
  w : Int
deriving DecidableEq
def rcC (r : Rc) : List AVal := .int .i64 r.g :: .int .i64 r.rd :: .int .u64 (r.inst : Nat) :: (wl r.regs ++ [.int .u64 (r.pc : Nat), .bool r.run, .int .i64 r.w])
def Rc.Ok (r : Rc) : Prop := r.regs.length = 8
theorem pg_sz (p : Pg) (h : p.Ok) : (pgC p).length = 129 := by
  have h : p.b.length = 128 := h
  simp [pgC, length_bl, h]
theorem pg_eq (p q : Pg) (hp : p.Ok) (hq : q.Ok) : aeqs (pgC p) (pgC q) = decide (p = q) := by
  have hp : p.b.length = 128 := hp
  have hq : q.b.length = 128 := hq
  obtain ⟨n, b⟩ := p
  obtain ⟨m, c⟩ := q
  simp only at hp hq
  unfold pgC
  rw [aeqs_cons, aeq_int, aeqs_by (by simp only; omega)]
  by_cases h1 : n = m <;> by_cases h2 : b = c <;> simp [h1, h2]
theorem pg_sk (p q : Pg) (hp : p.Ok) (hq : q.Ok) : skbs (pgC p) (pgC q) = true := by
  have hp : p.b.length = 128 := hp
  have hq : q.b.length = 128 := hq
  unfold pgC
  rw [skbs_cons, skb_int, skbs_by (by omega)]; rfl
theorem rc_sz (r : Rc) (h : r.Ok) : (rcC r).length = 14 := by
  have h : r.regs.length = 8 := h
  simp [rcC, h]
theorem rc_eq (p q : Rc) (hp : p.Ok) (hq : q.Ok) : aeqs (rcC p) (rcC q) = decide (p = q) := by
  have hp : p.regs.length = 8 := hp
  have hq : q.regs.length = 8 := hq
  obtain ⟨g, rd, i, rs, pc, rn, w⟩ := p
  obtain ⟨g', rd', i', rs', pc', rn', w'⟩ := q
  simp only at hp hq
  unfold rcC
  simp only
  rw [aeqs_cons, aeqs_cons, aeqs_cons, aeq_int, aeq_int, aeq_int, aeqs_app (by rw [length_wl, length_wl]; omega), aeqs_wl (by omega)]
  have e1 : ((i : Int) == (i' : Int)) = decide (i = i') := by
    by_cases h : i = i'
    · subst h; simp
    · have : ¬ ((i : Int) = (i' : Int)) := by omega
      simp [h, this]
  have e2 : ((pc : Int) == (pc' : Int)) = decide (pc = pc') := by
    by_cases h : pc = pc'
    · subst h; simp
    · have : ¬ ((pc : Int) = (pc' : Int)) := by omega
      simp [h, this]
  show (g == g' && (rd == rd' && ((i : Int) == (i' : Int) && (decide (rs = rs') && ((pc : Int) == (pc' : Int) && ((rn == rn') && ((w == w') && true))))))) = _
  rw [e1, e2]
  by_cases h1 : g = g' <;> by_cases h2 : rd = rd' <;> by_cases h3 : i = i' <;> by_cases h4 : rs = rs' <;> by_cases h5 : pc = pc' <;> by_cases h6 : rn = rn' <;> by_cases h7 : w = w' <;> simp [h1, h2, h3, h4, h5, h6, h7]
theorem rc_sk (p q : Rc) (hp : p.Ok) (hq : q.Ok) : skbs (rcC p) (rcC q) = true := by
  have hp : p.regs.length = 8 := hp
  have hq : q.regs.length = 8 := hq
  unfold rcC
  rw [skbs_cons, skbs_cons, skbs_cons, skb_int, skb_int, skb_int, skbs_app (skbs_wl (by omega)) (by simp [skbs, skb])]; rfl
end Go.Am
