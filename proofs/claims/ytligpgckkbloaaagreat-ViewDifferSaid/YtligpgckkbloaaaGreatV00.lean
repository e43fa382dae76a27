/- View chapter: cells of numbers, pages, vCPUs; whether they are the same. -/
import Derived.Test.YtligpgckkbloaaaGreatP01
set_option linter.unusedVariables false
set_option linter.unusedSimpArgs false
namespace Go.Am
open Go Go.Proofs
set_option maxHeartbeats 8000000
set_option maxRecDepth 100000
def wl (ws : List Nat) : List AVal := ws.map fun (w : Nat) => .int .u64 ((w : Nat) : Int)
@[simp] theorem length_wl (ws : List Nat) : (wl ws).length = ws.length := by simp [wl]
@[simp] theorem closed_wl (ws : List Nat) : (∀ x ∈ wl ws, Closed x) ↔ True := ⟨fun _ => trivial, fun _ x hx => by obtain ⟨b, _, rfl⟩ := List.mem_map.1 hx; simp⟩
theorem one_wl (l : List Nat) : (∀ c ∈ wl l, c.one = true) ↔ True := ⟨fun _ => trivial, fun _ c hc => by obtain ⟨b, _, rfl⟩ := List.mem_map.1 hc; rfl⟩
attribute [go_sem] length_wl one_wl
theorem skbs_cons (x y : AVal) (a b : List AVal) : skbs (x :: a) (y :: b) = (skb x y && skbs a b) := rfl
theorem skb_int (k : IntKind) (a b : Int) : skb (.int k a) (.int k b) = true := by simp [skb]
theorem skbs_by : ∀ {a b : List UInt8}, a.length = b.length → skbs (bl a) (bl b) = true
  | [], [], _ => rfl
  | [], _ :: _, h => by cases h
  | _ :: _, [], h => by cases h
  | x :: a, y :: b, h => by
    show skbs (.int .u8 x.toNat :: bl a) (.int .u8 y.toNat :: bl b) = true
    rw [skbs_cons, skb_int, skbs_by (by simpa using h)]; rfl
structure Pg where
  n : Int
  b : List UInt8
deriving DecidableEq
def pgC (p : Pg) : List AVal := .int .i64 p.n :: bl p.b
def Pg.Ok (p : Pg) : Prop := p.b.length = 128
structure Rc where
  g : Int
  rd : Int
  inst : Nat
  regs : List Nat
  pc : Nat
  run : Bool
  w : Int
deriving DecidableEq
def rcC (r : Rc) : List AVal := .int .i64 r.g :: .int .i64 r.rd :: .int .u64 (r.inst : Nat) :: (wl r.regs ++ [.int .u64 (r.pc : Nat), .bool r.run, .int .i64 r.w])
def Rc.Ok (r : Rc) : Prop := r.regs.length = 8
end Go.Am
