/-
  A CONNECTION IN PLAIN LEAN: what becomes of it by a segment, as the code does it. Nothing of the program. No condition.
-/
import Derived.Test.YtelbaooifmkpkaaKit
set_option linter.unusedVariables false
set_option linter.unusedSimpArgs false
namespace Go.Proofs.Ytelbaooifmkpkaa

structure CN where
  st : Int
  first : Int
  own : Int
  next : Int
  sent : Int
  got : Int
  sum : Int
/-- A segment's numbers, and its bytes; 'opts' as a value. -/
structure TC where
  sport : Int
  dport : Int
  seq : Int
  ack : Int
  flags : Int
  window : Int
  ck : Int
  urgent : Int
def u32w (n : Int) : Int := n % 4294967296
def hasF (fl m : Int) : Bool := bits .and .i64 fl m == m
def segF (seq ack fl : Int) : TC := ⟨0, 0, seq, ack, fl, 4096, 0, 0⟩
def startF (first own : Int) : CN := ⟨1, first, own, u32w (first + 1), u32w (own + 1), 0, 0⟩
def greetF (c : CN) : TC := segF c.own c.next 18
def bareF (c : CN) : TC := segF c.sent c.next 16
def finF (c : CN) : TC := segF (u32w (c.sent - 1)) c.next 17
def mixF (s : Int) (l : List Int) : Int := l.foldl (fun s x => u32w (u32w (s * 31) + x)) s
def spanF (fl : Int) (n : Nat) : Int := 
  let a := u32w n
  let b := if hasF fl 2 then u32w (a + 1) else a
  if hasF fl 1 then u32w (b + 1) else b
def firstF (fl : Int) : Bool := bits .and .i64 fl 23 == 2
def abortF (c : CN) (t : TC) : CN := if t.seq = c.next then { c with st := 4 } else c
def againF (c : CN) (t : TC) : List TC := if firstF t.flags = false ∨ t.seq ≠ c.first then [] else if c.st = 1 then [greetF c] else [bareF c]
def ackedF (c : CN) (t : TC) : CN × Bool :=
  if c.st = 1 then (if t.ack ≠ c.sent then (c, false) else ({ c with st := 2 }, true))
  else if c.st = 3 ∧ t.ack = c.sent then ({ c with st := 4 }, true) else (c, true)
def more1 (c : CN) (t : TC) (l : List Int) : CN := { c with next := u32w (c.next + spanF t.flags l.length), got := c.got + l.length, sum := mixF c.sum l }
def more2 (c : CN) : CN := { c with st := 3, sent := u32w (c.sent + 1) }
def moreF (c : CN) (t : TC) (l : List Int) : CN × List TC :=
  if hasF t.flags 1 then (more2 (more1 c t l), [finF (more2 (more1 c t l))]) else (more1 c t l, [bareF (more1 c t l)])
def takeF (c : CN) (t : TC) (l : List Int) : CN × List TC :=
  if c.st < 1 ∨ 4 < c.st then (c, [])
  else if hasF t.flags 4 then (abortF c t, [])
  else if hasF t.flags 2 then (c, againF c t)
  else if hasF t.flags 16 then
    (if (ackedF c t).2 then
      (if spanF t.flags l.length = 0 then ((ackedF c t).1, [])
       else if (ackedF c t).1.st = 2 ∧ t.seq = (ackedF c t).1.next then moreF (ackedF c t).1 t l
       else if (ackedF c t).1.st = 3 then ((ackedF c t).1, [finF (ackedF c t).1])
       else ((ackedF c t).1, [bareF (ackedF c t).1]))
     else (c, [segF t.ack 0 4]))
  else (c, [])
def enC (c : CN) : Array Value := #[.int .i64 c.st, .int .u32 c.first, .int .u32 c.own, .int .u32 c.next, .int .u32 c.sent, .int .i64 c.got, .int .u32 c.sum]
def enT (t : TC) (o p : Value) : Array Value := #[.int .i64 t.sport, .int .i64 t.dport, .int .u32 t.seq, .int .u32 t.ack, .int .i64 t.flags, .int .i64 t.window, .int .i64 t.ck, .int .i64 t.urgent, o, p]
end Go.Proofs.Ytelbaooifmkpkaa
