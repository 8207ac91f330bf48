/- A machine that carries out code on values that are known, and the proof that the model's runs agree with it: one part. -/
import Derived.Test.YtgfhhbgkleimjaaGreatAbsMemo3
namespace Go.Abs.Lit
/-! Short names for values, as the entries' texts write them. -/
def i (n : Nat) : Value := .int .i64 (.ofNat n)
def j (n : Nat) : Value := .int .i64 (.negSucc n)
def x (k : IntKind) (n : Int) : Value := .int k n
def t : Value := .bool true
def f : Value := .bool false
def p (b o : Nat) : Value := .pointer (some ⟨b, o, none⟩)
def s (b o l c : Nat) : Value := .slice (some ⟨b, o, none⟩) l c
def q (b o l : Nat) : Value := .slice (some ⟨b, o, none⟩) l capU
def h (b : Nat) : Value := .map (some b)
def np : Value := .pointer none
def ns : Value := .slice none 0 0
def nh : Value := .map none
def nf : Value := .nilFunc
def ni : Value := .nilIface
def g (cs : List Value) : Value := .agg cs.toArray
def u (cs : List Value) : Value := .tuple cs.toArray
def r (c : List Value) (t z : Nat) : AObj := .row c t z
def n (l : List Nat) : List Value := l.map i
def y (l : List Nat) : Value := .string ⟨(l.map UInt8.ofNat).toArray⟩
end Go.Abs.Lit
