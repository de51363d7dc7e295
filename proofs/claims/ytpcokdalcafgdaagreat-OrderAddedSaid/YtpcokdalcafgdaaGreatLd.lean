/- Data of a program's kinds, and small rules. Conditions: none. -/
import Derived.Test.YtpcokdalcafgdaaGreatLc
namespace Go.Vf
open Go

def int (z : Int) : AV := .d (.int .i64 (.v z))
def u8 (z : Int) : AV := .d (.int .u8 (.v z))
def bool (b : Bool) : AV := .d (.bool b)
def isl (n : Nat) (g : Nat → Int) : AV := .d (.sl 1 n fun i => [.int .i64 (.v (g i))])

theorem wrap64 {x : Int} (h1 : -9223372036854775808 ≤ x) (h2 : x ≤ 9223372036854775807) : IntKind.i64.wrap x = x := by
  simp [IntKind.wrap, IntKind.bits, IntKind.signed]
  omega

theorem lk_bool {a b : Bool} (h : a = b) : Like (.d (.bool a)) (.d (.bool b)) := by subst h; exact Like.refl _

theorem ff {r : Bool} {p : Prop} (hr : r = true ↔ p) (h : ¬ p) : false = r := by
  cases r
  · rfl
  · exact absurd (hr.1 rfl) h

theorem tt {r : Bool} {p : Prop} (hr : r = true ↔ p) (h : p) : true = r := (hr.2 h).symm

theorem lk_ff {r : Bool} {p : Prop} (hr : r = true ↔ p) (h : ¬ p) : Like (.d (.bool false)) (.d (.bool r)) := lk_bool (ff hr h)
theorem lk_tt {r : Bool} {p : Prop} (hr : r = true ↔ p) (h : p) : Like (.d (.bool true)) (.d (.bool r)) := lk_bool (tt hr h)

theorem lk_l {k : IntKind} {a b : Int} (h : a = b) : Like (.d (.int k (.l a))) (.d (.int k (.v b))) := Like.int h
theorem lk_v {k : IntKind} {a b : Int} (h : a = b) : Like (.d (.int k (.v a))) (.d (.int k (.v b))) := Like.int h

theorem Like.nil0 {sz : Nat} {e : Nat → List DV} : Like (.d .nil) (.d (.sl sz 0 e)) := by
  intro w S ρ v h
  cases h with
  | d h => cases h; exact .d (.sl0 _ _ _ _)

theorem Like.dfs {sz n : Nat} {e : Nat → List DV} : Like (.dfs sz n e) (.d (.sl sz n e)) := by
  intro w S ρ v h
  cases h with
  | dfs _ _ _ a h => exact .d h

theorem Like.sl' {sz n m : Nat} {e e' : Nat → List DV} (hn : n = m) (h : ∀ i, i < n → e i = e' i) : Like (.d (.sl sz n e)) (.d (.sl sz m e')) := by
  subst hn; exact Like.sl h

theorem Like.isl {n m : Nat} {g h : Nat → Int} (hn : n = m) (hg : ∀ i, i < n → g i = h i) : Like (.d (.sl 1 n fun i => [.int .i64 (.v (g i))])) (.d (.sl 1 m fun i => [.int .i64 (.v (h i))])) :=
  Like.sl' hn fun i hi => by rw [hg i hi]

theorem pure_tup {P : Program} {f : FuncId} {args : List AV} {x y : AV} {l : List AV} (hf : ∀ z, z ∈ x :: y :: l → flatD z) (h : PureF P false f args (.tuple (x :: y :: l))) : PureF P true f args (.tuple (x :: y :: l)) :=
  pure_own (xs := x :: y :: l) hf h

theorem loop_r {P : Program} {A : Ann} {ro : Option Nat} {E : Ent} {Sg : Sig} {Q : Lv → St → Prop} (hm : P.follows .mixedOrders = true) (hok : OkP P) (hS : Sg = std P A ro E) (m : Nat) {ic : ICode} {st : St} (h : evRounds Sg m ic Q st) : Sg.loop ic Q st := by
  subst hS; exact loop_of_rounds hm hok h

/-- An operation of a core. -/
structure OpR where
  code : Int
  a : Int
  b : Int
  c : Int
  n : Int

def OpR.row (o : OpR) : List DV := [.int .u8 (.v o.code), .int .i64 (.v o.a), .int .i64 (.v o.b), .int .i64 (.v o.c), .int .i64 (.v o.n)]
def OpR.av (o : OpR) : AV := .agg [u8 o.code, int o.a, int o.b, int o.c, int o.n]
def osl (n : Nat) (o : Nat → OpR) : AV := .d (.sl 5 n fun i => (o i).row)

/-- A choice: its name, its least and its greatest number. -/
structure ChR where
  name : List UInt8
  lo : Int
  hi : Int

def ChR.row (c : ChR) : List DV := [.str c.name, .int .i64 (.v c.lo), .int .i64 (.v c.hi)]
def csl (n : Nat) (c : Nat → ChR) : AV := .d (.sl 3 n fun i => (c i).row)

/-- A core. -/
structure CoR where
  nc : Nat
  ch : Nat → ChR
  no : Nat
  op : Nat → OpR
  nr : Nat
  rt : Nat → Int

def CoR.av (c : CoR) : AV := .agg [csl c.nc c.ch, osl c.no c.op, isl c.nr c.rt]

end Go.Vf
