/- Calendars, months, days, as plain data and plain functions: no program in sight. -/
namespace Go.Proofs.YtfchchmmjabjnaaDoor

/-! ### Names -/
def lowB (c : UInt8) : Bool := decide (97 ≤ c.toNat) && decide (c.toNat ≤ 122)
def digB (c : UInt8) : Bool := decide (48 ≤ c.toNat) && decide (c.toNat ≤ 57)
def nameB (c : UInt8) : Bool := lowB c || digB c || decide (c.toNat = 95)
def allName (s : ByteArray) : Bool := s.data.toList.all nameB
def isName (s : ByteArray) : Bool := decide (1 ≤ s.size) && decide (s.size ≤ 16) && lowB (s.data.toList.headD 0) && allName s

/-! ### Data -/
structure Yr where
  k : Int
  nm : ByteArray
  lg : Int
  db : Int
/-- nk kings kg 0 .., ny years yr 0 .. -/
structure Cal where
  nk : Nat
  kg : Nat → ByteArray
  ny : Nat
  yr : Nat → Yr
structure Dt where
  y : Int
  m : Int
  s : Bool
  d : Int
  deriving DecidableEq
structure Tr where
  d : Int
  more : Bool
  m : Int
  s : Bool
  nm : ByteArray
  af : Int
  kg : ByteArray
structure Sp where
  a : Int
  b : Int
  deriving DecidableEq
/-- A month of a calendar and the number of its first day. -/
structure It where
  y : Nat
  n : Int
  s : Bool
  first : Int

/-! ### Validity -/
def Yr.alike (x y : Yr) : Bool := decide (x.k = y.k) && decide (x.nm = y.nm)
def Cal.hadTo (c : Cal) (y : Yr) (i : Nat) : Bool := (List.range i).any fun j => (c.yr j).alike y
def Cal.prevK (c : Cal) : Nat → Int
  | 0 => 0
  | i + 1 => (c.yr i).k
def Yr.shapeOk (y : Yr) : Bool := decide (0 ≤ y.db ∧ y.db ≤ 12 ∧ 0 ≤ y.lg ∧ y.lg ≤ 8191 ∧ ¬ (y.db = 0 ∧ 4096 ≤ y.lg))
def Cal.yearOk (c : Cal) (i : Nat) : Bool :=
  decide (c.prevK i ≤ (c.yr i).k) && decide ((c.yr i).k < c.nk) && isName (c.yr i).nm && !c.hadTo (c.yr i) i && (c.yr i).shapeOk
def Cal.kingOk (c : Cal) (i : Nat) : Bool := isName (c.kg i) && (List.range i).all fun j => decide (c.kg j ≠ c.kg i)
def Cal.kingsOk (c : Cal) : Bool := decide (1 ≤ c.nk) && decide (c.nk ≤ 40) && (List.range c.nk).all c.kingOk
def Cal.valid (c : Cal) : Bool := c.kingsOk && decide (1 ≤ c.ny) && decide (c.ny ≤ 400) && (List.range c.ny).all c.yearOk

/-! ### Months and days -/
def bitOn (lg : Int) (b : Nat) : Bool := decide (lg / 2 ^ b % 2 = 1)
def mlen (lg : Int) (b : Nat) : Int := if bitOn lg b then 30 else 29
def Yr.len (y : Yr) (n : Int) (s : Bool) : Int := mlen y.lg (if s then 12 else n.toNat - 1)
/-- The months 1 to k of a year. -/
def Yr.moTo (y : Yr) : Nat → List (Int × Bool)
  | 0 => []
  | k + 1 => y.moTo k ++ (((k : Int) + 1, false) :: (if y.db = (k : Int) + 1 then [((k : Int) + 1, true)] else []))
def Yr.mos (y : Yr) : List (Int × Bool) := y.moTo 12
def Yr.lens (y : Yr) : List (Int × Bool) → Int
  | [] => 0
  | p :: l => y.len p.1 p.2 + y.lens l
def Yr.days (y : Yr) : Int := y.lens y.mos
def runs (i : Nat) (y : Yr) : Int → List (Int × Bool) → List It
  | _, [] => []
  | day, p :: l => ⟨i, p.1, p.2, day⟩ :: runs i y (day + y.len p.1 p.2) l
/-- The number of the first day of year i. -/
def Cal.dayAt (c : Cal) : Nat → Int
  | 0 => 1
  | i + 1 => c.dayAt i + (c.yr i).days
def Cal.itemsTo (c : Cal) : Nat → List It
  | 0 => []
  | i + 1 => c.itemsTo i ++ runs i (c.yr i) (c.dayAt i) (c.yr i).mos
def Cal.items (c : Cal) : List It := c.itemsTo c.ny
def Cal.all (c : Cal) : Int := c.dayAt c.ny - 1

def Cal.yrI (c : Cal) (y : Int) : Yr := c.yr y.toNat
/-- Is a date in the calendar? -/
def Cal.has (c : Cal) (d : Dt) : Bool :=
  decide (0 ≤ d.y ∧ d.y < c.ny) && decide (1 ≤ d.m ∧ d.m ≤ 12) && (!d.s || decide ((c.yrI d.y).db = d.m)) && decide (1 ≤ d.d ∧ d.d ≤ (c.yrI d.y).len d.m d.s)
def It.of (x : It) (d : Dt) : Bool := decide ((x.y : Int) = d.y) && decide (x.n = d.m) && (x.s == d.s)
/-- The number of a day, and of its month; k months lie before l. -/
def numFrom (d : Dt) : List It → Int → Int × Int
  | [], _ => (0, 0)
  | x :: l, k => if x.of d then (x.first + d.d - 1, k + 1) else numFrom d l (k + 1)
def Cal.num (c : Cal) (d : Dt) : Int × Int := numFrom d c.items 0
def It.len (c : Cal) (x : It) : Int := (c.yr x.y).len x.n x.s
/-- The date of a day. -/
def Cal.atFrom (c : Cal) (n : Int) : List It → Option Dt
  | [] => none
  | x :: l => if x.first ≤ n ∧ n - x.first < x.len c then some ⟨x.y, x.n, x.s, n - x.first + 1⟩ else c.atFrom n l
def Cal.at? (c : Cal) (n : Int) : Option Dt := c.atFrom n c.items

/-! ### Results -/
def zeroDt : Dt := ⟨0, 0, false, 0⟩
def Cal.chk (c : Cal) : Int := if c.valid then 0 else 70
def Cal.inE (c : Cal) (d : Dt) : Int := if c.valid then (if c.has d then 0 else 71) else 70
def Cal.in2E (c : Cal) (a b : Dt) : Int := if c.valid then (if c.has a && c.has b then 0 else 71) else 70
def Cal.numV (c : Cal) (d : Dt) : Int := if c.inE d = 0 then (c.num d).1 else 0
def Cal.atE (c : Cal) (n : Int) : Int := if c.valid then (if (c.at? n).isSome then 0 else 8) else 70
def Cal.atV (c : Cal) (n : Int) : Dt := if c.valid then (c.at? n).getD zeroDt else zeroDt
def Cal.betV (c : Cal) (a b : Dt) : Int := if c.in2E a b = 0 then (c.num b).1 - (c.num a).1 else 0
def Cal.schV (c : Cal) (a b : Dt) : Int := if c.in2E a b = 0 then 30 * ((c.num b).2 - (c.num a).2) + b.d - a.d else 0
def Cal.addE (c : Cal) (d : Dt) (n : Int) : Int := if c.inE d = 0 then (if (c.at? ((c.num d).1 + n)).isSome then 0 else 8) else c.inE d
def Cal.addV (c : Cal) (d : Dt) (n : Int) : Dt := if c.inE d = 0 then (c.at? ((c.num d).1 + n)).getD zeroDt else zeroDt

/-! ### Traces -/
def emptyB (s : ByteArray) : Bool := s.data.toList.isEmpty
def Tr.ok (t : Tr) : Bool :=
  decide (0 ≤ t.d) && decide (t.d ≤ 30) && (!t.more || decide (0 < t.d)) && decide (0 ≤ t.m) && decide (t.m ≤ 12) && (!t.s || decide (0 < t.m)) && (emptyB t.nm || isName t.nm) && decide (0 ≤ t.af) && decide (t.af ≤ 3) &&
    (!emptyB t.nm || decide (t.af = 0)) && (emptyB t.kg || isName t.kg)
def Cal.yearFits (c : Cal) (t : Tr) (y : Int) : Bool :=
  (emptyB t.nm || (decide (t.af ≤ y) && decide ((c.yrI (y - t.af)).nm = t.nm))) && (emptyB t.kg || decide (c.kg (c.yrI y).k.toNat = t.kg))
def Cal.inMonth (c : Cal) (t : Tr) (y n : Int) (s : Bool) : Bool := (decide (t.m = 0) || (decide (t.m = n) && (t.s == s))) && c.yearFits t y
def Tr.onDay (t : Tr) (day : Int) : Bool := decide (t.d = 0) || decide (day = t.d) || (t.more && decide (t.d < day))
def Cal.fits (c : Cal) (t : Tr) (d : Dt) : Bool := c.inMonth t d.y d.m d.s && t.onDay d.d
/-- One more day that fits. -/
def addDay (out : List Sp) (n : Int) : List Sp :=
  match out.getLast? with
  | some l => if l.b = n - 1 then out.dropLast ++ [⟨l.a, n⟩] else out ++ [⟨n, n⟩]
  | none => [⟨n, n⟩]
/-- The days 1 to k of a month that fits. -/
def Tr.dayFold (t : Tr) (first : Int) (o : List Sp) : Nat → List Sp
  | 0 => o
  | k + 1 => if t.onDay ((k : Int) + 1) then addDay (t.dayFold first o k) (first + k) else t.dayFold first o k
def Cal.itFold (c : Cal) (t : Tr) (o : List Sp) (x : It) : List Sp := if c.inMonth t x.y x.n x.s then t.dayFold x.first o (x.len c).toNat else o
def Cal.spans (c : Cal) (t : Tr) : List Sp := c.items.foldl (c.itFold t) []
def trChk (t : Tr) : Int := if t.ok then 0 else 72
def Cal.spE (c : Cal) (t : Tr) : Int := if c.valid then trChk t else 70
def Cal.spV (c : Cal) (t : Tr) : List Sp := if c.spE t = 0 then c.spans t else []
def Cal.fitE (c : Cal) (t : Tr) (d : Dt) : Int := if c.inE d = 0 then trChk t else c.inE d
def Cal.fitV (c : Cal) (t : Tr) (d : Dt) : Bool := decide (c.fitE t d = 0) && c.fits t d
end Go.Proofs.YtfchchmmjabjnaaDoor
