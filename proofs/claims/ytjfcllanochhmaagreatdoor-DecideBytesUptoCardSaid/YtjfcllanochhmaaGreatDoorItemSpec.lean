/-
  Activities, claims, ballots, decisions and items as plain data, and what the packages ident, act and item compute of them. No walk in this text.
-/
import Derived.Test.YtjfcllanochhmaaGreatDoorSignWalk
set_option linter.unusedVariables false
set_option linter.unusedSimpArgs false
namespace Go.Proofs.YtjfcllanochhmaaGreatDoor.Item
open Go.RowKit Grp Mem _root_.Go.Proofs.YtjfcllanochhmaaGreatDoor.Code Sha Sign

/-! ### Names and ids -/
def hexC (c : UInt8) : Bool := (decide (48 ≤ c.toNat) && decide (c.toNat ≤ 57)) || (decide (97 ≤ c.toNat) && decide (c.toNat ≤ 102))
def lowC (c : UInt8) : Bool := decide (97 ≤ c.toNat) && decide (c.toNat ≤ 122)
def tailC (c : UInt8) : Bool := lowC c || (decide (48 ≤ c.toNat) && decide (c.toNat ≤ 57)) || decide (c.toNat = 95)
def idB (s : ByteArray) : Bool := decide (s.size = 16) && s.data.toList.all hexC
def nameL : List UInt8 → Bool
  | [] => false
  | c :: r => lowC c && r.all tailC
def nameB (s : ByteArray) : Bool := decide (s.size ≤ 24) && nameL s.data.toList
def lessB (a b : ByteArray) : Bool := Op.bytesLess a.toList b.toList
def ascB : List ByteArray → Bool
  | a :: b :: r => lessB a b && ascB (b :: r)
  | _ => true
def idsB (l : List ByteArray) : Bool := decide (l.length ≤ 64) && l.all idB && ascB l

/-! ### Activities -/
structure WrapV where
  to : Int
  eph : Int
  n : ByteArray
  d : ByteArray
  t : ByteArray
structure ActR where
  author : ByteArray
  seq : Int
  prev : ByteArray
  kind : Int
  time : Int
  object : ByteArray
  target : ByteArray
  scope : Int
  group : ByteArray
  to : List ByteArray
  toA : Option Addr
  toC : Nat
  text : ByteArray
  bn : ByteArray
  bd : ByteArray
  bt : ByteArray
  epoch : Int
  wraps : List WrapV
  wrA : Option Addr
  wrC : Nat
  n : Int
  m : Int
  e : Int
  s : Int
def WrapV.tup (w : WrapV) : Int × Int × ByteArray × ByteArray × ByteArray := (w.to, w.eph, w.n, w.d, w.t)
def WrapV.cells (w : WrapV) : List Value := [.int .i64 w.to, .int .i64 w.eph, .string w.n, .string w.d, .string w.t]
def ActR.cells (a : ActR) : List Value :=
  [.string a.author, .int .i64 a.seq, .string a.prev, .int .i64 a.kind, .int .i64 a.time, .string a.object, .string a.target, .int .i64 a.scope, .string a.group, .slice a.toA a.to.length a.toC, .string a.text,
    .string a.bn, .string a.bd, .string a.bt, .int .i64 a.epoch, .slice a.wrA a.wraps.length a.wrC, .int .i64 a.n, .int .i64 a.m, .int .i64 a.e, .int .i64 a.s]
structure ClaimV where
  actor : ByteArray
  base : Int
  prev : ByteArray
  gen : Int
  home : Int
  pub : Int
  time : Int
  e : Int
  s : Int
def ClaimV.cells (c : ClaimV) : List Value := [.string c.actor, .int .i64 c.base, .string c.prev, .int .i64 c.gen, .int .i64 c.home, .int .i64 c.pub, .int .i64 c.time, .int .i64 c.e, .int .i64 c.s]
structure BallotV where
  server : Int
  actor : ByteArray
  gen : Int
  claim : ByteArray
  time : Int
  e : Int
  s : Int
def BallotV.cells (b : BallotV) : List Value := [.int .i64 b.server, .string b.actor, .int .i64 b.gen, .string b.claim, .int .i64 b.time, .int .i64 b.e, .int .i64 b.s]
structure DecR where
  server : Int
  number : Int
  kind : Int
  actor : ByteArray
  object : ByteArray
  text : ByteArray
  to : List ByteArray
  toA : Option Addr
  toC : Nat
  n : Int
  start : Int
  stop : Int
  e : Int
  s : Int
def DecR.cells (d : DecR) : List Value :=
  [.int .i64 d.server, .int .i64 d.number, .int .i64 d.kind, .string d.actor, .string d.object, .string d.text, .slice d.toA d.to.length d.toC, .int .i64 d.n, .int .i64 d.start, .int .i64 d.stop, .int .i64 d.e, .int .i64 d.s]
structure ItemR where
  kind : Int
  act : ActR
  claim : ClaimV
  ballot : BallotV
  dec : DecR
def ItemR.cells (i : ItemR) : List Value := .int .i64 i.kind :: (i.act.cells ++ (i.claim.cells ++ (i.ballot.cells ++ i.dec.cells)))

def emptyT : ByteArray := ⟨#[]⟩
def act0 : ActR := ⟨emptyT, 0, emptyT, 0, 0, emptyT, emptyT, 0, emptyT, [], none, 0, emptyT, emptyT, emptyT, emptyT, 0, [], none, 0, 0, 0, 0, 0⟩
def claim0 : ClaimV := ⟨emptyT, 0, emptyT, 0, 0, 0, 0, 0, 0⟩
def ballot0 : BallotV := ⟨0, emptyT, 0, emptyT, 0, 0, 0⟩
def dec0 : DecR := ⟨0, 0, 0, emptyT, emptyT, emptyT, [], none, 0, 0, 0, 0, 0, 0⟩
def item0 : ItemR := ⟨0, act0, claim0, ballot0, dec0⟩

/-! ### The same data (addresses and capacities left out) -/
def conj (l : List Bool) : Bool := l.foldr and true
def ActR.same (a b : ActR) : Bool :=
  conj [decide (a.author = b.author), decide (a.seq = b.seq), decide (a.prev = b.prev), decide (a.kind = b.kind), decide (a.time = b.time), decide (a.object = b.object), decide (a.target = b.target), decide (a.scope = b.scope), decide (a.group = b.group),
    decide (a.to = b.to), decide (a.text = b.text), decide (a.bn = b.bn), decide (a.bd = b.bd), decide (a.bt = b.bt), decide (a.epoch = b.epoch), decide (a.wraps.map WrapV.tup = b.wraps.map WrapV.tup), decide (a.n = b.n), decide (a.m = b.m), decide (a.e = b.e), decide (a.s = b.s)]
def ClaimV.same (a b : ClaimV) : Bool := conj [decide (a.actor = b.actor), decide (a.base = b.base), decide (a.prev = b.prev), decide (a.gen = b.gen), decide (a.home = b.home), decide (a.pub = b.pub), decide (a.time = b.time), decide (a.e = b.e), decide (a.s = b.s)]
def BallotV.same (a b : BallotV) : Bool := conj [decide (a.server = b.server), decide (a.actor = b.actor), decide (a.gen = b.gen), decide (a.claim = b.claim), decide (a.time = b.time), decide (a.e = b.e), decide (a.s = b.s)]
def DecR.same (a b : DecR) : Bool :=
  conj [decide (a.server = b.server), decide (a.number = b.number), decide (a.kind = b.kind), decide (a.actor = b.actor), decide (a.object = b.object), decide (a.text = b.text), decide (a.to = b.to), decide (a.n = b.n), decide (a.start = b.start), decide (a.stop = b.stop), decide (a.e = b.e), decide (a.s = b.s)]
def ItemR.same (a b : ItemR) : Bool := conj [decide (a.kind = b.kind), a.act.same b.act, a.claim.same b.claim, a.ballot.same b.ballot, a.dec.same b.dec]

/-! ### What is right -/
def withinB (n lo hi : Int) : Bool := decide (lo ≤ n) && decide (n ≤ hi)
def digestB (s : ByteArray) : Bool := decide (s.size = 32)
def shortB (s : ByteArray) : Bool := decide (s.size ≤ 500)
def noneB (s : ByteArray) : Bool := decide (s.size = 0)
def publicB (n : Int) : Bool := withinB n 1 2305843009213693950
def sealedB (n d t : ByteArray) : Bool := decide (n.size = 32) && (decide (t.size = 16) && shortB d)
def wrapOk (w : WrapV) : Bool := publicB w.to && (publicB w.eph && sealedB w.n w.d w.t)
def wrappedB (a : ActR) : Bool := a.wraps.all wrapOk && decide (a.wraps.length = a.to.length)
def sealedScopeB (scope : Int) (group : ByteArray) : Bool := if scope = 2 then nameB group else if scope = 1 ∨ scope = 3 then noneB group else false
def bodyNone (a : ActR) : Bool := noneB a.bn && (noneB a.bd && noneB a.bt)
def audienceB (a : ActR) : Bool :=
  idsB a.to && if a.scope = 0 then noneB a.group && (decide (a.epoch = 0) && (shortB a.text && bodyNone a))
    else (decide (a.to.length = 0) || decide (a.scope = 3)) && (sealedScopeB a.scope a.group && (withinB a.epoch 0 1073741824 && (noneB a.text && sealedB a.bn a.bd a.bt)))
def objectB (a : ActR) : Bool := digestB a.object
def targetB (a : ActR) : Bool := idB a.target
def homeB (a : ActR) : Bool := publicB a.n && withinB a.m 0 19
def grantB (a : ActR) : Bool := sealedScopeB a.scope a.group && (withinB a.epoch 0 1073741824 && (idsB a.to && wrappedB a))
def labelB (a : ActR) : Bool := nameB a.text && ((objectB a && noneB a.target) || (targetB a && noneB a.object))
def setupB (a : ActR) : Bool := decide (0 < a.to.length) && (idsB a.to && (wrappedB a && (withinB a.n 1 a.to.length && publicB a.m)))
def placedB (a : ActR) : Bool := if a.seq = 0 then decide (a.kind = 0) && noneB a.prev else withinB a.seq 1 1073741824 && (decide (a.kind ≠ 0) && digestB a.prev)
/-- What the rule of a kind asks of the fields that it uses, and the set of these fields. -/
def ruleB (k : Nat) (a : ActR) : Bool :=
  match k with
  | 0 => nameB a.text && homeB a
  | 1 => audienceB a
  | 2 => objectB a && audienceB a
  | 3 => objectB a && audienceB a
  | 14 => objectB a && audienceB a
  | 4 => objectB a
  | 5 => objectB a
  | 6 => objectB a
  | 13 => objectB a
  | 20 => objectB a
  | 7 => targetB a
  | 8 => targetB a
  | 9 => targetB a
  | 10 => targetB a
  | 11 => targetB a
  | 12 => objectB a && shortB a.text
  | 21 => objectB a && shortB a.text
  | 15 => nameB a.group && idsB a.to
  | 16 => grantB a
  | 17 => labelB a
  | 18 => homeB a
  | 19 => setupB a
  | 22 => objectB a && withinB a.n 0 1
  | 23 => targetB a && (shortB a.text && withinB a.n 0 1099511627776)
  | _ => false
/-- 1 object, 2 target, 4 scope, 8 group, 16 to, 32 text, 64 body, 128 epoch, 256 wraps, 512 n, 1024 m. -/
def ruleF (k : Nat) : Int :=
  match k with
  | 0 => 1568
  | 1 => 252
  | 2 => 253
  | 3 => 253
  | 14 => 253
  | 4 => 1
  | 5 => 1
  | 6 => 1
  | 13 => 1
  | 20 => 1
  | 7 => 2
  | 8 => 2
  | 9 => 2
  | 10 => 2
  | 11 => 2
  | 12 => 33
  | 21 => 33
  | 15 => 24
  | 16 => 412
  | 17 => 35
  | 18 => 1536
  | 19 => 1808
  | 22 => 513
  | 23 => 546
  | _ => 0
def orIf (set f : Int) (zero : Bool) : Int := if zero then set else bits .or .i64 set f
def usedI (a : ActR) : Int :=
  orIf (orIf (orIf (orIf (orIf (orIf (orIf (orIf (orIf (orIf (orIf 0 1 (noneB a.object)) 2 (noneB a.target)) 4 (decide (a.scope = 0))) 8 (noneB a.group)) 16 (decide (a.to.length = 0))) 32 (noneB a.text)) 64 (bodyNone a)) 128 (decide (a.epoch = 0))) 256 (decide (a.wraps.length = 0))) 512 (decide (a.n = 0))) 1024 (decide (a.m = 0))
def fitsB (a : ActR) : Bool := decide (0 ≤ a.kind) && (decide (a.kind < 24) && (decide (bits .andNot .i64 (usedI a) (ruleF a.kind.toNat) = 0) && ruleB a.kind.toNat a))
def inOrd (n : Int) : Bool := withinB n 0 2305843009213693949
def actRight (a : ActR) : Bool := idB a.author && (placedB a && (withinB a.time 0 1099511627776 && (inOrd a.e && (inOrd a.s && fitsB a))))
def claimRight (c : ClaimV) : Bool :=
  idB c.actor && (withinB c.base 1 1073741824 && (digestB c.prev && (withinB c.gen 0 1073741824 && (withinB c.home 0 19 && (withinB c.pub 1 2305843009213693950 && (withinB c.time 0 1099511627776 && (inOrd c.e && inOrd c.s)))))))
def ballotRight (b : BallotV) : Bool :=
  withinB b.server 0 19 && (idB b.actor && (withinB b.gen 0 1073741824 && (digestB b.claim && (withinB b.time 0 1099511627776 && (inOrd b.e && inOrd b.s)))))
def plainD (d : DecR) : Bool := decide (d.to.length = 0) && decide (d.n = 0)
def termsB (d : DecR) : Bool :=
  if d.kind = 0 ∨ d.kind = 1 ∨ d.kind = 4 ∨ d.kind = 6 ∨ d.kind = 7 then idB d.actor && (noneB d.object && (shortB d.text && plainD d))
  else if d.kind = 2 ∨ d.kind = 3 ∨ d.kind = 5 then noneB d.actor && (digestB d.object && (shortB d.text && plainD d))
  else if d.kind = 8 then noneB d.actor && (noneB d.object && (shortB d.text && (idsB d.to && withinB d.n 1 d.to.length)))
  else if d.kind = 9 then noneB d.actor && (noneB d.object && (decide (d.text.size ≤ 4096) && plainD d))
  else false
def decRight (d : DecR) : Bool :=
  withinB d.server 0 19 && (withinB d.number 0 1073741824 && (withinB d.start 0 1099511627776 && (withinB d.stop 0 1099511627776 && (decide (d.start < d.stop) && (termsB d && (inOrd d.e && inOrd d.s))))))
def itemRight (i : ItemR) : Bool :=
  if i.kind = 0 then actRight i.act && (i.claim.same claim0 && (i.ballot.same ballot0 && i.dec.same dec0))
  else if i.kind = 1 then claimRight i.claim && (i.act.same act0 && (i.ballot.same ballot0 && i.dec.same dec0))
  else if i.kind = 2 then ballotRight i.ballot && (i.act.same act0 && (i.claim.same claim0 && i.dec.same dec0))
  else if i.kind = 3 then decRight i.dec && (i.act.same act0 && (i.claim.same claim0 && i.ballot.same ballot0))
  else false

/-! ### Texts -/
def numL (n : Int) : List UInt8 := (numB n).data.toList
def boxL (n d t : ByteArray) : List UInt8 := textL n ++ (textL d ++ textL t)
def wrapL (w : WrapV) : List UInt8 := numL w.to ++ (numL w.eph ++ boxL w.n w.d w.t)
def actT : ByteArray := ⟨#[97, 99, 116]⟩
def claimT : ByteArray := ⟨#[99, 108, 97, 105, 109]⟩
def ballotT : ByteArray := ⟨#[98, 97, 108, 108, 111, 116]⟩
def decisionT : ByteArray := ⟨#[100, 101, 99, 105, 115, 105, 111, 110]⟩
def coreL (a : ActR) : List UInt8 :=
  textL actT ++ (textL a.author ++ (numL a.seq ++ (textL a.prev ++ (numL a.kind ++ (numL a.time ++ (textL a.object ++ (textL a.target ++ (numL a.scope ++ (textL a.group ++ (listL a.to ++ (textL a.text ++ (boxL a.bn a.bd a.bt ++ (numL a.epoch ++ (numL a.wraps.length ++ (a.wraps.flatMap wrapL ++ (numL a.n ++ numL a.m))))))))))))))))
def actCore (a : ActR) : ByteArray := if actRight a then ⟨(coreL a).toArray⟩ else emptyT
def actBytes (a : ActR) : ByteArray := if actRight a then ⟨(coreL a ++ (numL a.e ++ numL a.s)).toArray⟩ else emptyT
def claimL (c : ClaimV) : List UInt8 := textL c.actor ++ (numL c.base ++ (textL c.prev ++ (numL c.gen ++ (numL c.home ++ (numL c.pub ++ numL c.time)))))
def ballotL (b : BallotV) : List UInt8 := numL b.server ++ (textL b.actor ++ (numL b.gen ++ (textL b.claim ++ numL b.time)))
def decL (d : DecR) : List UInt8 := numL d.server ++ (numL d.number ++ (numL d.kind ++ (textL d.actor ++ (textL d.object ++ (textL d.text ++ (listL d.to ++ (numL d.n ++ (numL d.start ++ numL d.stop))))))))
/-- The name of the kind, the core and the signature of an item that is no activity. -/
def nameT (i : ItemR) : ByteArray := if i.kind = 1 then claimT else if i.kind = 2 then ballotT else decisionT
def itemL (i : ItemR) : List UInt8 := if i.kind = 1 then claimL i.claim else if i.kind = 2 then ballotL i.ballot else decL i.dec
def sigV (i : ItemR) : Int × Int := if i.kind = 1 then (i.claim.e, i.claim.s) else if i.kind = 2 then (i.ballot.e, i.ballot.s) else (i.dec.e, i.dec.s)
def messageB (i : ItemR) : ByteArray := ⟨(textL (nameT i) ++ itemL i).toArray⟩
def itemBytesL (i : ItemR) : List UInt8 := numL i.kind ++ if i.kind = 0 then (actBytes i.act).data.toList else itemL i ++ (numL (sigV i).1 ++ numL (sigV i).2)
def itemBytes (i : ItemR) : ByteArray := if itemRight i then ⟨(itemBytesL i).toArray⟩ else emptyT
def digOf (i : ItemR) : ByteArray := if itemRight i then sha (itemBytes i) else emptyT
/-- Signed by its server, where it needs that. -/
def signedB (servers : List Int) (i : ItemR) : Bool :=
  itemRight i && if i.kind = 2 then decide (i.ballot.server < servers.length) && verI (servers.getD i.ballot.server.toNat 0) (messageB i) (sigV i)
    else if i.kind = 3 then decide (i.dec.server < servers.length) && verI (servers.getD i.dec.server.toNat 0) (messageB i) (sigV i) else true

/-! ### In memory -/
def Wrs (w : World) (A : Option Addr) (l : List WrapV) : Prop := 0 < l.length → ∃ b o, A = some ⟨b, o, none⟩ ∧ b < w.heap.size ∧ ∀ j (h : j < l.length), w.rangeAt b (o + j * 5) l[j].cells
def I64 (n : Int) : Prop := -9223372036854775808 ≤ n ∧ n ≤ 9223372036854775807
structure ActIn (w : World) (a : ActR) : Prop where
  to : Strs w a.toA a.to
  wraps : Wrs w a.wrA a.wraps
  toC : a.to.length ≤ a.toC ∧ a.toC ≤ maxLen
  wrC : a.wraps.length ≤ a.wrC ∧ a.wrC ≤ maxLen
structure DecIn (w : World) (d : DecR) : Prop where
  to : Strs w d.toA d.to
  toC : d.to.length ≤ d.toC ∧ d.toC ≤ maxLen
structure ItemIn (w : World) (i : ItemR) : Prop where
  act : ActIn w i.act
  dec : DecIn w i.dec
end Go.Proofs.YtjfcllanochhmaaGreatDoor.Item
