/-
  Data that a Go argument can hold: integers in the range of int, strings of a size that a machine has.
-/
import Derived.Test.YtjfcllanochhmaaGreatDoorItemSpec
set_option linter.unusedVariables false
set_option linter.unusedSimpArgs false
namespace Go.Proofs.YtjfcllanochhmaaGreatDoor.Item
open Go.RowKit Grp Mem _root_.Go.Proofs.YtjfcllanochhmaaGreatDoor.Code Sha Sign

def SOk (l : List ByteArray) : Prop := ∀ s ∈ l, s.size ≤ maxLen
def NOk (l : List Int) : Prop := ∀ n ∈ l, I64 n
structure WrapOk (v : WrapV) : Prop where
  ints : NOk [v.to, v.eph]
  strs : SOk [v.n, v.d, v.t]
structure ActOk (a : ActR) : Prop where
  ints : NOk [a.seq, a.kind, a.time, a.scope, a.epoch, a.n, a.m, a.e, a.s]
  strs : SOk [a.author, a.prev, a.object, a.target, a.group, a.text, a.bn, a.bd, a.bt]
  to : SOk a.to
  wraps : ∀ v ∈ a.wraps, WrapOk v
structure ClaimOk (c : ClaimV) : Prop where
  ints : NOk [c.base, c.gen, c.home, c.pub, c.time, c.e, c.s]
  strs : SOk [c.actor, c.prev]
structure BallotOk (b : BallotV) : Prop where
  ints : NOk [b.server, b.gen, b.time, b.e, b.s]
  strs : SOk [b.actor, b.claim]
structure DecOk (d : DecR) : Prop where
  ints : NOk [d.server, d.number, d.kind, d.n, d.start, d.stop, d.e, d.s]
  strs : SOk [d.actor, d.object, d.text]
  to : SOk d.to
structure ItemOk (i : ItemR) : Prop where
  kind : I64 i.kind
  act : ActOk i.act
  claim : ClaimOk i.claim
  ballot : BallotOk i.ballot
  dec : DecOk i.dec

end Go.Proofs.YtjfcllanochhmaaGreatDoor.Item
