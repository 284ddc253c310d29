/- part 6 -/
import Derived.Deep.MidRow
import Derived.Laws.RangeAny
import Derived.Sort.Walk0
import Derived.Test.YtbemmjnjoabadaaGreatDoorK05
set_option linter.unusedVariables false
set_option linter.unusedSimpArgs false
set_option maxHeartbeats 2000000
namespace Go.Proofs.YtbemmjnjoabadaaGreatDoor
namespace Item
open Go.RowKit aQ Mem _root_.Go.Proofs.YtbemmjnjoabadaaGreatDoor.Code aY Sign
def Dy(c:UInt8):Bool:=(decide (48<=c.toNat)&&decide (c.toNat<=57))||(decide (97<=c.toNat)&&decide (c.toNat<=102))
def zV(c:UInt8):Bool:=decide (97<=c.toNat)&&decide (c.toNat<=122)
def GU(c:UInt8):Bool:=zV c||(decide (48<=c.toNat)&&decide (c.toNat<=57))||decide (c.toNat=95)
def jO(s:ByteArray):Bool:=decide (s.size=16)&&s.data.toList.all Dy
def xK:List UInt8->Bool
 |[]=>false
 |c::r=>zV c&&r.all GU
def nameB(s:ByteArray):Bool:=decide (s.size<=24)&&xK s.data.toList
def iq(a b:ByteArray):Bool:=Op.bytesLess a.toList b.toList
def zW:List ByteArray->Bool
 |a::b::r=>iq a b&&zW (b::r)
 |_=>true
def kG(l:List ByteArray):Bool:=decide (l.length<=64)&&l.all jO&&zW l
structure bQ where
 to:Int
 lV:Int
 n:ByteArray
 d:ByteArray
 t:ByteArray
structure ak where
 author:ByteArray
 seq:Int
 prev:ByteArray
 kind:Int
 time:Int
 object:ByteArray
 target:ByteArray
 scope:Int
 group:ByteArray
 to:List ByteArray
 toA:Option Addr
 toC:Nat
 text:ByteArray
 bn:ByteArray
 bd:ByteArray
 bt:ByteArray
 epoch:Int
 wraps:List bQ
 gy:Option Addr
 dF:Nat
 n:Int
 m:Int
 e:Int
 s:Int
def bQ.kH(w:bQ):Int×Int×ByteArray×ByteArray×ByteArray:=(w.to,w.lV,w.n,w.d,w.t)
def bQ.cells(w:bQ):List Value:=[.int .i64 w.to, .int .i64 w.lV, .string w.n, .string w.d, .string w.t]
def ak.cells(a:ak):List Value:=
 [.string a.author, .int .i64 a.seq, .string a.prev, .int .i64 a.kind, .int .i64 a.time, .string a.object, .string a.target, .int .i64 a.scope, .string a.group, .slice a.toA a.to.length a.toC, .string a.text,
  .string a.bn, .string a.bd, .string a.bt, .int .i64 a.epoch, .slice a.gy a.wraps.length a.dF, .int .i64 a.n, .int .i64 a.m, .int .i64 a.e, .int .i64 a.s]
structure xM where
 nO:ByteArray
 base:Int
 prev:ByteArray
 gen:Int
 home:Int
 pub:Int
 time:Int
 e:Int
 s:Int
def xM.cells(c:xM):List Value:=[.string c.nO, .int .i64 c.base, .string c.prev, .int .i64 c.gen, .int .i64 c.home, .int .i64 c.pub, .int .i64 c.time, .int .i64 c.e, .int .i64 c.s]
structure wO where
 server:Int
 nO:ByteArray
 gen:Int
 claim:ByteArray
 time:Int
 e:Int
 s:Int
def wO.cells(b:wO):List Value:=[.int .i64 b.server, .string b.nO, .int .i64 b.gen, .string b.claim, .int .i64 b.time, .int .i64 b.e, .int .i64 b.s]
structure oU where
 server:Int
 number:Int
 kind:Int
 nO:ByteArray
 object:ByteArray
 text:ByteArray
 to:List ByteArray
 toA:Option Addr
 toC:Nat
 n:Int
 start:Int
 stop:Int
 e:Int
 s:Int
def oU.cells(d:oU):List Value:=
 [.int .i64 d.server, .int .i64 d.number, .int .i64 d.kind, .string d.nO, .string d.object, .string d.text, .slice d.toA d.to.length d.toC, .int .i64 d.n, .int .i64 d.start, .int .i64 d.stop, .int .i64 d.e, .int .i64 d.s]
structure dO where
 kind:Int
 act:ak
 claim:xM
 pO:wO
 dec:oU
def dO.cells(i:dO):List Value:= .int .i64 i.kind::(i.act.cells++(i.claim.cells++(i.pO.cells++i.dec.cells)))
def bK:ByteArray:=⟨#[]⟩
def aH:ak:=⟨bK,0,bK,0,0,bK,bK,0,bK,[],none,0,bK,bK,bK,bK,0,[],none,0,0,0,0,0⟩
def Oz:xM:=⟨bK,0,bK,0,0,0,0,0,0⟩
def Lr:wO:=⟨0,bK,0,bK,0,0,0⟩
def Jk:oU:=⟨0,0,0,bK,bK,bK,[],none,0,0,0,0,0,0⟩
def vS:dO:=⟨0,aH,Oz,Lr,Jk⟩
def conj(l:List Bool):Bool:=l.foldr and true
def ak.same(a b:ak):Bool:=
 conj [decide (a.author=b.author),decide (a.seq=b.seq),decide (a.prev=b.prev),decide (a.kind=b.kind),decide (a.time=b.time),decide (a.object=b.object),decide (a.target=b.target),decide (a.scope=b.scope),decide (a.group=b.group),
  decide (a.to=b.to),decide (a.text=b.text),decide (a.bn=b.bn),decide (a.bd=b.bd),decide (a.bt=b.bt),decide (a.epoch=b.epoch),decide (a.wraps.map bQ.kH=b.wraps.map bQ.kH),decide (a.n=b.n),decide (a.m=b.m),decide (a.e=b.e),decide (a.s=b.s)]
def xM.same(a b:xM):Bool:=conj [decide (a.nO=b.nO),decide (a.base=b.base),decide (a.prev=b.prev),decide (a.gen=b.gen),decide (a.home=b.home),decide (a.pub=b.pub),decide (a.time=b.time),decide (a.e=b.e),decide (a.s=b.s)]
def wO.same(a b:wO):Bool:=conj [decide (a.server=b.server),decide (a.nO=b.nO),decide (a.gen=b.gen),decide (a.claim=b.claim),decide (a.time=b.time),decide (a.e=b.e),decide (a.s=b.s)]
def oU.same(a b:oU):Bool:=
 conj [decide (a.server=b.server),decide (a.number=b.number),decide (a.kind=b.kind),decide (a.nO=b.nO),decide (a.object=b.object),decide (a.text=b.text),decide (a.to=b.to),decide (a.n=b.n),decide (a.start=b.start),decide (a.stop=b.stop),decide (a.e=b.e),decide (a.s=b.s)]
def dO.same(a b:dO):Bool:=conj [decide (a.kind=b.kind),a.act.same b.act,a.claim.same b.claim,a.pO.same b.pO,a.dec.same b.dec]
def eU(n lo hi:Int):Bool:=decide (lo<=n)&&decide (n<=hi)
def zX(s:ByteArray):Bool:=decide (s.size=32)
def tN(s:ByteArray):Bool:=decide (s.size<=500)
def fG(s:ByteArray):Bool:=decide (s.size=0)
def wP(n:Int):Bool:=eU n 1 2305843009213693950
def Bj(n d t:ByteArray):Bool:=decide (n.size=32)&&(decide (t.size=16)&&tN d)
def oH(w:bQ):Bool:=wP w.to&&(wP w.lV&&Bj w.n w.d w.t)
def EO(a:ak):Bool:=a.wraps.all oH&&decide (a.wraps.length=a.to.length)
def Dz(scope:Int)(group:ByteArray):Bool:=if scope=2 then nameB group else if scope=1∨scope=3 then fG group else false
def EP(a:ak):Bool:=fG a.bn&&(fG a.bd&&fG a.bt)
def ER(a:ak):Bool:=
 kG a.to&&if a.scope=0 then fG a.group&&(decide (a.epoch=0)&&(tN a.text&&EP a))
  else(decide (a.to.length=0)||decide (a.scope=3))&&(Dz a.scope a.group&&(eU a.epoch 0 1073741824&&(fG a.text&&Bj a.bn a.bd a.bt)))
def pR(a:ak):Bool:=zX a.object
def DF(a:ak):Bool:=jO a.target
def Jl(a:ak):Bool:=wP a.n&&eU a.m 0 19
def Ls(a:ak):Bool:=Dz a.scope a.group&&(eU a.epoch 0 1073741824&&(kG a.to&&EO a))
def TG(a:ak):Bool:=nameB a.text&&((pR a&&fG a.target)||(DF a&&fG a.object))
def TI(a:ak):Bool:=decide (0<a.to.length)&&(kG a.to&&(EO a&&(eU a.n 1 a.to.length&&wP a.m)))
def yN(a:ak):Bool:=if a.seq=0 then decide (a.kind=0)&&fG a.prev else eU a.seq 1 1073741824&&(decide (a.kind≠0)&&zX a.prev)
def kP(k:Nat)(a:ak):Bool:=
 match k with
 |0=>nameB a.text&&Jl a
 |1=>ER a
 |2=>pR a&&ER a
 |3=>pR a&&ER a
 |14=>pR a&&ER a
 |4=>pR a
 |5=>pR a
 |6=>pR a
 |13=>pR a
 |20=>pR a
 |7=>DF a
 |8=>DF a
 |9=>DF a
 |10=>DF a
 |11=>DF a
 |12=>pR a&&tN a.text
 |21=>pR a&&tN a.text
 |15=>nameB a.group&&kG a.to
 |16=>Ls a
 |17=>TG a
 |18=>Jl a
 |19=>TI a
 |22=>pR a&&eU a.n 0 1
 |23=>DF a&&(tN a.text&&eU a.n 0 1099511627776)
 |_=>false
def nP(k:Nat):Int:=
 match k with
 |0=>1568
 |1=>252
 |2=>253
 |3=>253
 |14=>253
 |4=>1
 |5=>1
 |6=>1
 |13=>1
 |20=>1
 |7=>2
 |8=>2
 |9=>2
 |10=>2
 |11=>2
 |12=>33
 |21=>33
 |15=>24
 |16=>412
 |17=>35
 |18=>1536
 |19=>1808
 |22=>513
 |23=>546
 |_=>0
def dQ(set f:Int)(zero:Bool):Int:=if zero then set else bits .or .i64 set f
def wQ(a:ak):Int:=
 dQ (dQ (dQ (dQ (dQ (dQ (dQ (dQ (dQ (dQ (dQ 0 1 (fG a.object)) 2 (fG a.target)) 4 (decide (a.scope=0))) 8 (fG a.group)) 16 (decide (a.to.length=0))) 32 (fG a.text)) 64 (EP a)) 128 (decide (a.epoch=0))) 256 (decide (a.wraps.length=0))) 512 (decide (a.n=0))) 1024 (decide (a.m=0))
def sF(a:ak):Bool:=decide (0<=a.kind)&&(decide (a.kind<24)&&(decide (bits .andNot .i64 (wQ a) (nP a.kind.toNat)=0)&&kP a.kind.toNat a))
def lW(n:Int):Bool:=eU n 0 2305843009213693949
def bT(a:ak):Bool:=jO a.author&&(yN a&&(eU a.time 0 1099511627776&&(lW a.e&&(lW a.s&&sF a))))
def amg(c:xM):Bool:=
 jO c.nO&&(eU c.base 1 1073741824&&(zX c.prev&&(eU c.gen 0 1073741824&&(eU c.home 0 19&&(eU c.pub 1 2305843009213693950&&(eU c.time 0 1099511627776&&(lW c.e&&lW c.s)))))))
def amh(b:wO):Bool:=
 eU b.server 0 19&&(jO b.nO&&(eU b.gen 0 1073741824&&(zX b.claim&&(eU b.time 0 1099511627776&&(lW b.e&&lW b.s)))))
def Xy(d:oU):Bool:=decide (d.to.length=0)&&decide (d.n=0)
def ami(d:oU):Bool:=
 if d.kind=0∨d.kind=1∨d.kind=4∨d.kind=6∨d.kind=7 then jO d.nO&&(fG d.object&&(tN d.text&&Xy d))
 else if d.kind=2∨d.kind=3∨d.kind=5 then fG d.nO&&(zX d.object&&(tN d.text&&Xy d))
 else if d.kind=8 then fG d.nO&&(fG d.object&&(tN d.text&&(kG d.to&&eU d.n 1 d.to.length)))
 else if d.kind=9 then fG d.nO&&(fG d.object&&(decide (d.text.size<=4096)&&Xy d))
 else false
def amj(d:oU):Bool:=
 eU d.server 0 19&&(eU d.number 0 1073741824&&(eU d.start 0 1099511627776&&(eU d.stop 0 1099511627776&&(decide (d.start<d.stop)&&(ami d&&(lW d.e&&lW d.s))))))
def tV(i:dO):Bool:=
 if i.kind=0 then bT i.act&&(i.claim.same Oz&&(i.pO.same Lr&&i.dec.same Jk))
 else if i.kind=1 then amg i.claim&&(i.act.same aH&&(i.pO.same Lr&&i.dec.same Jk))
 else if i.kind=2 then amh i.pO&&(i.act.same aH&&(i.claim.same Oz&&i.dec.same Jk))
 else if i.kind=3 then amj i.dec&&(i.act.same aH&&(i.claim.same Oz&&i.pO.same Lr))
 else false
def fV(n:Int):List UInt8:=(aU n).data.toList
def wR(n d t:ByteArray):List UInt8:=gZ n++(gZ d++gZ t)
def DI(w:bQ):List UInt8:=fV w.to++(fV w.lV++wR w.n w.d w.t)
def xO:ByteArray:=⟨#[97,99,116]⟩
def amk:ByteArray:=⟨#[99,108,97,105,109]⟩
def aml:ByteArray:=⟨#[98,97,108,108,111,116]⟩
def amm:ByteArray:=⟨#[100,101,99,105,115,105,111,110]⟩
def ES(a:ak):List UInt8:=
 gZ xO++(gZ a.author++(fV a.seq++(gZ a.prev++(fV a.kind++(fV a.time++(gZ a.object++(gZ a.target++(fV a.scope++(gZ a.group++(lF a.to++(gZ a.text++(wR a.bn a.bd a.bt++(fV a.epoch++(fV a.wraps.length++(a.wraps.flatMap DI++(fV a.n++fV a.m))))))))))))))))
def jP(a:ak):ByteArray:=if bT a then⟨(ES a).toArray⟩else bK
def xP(a:ak):ByteArray:=if bT a then⟨(ES a++(fV a.e++fV a.s)).toArray⟩else bK
def amn(c:xM):List UInt8:=gZ c.nO++(fV c.base++(gZ c.prev++(fV c.gen++(fV c.home++(fV c.pub++fV c.time)))))
def amo(b:wO):List UInt8:=fV b.server++(gZ b.nO++(fV b.gen++(gZ b.claim++fV b.time)))
def amq(d:oU):List UInt8:=fV d.server++(fV d.number++(fV d.kind++(gZ d.nO++(gZ d.object++(gZ d.text++(lF d.to++(fV d.n++(fV d.start++fV d.stop))))))))
def amr(i:dO):ByteArray:=if i.kind=1 then amk else if i.kind=2 then aml else amm
def acH(i:dO):List UInt8:=if i.kind=1 then amn i.claim else if i.kind=2 then amo i.pO else amq i.dec
def TJ(i:dO):Int×Int:=if i.kind=1 then(i.claim.e,i.claim.s)else if i.kind=2 then(i.pO.e,i.pO.s)else(i.dec.e,i.dec.s)
def acI(i:dO):ByteArray:=⟨(gZ (amr i)++acH i).toArray⟩
def Lu(i:dO):List UInt8:=fV i.kind++if i.kind=0 then(xP i.act).data.toList else acH i++(fV (TJ i).1++fV (TJ i).2)
def yO(i:dO):ByteArray:=if tV i then⟨(Lu i).toArray⟩else bK
def wS(i:dO):ByteArray:=if tV i then su (yO i)else bK
def OA(servers:List Int)(i:dO):Bool:=
 tV i&&if i.kind=2 then decide (i.pO.server<servers.length)&&acG (servers.getD i.pO.server.toNat 0) (acI i) (TJ i)
  else if i.kind=3 then decide (i.dec.server<servers.length)&&acG (servers.getD i.dec.server.toNat 0) (acI i) (TJ i)else true
def tX(w:World)(A:Option Addr)(l:List bQ):Prop:=0<l.length->∃b o,A=some ⟨b,o,none⟩/\b<w.heap.size/\∀j (h:j<l.length),w.rangeAt b (o+j*5) l[j].cells
def I64(n:Int):Prop:= -9223372036854775808<=n/\n<=9223372036854775807
structure bU(w:World)(a:ak):Prop where
 to:Strs w a.toA a.to
 wraps:tX w a.gy a.wraps
 toC:a.to.length<=a.toC/\a.toC<=maxLen
 dF:a.wraps.length<=a.dF/\a.dF<=maxLen
structure ET(w:World)(d:oU):Prop where
 to:Strs w d.toA d.to
 toC:d.to.length<=d.toC/\d.toC<=maxLen
structure mQ(w:World)(i:dO):Prop where
 act:bU w i.act
 dec:ET w i.dec
end Item
namespace Mem
open Go.RowKit aQ
structure Wd(w0:World) where
 w:World
 q:Q w0 w
instance(w0:World):Nonempty (Wd w0):=⟨⟨w0,Q.refl w0⟩⟩
section
variable {w0:World}
theorem Wd.next(x:Wd w0){w':World}(hq:Q x.w w'):∃y:Wd w0,w'=y.w:=⟨⟨w',Q.trans x.q hq⟩,rfl⟩
theorem Wd.first(w0:World):∃y:Wd w0,w0=y.w:=⟨⟨w0,Q.refl w0⟩,rfl⟩
theorem Wd.enter{w wr:World}(hq:Q w wr):∃(w1:World) (x:Wd w1),wr=x.w/\Q w w1:=⟨wr,⟨wr,Q.refl _⟩,rfl,hq⟩
theorem Wd.cell(x:Wd w0){b o:Nat}(hb:b<w0.heap.size):x.w.cell? ⟨b,o,none⟩=w0.cell? ⟨b,o,none⟩:=x.q.cell (p:=⟨b,o,none⟩) hb
theorem Wd.blk(x:Wd w0){g:Nat}{t:TypeId}{cs:Array Value}(h:ah w0 g t cs):ah x.w g t cs:=h.q x.q
theorem Wd.call{P:Program}{f:FuncId}{args:Array Value}{v:Value}(x:Wd w0)(h:Calls P f args x.w fun e w'=>e= .returned v/\Q x.w w'):Calls P f args x.w fun e w'=>e= .returned v/\∃y:Wd w0,w'=y.w:=
 h.mono fun _ _ ⟨he,hq⟩=>⟨he,x.next hq⟩
theorem kJ{P:Program}{id:Nat}{K:Exit->Act->World->Prop}{a:Act}(x:Wd w0){l:List Oper}(hm:P.follows .mixedOrders=true)(hB:Region.lexB .any l.toArray=true)
 (h:wpQuiet P l.toArray (fun w'=>∃y:Wd w0,w'=y.w) (fun a'=>∀w',(∃y:Wd w0,w'=y.w)->K .normal a' w') l a):(Code.region id l.toArray true).wp P K a x.w:=
 wp_region_quiet (C:=fun w'=>∃y:Wd w0,w'=y.w) hm hB (x.next (Q.refl _).drew) (by simpa using h)
end
theorem ah.range{w:World}{g:Nat}{t:TypeId}{cs:List Value}(h:ah w g t cs.toArray):w.rangeAt g 0 cs:=fun j v hv=>by
 rw[Nat.zero_add,h.cell j]
 simpa using hv
theorem OB{w:World}{b o:Nat}{cs:List Value}(h:w.rangeAt b o cs)(k n:Nat):w.rangeAt b (o+k) ((cs.drop k).take n):=fun j v hv=>by
 rw[List.getElem?_take]at hv
 split at hv
 ·rw[List.getElem?_drop]at hv
  have:=h (k+j) v hv
  rwa[<-Nat.add_assoc]at this
 ·cases hv
theorem yP{w w':World}{b o:Nat}{cs:List Value}(h:w.rangeAt b o cs)(hq:Q w w')(hb:b<w.heap.size):w'.rangeAt b o cs:=fun j v hv=>
 (hq.cell (p:=⟨b,o+j,none⟩) hb).trans (h j v hv)
theorem Wd.load{P:Program}{w0:World}{b o:Nat}{cs:List Value}(hb:b<w0.heap.size)(h:w0.rangeAt b o cs){ty:TypeId}{d:TypeDesc}(hu:P.underlying ty=some d)(hd:d.isRow=true)(hi:(P.info? ty).map (·.size)=some cs.length):
 ∀x:Wd w0,(Instr.loadAt ty (.pointer (some ⟨b,o,none⟩))).run P x.w= .ok (.agg cs.toArray) x.w:=fun x=>
 run_loadAt_mid x.w b o ty cs d (yP h x.q hb) hu hd hi
theorem Wd.get{w0:World}{b o:Nat}{cs:List Value}(hb:b<w0.heap.size)(h:w0.rangeAt b o cs)(j:Nat){v:Value}(hv:cs[j]?=some v):∀x:Wd w0,x.w.cell? ⟨b,o+j,none⟩=some v:=fun x=>yP h x.q hb j v hv
theorem Wd.at0{w0:World}{b:Nat}{cs:List Value}(hb:b<w0.heap.size)(h:w0.rangeAt b 0 cs)(j:Nat){v:Value}(hv:cs[j]?=some v):∀x:Wd w0,x.w.cell? ⟨b,j,none⟩=some v:=fun x=>by
 have:=yP h x.q hb j v hv
 rwa[Nat.zero_add]at this
theorem OC{P:Program}{ops:Array Oper}{rest:List Oper}{o:Oper}{a:Act}{w:World}{K:Exit->Act->World->Prop}(ty:TypeId)(y:Operand)(p v:Value)(ho:o.op= .load ty y)(hw:Region.wanted o (yielded ops a.tmps)=true)
 (hy:a.eval y=p) (hr:(Instr.loadAt ty p).run P w= .ok v w) (h:wpList P ops K rest (a.put o.dst v) w):wpList P ops K (o::rest) a w:=by
 refine wpList_step fun K' hK=> ?_
 rw[if_pos hw]
 unfold Oper.wp execOp
 simp only[ho,hy,Sem.run_bind,hr,Result.andThen_ok,Sem.run_pure]
 exact hK _ _ h
theorem OD{P:Program}{w0:World}{ops:Array Oper}{rest:List Oper}{o:Oper}{a:Act}{K:Act->Prop}(ty:TypeId)(y:Operand)(p v:Value)(ho:o.op= .load ty y)(hw:Region.wanted o (yielded ops a.tmps)=true)
 (hy:a.eval y=p) (hr:∀z:Wd w0,(Instr.loadAt ty p).run P z.w= .ok v z.w) (h:wpQuiet P ops (fun w'=>∃y:Wd w0,w'=y.w) K rest (a.put o.dst v)):wpQuiet P ops (fun w'=>∃y:Wd w0,w'=y.w) K (o::rest) a:=by
 unfold wpQuiet
 rw[if_pos hw]
 refine⟨v,?_,h⟩
 rintro w ⟨z,rfl⟩
 unfold Oper.quietAt execOp
 simp only[ho,hy,Sem.run_bind,hr,Result.andThen_ok,Sem.run_pure,Oper.quietUpon]
 exact⟨trivial,trivial⟩
theorem aI{P:Program}{ops:Array Oper}{rest:List Oper}{o:Oper}{a:Act}{w:World}{K:Exit->Act->World->Prop}{ty:TypeId}(y:Operand){p v:Value}(hr:(Instr.loadAt ty p).run P w= .ok v w)(h:wpList P ops K rest (a.put o.dst v) w)(ho:o.op= .load ty y:=by rfl)(hw:Region.wanted o (yielded ops a.tmps)=true:=by rfl)(hy:a.eval y=p:=by rfl):wpList P ops K (o::rest) a w:=OC ty y p v ho hw hy hr h
theorem dX{P:Program}{w0:World}{g:Nat}{t:TypeId}(A:Array Value)(h:ah w0 g t A){d:TypeDesc}(hu:P.underlying t=some d)(hd:d.isRow=true:=by rfl)(hi:(P.info? t).map (·.size)=some A.toList.length:=by kernel_rfl):∀x:Wd w0,(Instr.loadAt t (.pointer (some ⟨g,0,none⟩))).run P x.w= .ok (.agg A) x.w:=Wd.load (cs:=A.toList) h.lt (ah.range (cs:=A.toList) h) hu hd hi
theorem pU{P:Program}{w0:World}{g:Nat}{t:TypeId}(A:Array Value)(h:ah w0 g t A){d:TypeDesc}(hu:P.underlying t=some d)(hd:d.isRow=true:=by rfl)(hi:(P.info? t).map (·.size)=some A.toList.length:=by kernel_rfl):(Instr.loadAt t (.pointer (some ⟨g,0,none⟩))).run P w0= .ok (.agg A) w0:=dX A h hu hd hi ⟨w0,Q.refl _⟩
theorem aB(v:Value){w0:World}{g:Nat}{t:TypeId}{A:Array Value}(h:ah w0 g t A)(i:Nat)(e:A[i]?=some v:=by rfl):∀y:Wd w0,y.w.cell? ⟨g,i,none⟩=some v:=fun y=>((y.blk h).cell i).trans e
theorem bI{w0:World}{g:Nat}{t:TypeId}{A:Array Value}(h:ah w0 g t A)(i:Nat):∀y:Wd w0,y.w.frozen? ⟨g,i,none⟩=false:=fun y=>(y.blk h).frozen i
end Mem
namespace Item
open Go.RowKit aQ Mem _root_.Go.Proofs.YtbemmjnjoabadaaGreatDoor.Code aY Sign
theorem acJ(c:Int)(w:World)(h1:48<=c)(h2:c<=57):Calls Tryz.prog 158 #[.int .i32 c] w fun e w'=>e= .returned (.bool true)/\w=w':=by
 go_enter Tryz.func158,Tryz.ntmps158
 go_wp2
 go_ret
 exact⟨by simp[h1,h2],rfl⟩
theorem TK(c:Int)(w:World)(h:c<48∨57<c):Calls Tryz.prog 158 #[.int .i32 c] w fun e w'=>e= .returned (.bool false)/\w=w':=by
 by_cases h1:48<=c
 ·have h2:¬c<=57:=by omega
  go_enter Tryz.func158,Tryz.ntmps158
  go_wp2
  go_ret
  exact⟨by simp[h2],rfl⟩
 ·have h2:decide (48<=c)=false:=by simpa using h1
  go_enter Tryz.func158,Tryz.ntmps158
  go_wp2
  go_ret
  exact⟨rfl,rfl⟩
theorem OE(w:World)(s:ByteArray)(p:Nat):Q w (w.iter s p):=Below.alloc (Q.refl w) (Nat.le_refl _) _
theorem ams(s:ByteArray)(p:UInt8->Bool)(k:Nat)(h:k<s.size):(s.data.toList.take (k+1)).all p=((s.data.toList.take k).all p&&p s[k]):=by
 rw[List.take_succ_eq_append_getElem (by rw[ny];exact h),List.all_append]
 simp
 rfl
theorem amu(s:ByteArray)(p:UInt8->Bool)(k:Nat)(h:k<s.size)(hp:p s[k]=false):s.data.toList.all p=false:=by
 rw[Bool.eq_false_iff]
 intro ha
 rw[List.all_eq_true]at ha
 have:=ha s[k] (by
  have:s.data.toList[k]'(by rw[ny];exact h)=s[k]:=rfl
  rw[<-this]
  exact List.getElem_mem _)
 rw[hp]at this
 cases this
theorem acK(s:ByteArray)(h:s.size=16->s.data.toList.all Dy=false):jO s=false:=by
 unfold jO
 by_cases h1:s.size=16
 ·rw[h h1];simp
 ·simp[h1]
theorem LD(s:ByteArray)(w:World):Calls Tryz.prog 101 #[.string s] w fun e w'=>e= .returned (.bool (jO s))/\Q w w':=by
 by_cases h16:s.size=16
 ·have hn:((s.size:Int) !=16)=false:=by simp[h16]
  have H16:=Lib.hid h16
  clear h16
  go_enter Tryz.func101,Tryz.ntmps101
  go_wp2
  clear hn
  go_loopw [4] (fun c wr=>∃pos,pos<=s.size/\wr=w.iter s pos/\Hid ((s.data.toList.take pos).all Dy=true)) (fun _ wr=>s.size-wr.iterPos w.heap.size)
  case atStart=>exact⟨0,Nat.zero_le _,rfl,Lib.hid (by simp)⟩
  case round=>
   obtain⟨pos,hpos,rfl,hall⟩:=hrel
   by_cases hp:pos<s.size
   ·have hb:s[pos].toNat<256:=s[pos].toNat_lt
    by_cases hx:Dy s[pos]=true
    ·have hs:Hid ((s.data.toList.take (pos+1)).all Dy=true):=Lib.hid (by rw[ams s Dy pos hp,hall.out,hx];rfl)
     have hd:(48<=s[pos].toNat/\s[pos].toNat<=57)∨(97<=s[pos].toNat/\s[pos].toNat<=102):=by simpa[Dy]using hx
     have hnx:∀ty,(Instr.next (.pointer (some ⟨w.heap.size,0,none⟩)) true ty).run Tryz.prog (w.iter s pos)=_:=fun ty=>run_next_ascii w s pos ty hp (by omega)
     clear hx
     rcases hd with⟨d1,d2⟩|⟨d1,d2⟩
     ·go_wp2_with (go_at_call 158;refine(acJ _ _ (by omega) (by omega)).mono ?_;rintro e w' ⟨rfl,rfl⟩)
      go_roundw
      case rel=>exact⟨pos+1,by omega,rfl,hs⟩
      case measure=>simp;omega
     ·have e1:decide ((s[pos].toNat:Int)<97)=false:=by simp;omega
      have e2:¬(102:Int)<(s[pos].toNat:Int):=by omega
      go_wp2_with (go_at_call 158;refine(TK _ _ (by omega)).mono ?_;rintro e w' ⟨rfl,rfl⟩)
      go_roundw
      case rel=>exact⟨pos+1,by omega,rfl,hs⟩
      case measure=>simp;omega
    ·have hx:Dy s[pos]=false:=by simpa using hx
     have hres:=Lib.hid (acK s (fun _=>amu s Dy pos hp hx))
     have hd:∃(r n:Nat),(∀ty,(Instr.next (.pointer (some ⟨w.heap.size,0,none⟩)) true ty).run Tryz.prog (w.iter s pos)= .ok (.tuple #[.bool true, .int .i64 pos, .int .i32 r]) (w.iter s n))/\(r<48∨57<r)/\(r<97∨102<r):=by
      by_cases ha:s[pos].toNat<128
      ·refine⟨s[pos].toNat,pos+1,fun ty=>run_next_ascii w s pos ty hp ha,?_⟩
       simp[Dy]at hx
       omega
      ·have:=(decode_high s pos hp (by omega)).1
       exact⟨_,_,fun ty=>run_next_any w s pos ty hp,by omega,by omega⟩
     obtain⟨r,n,hnx,d1,d2⟩:=hd
     clear hx
     by_cases hr:r<97
     ·have e1:decide ((r:Int)<97)=true:=by simp;omega
      go_wp2_with (go_at_call 158;refine(TK _ _ (by omega)).mono ?_;rintro e w' ⟨rfl,rfl⟩)
      go_ret
      exact⟨by rw[hres.out];rfl,OE _ _ _⟩
     ·have e1:decide ((r:Int)<97)=false:=by simp;omega
      have e2:(102:Int)<(r:Int):=by omega
      go_wp2_with (go_at_call 158;refine(TK _ _ (by omega)).mono ?_;rintro e w' ⟨rfl,rfl⟩)
      go_ret
      exact⟨by rw[hres.out];rfl,OE _ _ _⟩
   ·have hnx:∀ty,(Instr.next (.pointer (some ⟨w.heap.size,0,none⟩)) true ty).run Tryz.prog (w.iter s pos)=_:=fun ty=>run_next_end w s pos ty hp
    have hres:Hid (jO s=true):=by
     refine Lib.hid ?_
     have:=hall.out
     rw[List.take_of_length_le (by rw[ny];omega)]at this
     simp[jO,H16.out,this]
    go_wp2
    go_ret
    exact⟨by rw[hres.out];rfl,OE _ _ _⟩
 ·have hn:((s.size:Int) !=16)=true:=by simp;omega
  have hres:=Lib.hid (acK s (fun h=>absurd h h16))
  clear h16
  go_enter Tryz.func101,Tryz.ntmps101
  go_wp2
  go_ret
  exact⟨by rw[hres.out];rfl,Q.refl _⟩
def LG(c:Int):Bool:=decide (48<=c)&&decide (c<=57)
theorem amw(c:Int)(w:World):Calls Tryz.prog 158 #[.int .i32 c] w fun e w'=>e= .returned (.bool (LG c))/\w=w':=by
 by_cases h:48<=c/\c<=57
 ·have:LG c=true:=by simp[LG,h]
  rw[this]
  exact acJ c w h.1 h.2
 ·have:LG c=false:=by
   simp only[LG,Bool.and_eq_false_iff,decide_eq_false_iff_not]
   omega
  rw[this]
  exact TK c w (by omega)
theorem amx(l:List UInt8)(c:UInt8)(h:l≠[]):xK (l++[c])=(xK l&&GU c):=by
 cases l with
 |nil=>exact absurd rfl h
 |cons a r=>simp[xK,List.all_append,Bool.and_assoc]
theorem amy:∀(l r:List UInt8),l≠[]->xK l=false->xK (l++r)=false:=by
 intro l r h hf
 cases l with
 |nil=>exact absurd rfl h
 |cons a l=>
  simp only[xK,List.cons_append,List.all_append]at*
  cases h1:zV a
  ·rfl
  ·rw[h1,Bool.true_and]at hf
   rw[hf]
   rfl
theorem amA(s:ByteArray)(h:¬0<s.size):nameB s=false:=by
 have:s.data.toList=[]:=List.eq_nil_of_length_eq_zero (by rw[ny];omega)
 simp[nameB,this,xK]
theorem amB(s:ByteArray)(h:24<s.size):nameB s=false:=by
 simp[nameB];omega
theorem amC(s:ByteArray)(k:Nat)(h:k<s.size)(hk:0<k->xK (s.data.toList.take k)=true)(hs:s.size<=24):
 ((if k=0 then zV s[k]else GU s[k])=true->xK (s.data.toList.take (k+1))=true)/\((if k=0 then zV s[k]else GU s[k])=false->nameB s=false):=by
 have hl:k<s.data.toList.length:=by rw[ny];exact h
 have hg:s.data.toList[k]=s[k]:=rfl
 have ht:s.data.toList.take (k+1)=s.data.toList.take k++[s[k]]:=by rw[List.take_succ_eq_append_getElem hl,hg]
 have hall:xK (s.data.toList.take (k+1))=if k=0 then zV s[k]else GU s[k]:=by
  rw[ht]
  by_cases h0:k=0
  ·subst h0;simp[xK]
  ·rw[amx _ _ (by intro hn;have:=congrArg List.length hn;rw[List.length_take,List.length_nil]at this;omega),hk (by omega),if_neg h0];rfl
 refine⟨fun h1=>hall.trans h1,fun h1=> ?_⟩
 have:=amy (s.data.toList.take (k+1)) (s.data.toList.drop (k+1)) (by rw[ht];simp) (hall.trans h1)
 rw[List.take_append_drop]at this
 simp[nameB,this]
theorem name_any(s:ByteArray)(w:World):Calls Tryz.prog 169 #[.string s] w fun e w'=>e= .returned (.bool (nameB s))/\Q w w':=by
 by_cases hz:0<s.size
 ·have hem:s.toList.isEmpty=false:=by
   rw[ByteArray.toList_eq]
   cases h:s.data.toList with
   |nil=>exact absurd (congrArg List.length h) (by rw[ny,List.length_nil];omega)
   |cons a b=>rfl
  by_cases hs:s.size<=24
  ·have hlen:¬(24:Int)<(s.size:Int):=by omega
   go_enter Tryz.func169,Tryz.ntmps169
   go_wp2
   clear hem
   go_loopw [3,4,5] (fun _ _ _ wr=>∃pos,pos<=s.size/\wr=w.iter s pos/\Hid (0<pos->xK (s.data.toList.take pos)=true)) (fun _ _ _ wr=>s.size-wr.iterPos w.heap.size)
   case atStart=>exact⟨0,Nat.zero_le _,rfl,Lib.hid (by simp)⟩
   case round=>
    obtain⟨pos,hpos,rfl,hall⟩:=hrel
    by_cases hp:pos<s.size
    ·have hb:s[pos].toNat<256:=s[pos].toNat_lt
     have hst:=amC s pos hp hall.out hs
     have hd:∃(r n:Nat),(∀ty,(Instr.next (.pointer (some ⟨w.heap.size,0,none⟩)) true ty).run Tryz.prog (w.iter s pos)= .ok (.tuple #[.bool true, .int .i64 pos, .int .i32 r]) (w.iter s n))/\
      Hid (((97<=r/\r<=122)∨(pos≠0/\((48<=r/\r<=57)∨r=95)))->n=pos+1/\xK (s.data.toList.take (pos+1))=true)/\Hid (¬((97<=r/\r<=122)∨(pos≠0/\((48<=r/\r<=57)∨r=95)))->nameB s=false):=by
      by_cases ha:s[pos].toNat<128
      ·refine⟨s[pos].toNat,pos+1,fun ty=>run_next_ascii w s pos ty hp ha,Lib.hid fun h=>⟨rfl,hst.1 ?_⟩,Lib.hid fun h=>hst.2 ?_⟩
       ·by_cases h0:pos=0
        ·rw[if_pos h0];simp only[zV,Bool.and_eq_true,Bool.or_eq_true,decide_eq_true_eq];omega
        ·rw[if_neg h0];simp only[zV,GU,Bool.and_eq_true,Bool.or_eq_true,decide_eq_true_eq];omega
       ·by_cases h0:pos=0
        ·rw[if_pos h0];simp only[zV,Bool.and_eq_false_iff,decide_eq_false_iff_not];omega
        ·rw[if_neg h0];simp only[zV,GU,Bool.and_eq_false_iff,Bool.or_eq_false_iff,decide_eq_false_iff_not];omega
      ·have hh:=decode_high s pos hp (by omega)
       refine⟨_,_,fun ty=>run_next_any w s pos ty hp,Lib.hid fun h=>by omega,Lib.hid fun h=>hst.2 ?_⟩
       by_cases h0:pos=0
       ·rw[if_pos h0];simp only[zV,Bool.and_eq_false_iff,decide_eq_false_iff_not];omega
       ·rw[if_neg h0];simp only[zV,GU,Bool.and_eq_false_iff,Bool.or_eq_false_iff,decide_eq_false_iff_not];omega
     obtain⟨r,n,hnx,hgood,hbad⟩:=hd
     clear hst hb hall
     go_wp2_with (go_at_call 158;refine(amw _ _).mono ?_;rintro e w' ⟨rfl,rfl⟩)
     all_goals clear hnx
     all_goals try simp only[LG,Bool.and_eq_true,Bool.or_eq_true,decide_eq_true_eq,Bool.not_eq_true,Bool.and_eq_false_iff,decide_eq_false_iff_not,beq_iff_eq,bne_iff_ne,ne_eq,Bool.not_eq_true',Bool.not_eq_false',beq_eq_false_iff_ne,bne_eq_false_iff_eq]at*
     all_goals
      first
       |(exfalso;omega)
       |(have hh:=hgood.out (by omega)
         obtain⟨rfl,hh2⟩:=hh
         exact⟨⟨pos+1,by omega,rfl,Lib.hid fun _=>hh2⟩,by simp;omega⟩)
       |(go_ret
         exact⟨by rw[hbad.out (by omega)];rfl,OE _ _ _⟩)
    ·have hnx:∀ty,(Instr.next (.pointer (some ⟨w.heap.size,0,none⟩)) true ty).run Tryz.prog (w.iter s pos)=_:=fun ty=>run_next_end w s pos ty hp
     have hres:Hid (nameB s=true):=by
      refine Lib.hid ?_
      have:=hall.out (by omega)
      rw[List.take_of_length_le (by rw[ny];omega)]at this
      simp[nameB,hs,this]
     go_wp2
     go_ret
     exact⟨by rw[hres.out];rfl,OE _ _ _⟩
  ·have hlen:(24:Int)<(s.size:Int):=by omega
   have hres:=Lib.hid (amB s (by omega))
   go_enter Tryz.func169,Tryz.ntmps169
   go_wp2
   go_ret
   exact⟨by rw[hres.out];rfl,Q.refl _⟩
 ·have hem:s.toList.isEmpty=true:=by
   rw[ByteArray.toList_eq]
   rw[List.eq_nil_of_length_eq_zero (show s.data.toList.length=0 by rw[ny];omega)];rfl
  have hres:=Lib.hid (amA s hz)
  go_enter Tryz.func169,Tryz.ntmps169
  go_wp2
  go_ret
  exact⟨by rw[hres.out];rfl,Q.refl _⟩
theorem OG(a b:ByteArray):iq a b=decide (a.data.toList<b.data.toList):=by
 unfold iq
 rw[ByteArray.toList_eq,ByteArray.toList_eq]
 exact _root_.Go.Proofs.bytesLess_eq _ _
theorem DJ(a:ByteArray):iq a a=false:=by
 rw[OG,decide_eq_false_iff_not]
 exact List.lt_irrefl _
theorem Xz{a b c:ByteArray}(h:iq a b=true)(k:iq b c=true):iq a c=true:=by
 rw[OG,decide_eq_true_eq]at*
 exact List.lt_trans h k
theorem OH{a b:ByteArray}(h:iq a b=true):iq b a=false:=by
 rw[Bool.eq_false_iff]
 intro k
 have:=Xz h k
 rw[DJ]at this
 cases this
theorem OI(a b:ByteArray):iq a b=true∨a=b∨iq b a=true:=by
 simp only[OG,decide_eq_true_eq]
 rcases Std.lt_trichotomy a.data.toList b.data.toList with h|h|h
 ·exact .inl h
 ·exact .inr (.inl (Bc h))
 ·exact .inr (.inr h)
theorem amD(a:ByteArray):iq ⟨#[]⟩ a=decide (0<a.size):=by
 rw[OG,<-ny]
 cases h:a.data.toList<;>simp
theorem acL(a b:ByteArray):(Op.bytesLess a.toList b.toList||a.toList==b.toList)= !iq b a:=by
 show(iq a b||_)=_
 rcases OI a b with h|rfl|h
 ·rw[h,OH h];rfl
 ·rw[DJ];simp
 ·have hne:(a.toList==b.toList)=false:=by
   rw[beq_eq_false_iff_ne]
   intro e
   rw[ByteArray.toList_eq,ByteArray.toList_eq]at e
   rw[Bc e,DJ]at h
   cases h
  rw[OH h,h,hne];rfl
theorem amE:∀(l:List ByteArray) (b:ByteArray),zW (l++[b])=(zW l&&match l.getLast? with|some a=>iq a b|none=>true):=by
 intro l
 induction l with
 |nil=>intro b;rfl
 |cons a l ih=>
  intro b
  cases l with
  |nil=>simp[zW]
  |cons c r=>
   have:=ih b
   simp only[List.cons_append,zW]at*
   rw[this,Bool.and_assoc]
   simp
theorem amF:∀(l r:List ByteArray),zW l=false->zW (l++r)=false:=by
 intro l
 induction l with
 |nil=>intro r h;cases h
 |cons a l ih=>
  intro r h
  cases l with
  |nil=>cases h
  |cons c t=>
   simp only[List.cons_append,zW,Bool.and_eq_false_iff]at*
   rcases h with h|h
   ·exact .inl h
   ·exact .inr (ih r h)
def EU(l:List ByteArray):Bool:=l.all jO&&zW l
theorem acM(l:List ByteArray)(k:Nat)(h:EU (l.take k)=false):kG l=false:=by
 have hl:l.take k++l.drop k=l:=List.take_append_drop _ _
 unfold EU at h
 rw[Bool.and_eq_false_iff]at h
 unfold kG
 rw[<-hl]
 rcases h with h|h
 ·rw[List.all_append,h];simp
 ·rw[amF _ _ h];simp
theorem amG(l:List ByteArray)(k:Nat)(h:k<l.length):EU (l.take (k+1))=(EU (l.take k)&&(jO l[k]&&(decide (k=0)||iq (l.getD (k-1) ⟨#[]⟩) l[k]))):=by
 have ht:l.take (k+1)=l.take k++[l[k]]:=List.take_succ_eq_append_getElem h
 unfold EU
 rw[ht,List.all_append,amE]
 have hlast:(match (l.take k).getLast? with|some a=>iq a l[k]|none=>true)=(decide (k=0)||iq (l.getD (k-1) ⟨#[]⟩) l[k]):=by
  by_cases h0:k=0
  ·subst h0;simp
  ·have:(l.take k).getLast?=some (l.getD (k-1) ⟨#[]⟩):=by
    rw[List.getLast?_eq_getElem?,List.length_take,Nat.min_eq_left (by omega),List.getElem?_take,if_pos (by omega),List.getD_eq_getElem?_getD,List.getElem?_eq_getElem (by omega)]
    rfl
   rw[this]
   simp[h0]
 rw[hlast]
 simp only[List.all_cons,List.all_nil,Bool.and_true]
 cases(l.take k).all jO<;>cases jO l[k]<;>cases zW (l.take k)<;>simp
theorem amH(l:List ByteArray)(h:64<l.length):kG l=false:=by
 unfold kG
 rw[show decide (l.length<=64)=false by simp;omega]
 rfl
theorem LH(A:Option Addr)(c:Nat)(l:List ByteArray)(w:World)(hS:Strs w A l)(hc:l.length<=9223372036854775807):Calls Tryz.prog 56 #[.slice A l.length c] w fun e w'=>e= .returned (.bool (kG l))/\Q w w':=by
 by_cases hl:l.length<=64
 ·have hlen:¬(64:Int)<(l.length:Int):=by omega
  go_enter Tryz.func56,Tryz.ntmps56
  go_wp2_with fail
  go_loopw [3,4,10] (fun _ _ i wr=>∃k:Nat,i= .int .i64 k/\k<=l.length/\Hid (EU (l.take k)=true)/\Q w wr) (fun _ _ i _=>l.length-(intOf i).toNat)
  case atStart=>exact⟨0,rfl,Nat.zero_le _,Lib.hid rfl,Q.refl _⟩
  case round=>
   obtain⟨k,rfl,hk,hto,hq⟩:=hrel
   obtain⟨w1,x,rfl,hq1⟩:=Wd.enter hq
   by_cases hlt:k<l.length
   ·obtain⟨b,o,rfl,hb,hcell⟩:=(hS.q hq1) (by omega)
    have hst:=amG l k hlt
    rw[hto.out,Bool.true_and]at hst
    have c1:∀y:Wd w1,y.w.cell? ⟨b,o+k,none⟩=some (.string l[k]):=fun y=>(y.cell hb).trans (hcell k hlt)
    by_cases h0:k=0
    ·have n0:¬(0:Int)<(k:Int):=by omega
     have HST:Hid (EU (l.take (k+1))=jO l[k]):=Lib.hid (by rw[hst];simp[h0])
     have HF:=Lib.hid (acM l (k+1))
     clear hst hcell hto h0
     generalize l[k]=z at*
     go_wp2_with (go_at_call 101;refine(LD _ _).mono ?_;rintro e w' ⟨rfl,hq1⟩;obtain⟨y,rfl⟩:=Wd.next _ hq1;clear hq1)
     all_goals
      first
       |(go_ret
         exact⟨by rw[HF.out (by rw[HST.out];simp[*])];rfl,Q.trans hq1 (Wd.q _)⟩)
       |exact⟨⟨k+1,by go_num,by omega,Lib.hid (by rw[HST.out];simp[*]),Q.trans hq1 (Wd.q _)⟩,by simp only[intOf];omega⟩
    ·have hk1:(k:Int)-1<(l.length:Int):=by omega
     have hk2:(0:Int)<=(k:Int)-1:=by omega
     have n0:(0:Int)<(k:Int):=by omega
     have c2:∀y:Wd w1,y.w.cell? ⟨b,o+(k-1),none⟩=some (.string (l.getD (k-1) ⟨#[]⟩)):=fun y=>by
      rw[y.cell hb,hcell (k-1) (by omega),List.getD_eq_getElem?_getD,List.getElem?_eq_getElem (by omega)]
      rfl
     have HST:Hid (EU (l.take (k+1))=(jO l[k]&&iq (l.getD (k-1) ⟨#[]⟩) l[k])):=Lib.hid (by rw[hst];simp[h0])
     have HF:=Lib.hid (acM l (k+1))
     clear hst hcell hto h0
     generalize l[k]=z at*
     generalize l.getD (k-1) ⟨#[]⟩=z1 at*
     have hle:=acL z z1
     go_wp2_with (go_at_call 101;refine(LD _ _).mono ?_;rintro e w' ⟨rfl,hq1⟩;obtain⟨y,rfl⟩:=Wd.next _ hq1;clear hq1)
     all_goals try simp only[Bool.not_eq_true',Bool.not_eq_false',Bool.not_eq_true]at*
     all_goals
      first
       |(go_ret
         exact⟨by rw[HF.out (by rw[HST.out];simp[*])];rfl,Q.trans hq1 (Wd.q _)⟩)
       |exact⟨⟨k+1,by go_num,by omega,Lib.hid (by rw[HST.out];simp[*]),Q.trans hq1 (Wd.q _)⟩,by simp only[intOf];omega⟩
   ·have hks:k=l.length:=by omega
    have hres:Hid (kG l=true):=by
     refine Lib.hid ?_
     have:=hto.out
     rw[hks,List.take_length]at this
     unfold EU at this
     unfold kG
     rw[Bool.and_eq_true]at this
     rw[this.1,this.2]
     simp[hl]
    clear hks
    go_wp2
    go_ret
    exact⟨by rw[hres.out];rfl,hq⟩
 ·have hlen:(64:Int)<(l.length:Int):=by omega
  have hres:=Lib.hid (amH l (by omega))
  go_enter Tryz.func56,Tryz.ntmps56
  go_wp2
  go_ret
  exact⟨by rw[hres.out];rfl,Q.refl _⟩
end Item
end Go.Proofs.YtbemmjnjoabadaaGreatDoor
