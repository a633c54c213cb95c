import Derived.Test.YtejdbdegdanecaaGreatSxSop
set_option linter.unusedVariables false
set_option linter.unusedSimpArgs false
namespace Go.Sx
open Go.RowKit
abbrev Q:=Option Prop
abbrev Q.h:Q->Prop
 |none=>True
 |some p=>p
def wfQ (x:SV):Q:=match wfP x with|[]=>none|p::r=>some (an1 p r)
theorem Adj {x:SV}:(wfQ x).h↔Wf x:=by
 rw[←wfP_iff];unfold wfQ;split
 · rename_i h; rw[h]; exact Iff.rfl
 · rename_i p r h; rw[h]; exact Iff.rfl
inductive OpR where
 |fail
 |ok (hyp chk:Q) (sv:SV) (heap:List HB) (R W:List Nat)
def numOf:SV->Option (IntKind×Int×Bool)
 | .int k n=>some (k,n,false)
 | .lit k n=>some (k,n,true)
 |_=>none
def booOf:SV->Option (Bool×Bool)
 | .bool b=>some (b,false)
 | .blit b=>some (b,true)
 |_=>none
def mkNum (k:IntKind) (n:Int):Bool->SV|true=> .lit k n|false=> .int k n
def mkBoo (b:Bool):Bool->SV|true=> .blit b|false=> .bool b
def agTy (P:Program) (t:TypeId):Option Bool:=
 match P.underlying t with
 |some (.struct _)|some (.array _ _)=>some true
 |some _=>some false
 |none=>none
def szTy (P:Program) (t:TypeId):Option Nat:=(P.info? t).map (·.size)
def svCells:SV->Option (List SV)
 | .agg cs=>some cs
 | .any| .undef| .tup _=>none
 |x=>some [x]
def ofV:Value->SV
 | .int k n=>if inRb k n=true then .lit k n else .any
 | .bool b=> .blit b
 | .string s=>if s.size<=maxLen then .str s else .any
 | .slice none 0 0=> .nils
 | .pointer none=> .nilp
 |_=> .any
def ofVs (l:List Value):List SV:=l.map ofV
def AeH:Value->SV
 | .agg cs=>if cs.toList.all (·.oneCell')then .agg (ofVs cs.toList)else .any
 | .tuple cs=>if cs.toList.isEmpty then .undef else .any
 |v=>ofV v
def Adx (P:Program) (t:TypeId) (cells:List SV) (off:Nat):Option SV:=
 match agTy P t,szTy P t with
 |some true,some n=>if off+n<=cells.length then some (.agg ((cells.drop off).take n))else none
 |some false,_=>cells[off]?
 |_,_=>none
def sFill (place:Nat->Option (Nat×Nat)) (cells:List SV):List (Nat×SV)->Option (List SV)
 |[]=>some cells
 |(i,v)::rest=>
  match place i,svCells v with
  |some (off,size),some cs=>if cs.length=size/\off+size<=cells.length then sFill place (cells.take off++cs++cells.drop (off+size)) rest else none
  |_,_=>none
def AbJ (P:Program) (t:TypeId):Option (List Value):=
 match(P.info? t).bind (·.zero)with
 |some z=>if z.cells.toList.all (·.oneCell')then some z.cells.toList else none
 |none=>none
abbrev Aa3 (k:IntKind) (n:Int):Int:=k.wrap n
abbrev iAdd (a b:Int):Int:=a+b
abbrev iSub (a b:Int):Int:=a-b
abbrev iMul (a b:Int):Int:=a*b
abbrev iQuo (a b:Int):Int:=a.tdiv b
abbrev iRem (a b:Int):Int:=a.tmod b
abbrev iShl (a b:Int):Int:=a*2 ^ b.toNat
abbrev iShr (a b:Int):Int:=a.fdiv (2 ^ b.toNat)
abbrev iMin (a b:Int):Int:=min a b
abbrev iMax (a b:Int):Int:=max a b
abbrev iIf (c:Bool) (a b:Int):Int:=bif c then a else b
abbrev iLen {α:Type} (l:List α):Int:=(l.length:Int)
abbrev Abs (s:ByteArray):Int:=(s.size:Int)
abbrev bEq (a b:Int):Bool:=decide (a=b)
abbrev bNe (a b:Int):Bool:= !decide (a=b)
abbrev bLt (a b:Int):Bool:=decide (a<b)
abbrev bLe (a b:Int):Bool:=decide (a<=b)
abbrev bNot (a:Bool):Bool:= !a
abbrev bIf (c a b:Bool):Bool:=bif c then a else b
abbrev Ahl (a b:Bool):Bool:=a==b
abbrev Akb (a b:Bool):Bool:= !(a==b)
abbrev Alg (a b:ByteArray):Bool:=a.toList==b.toList
abbrev AkA (a b:ByteArray):Bool:= !(a.toList==b.toList)
abbrev pNe (a b:Int):Prop:=a≠b
abbrev pIn (a b n:Int):Prop:=a<=n/\n<b
abbrev pLe (a b:Int):Prop:=a<=b
abbrev rGet (xs:List (List C)) (n:Int):List C:=xs.getD n.toNat []
def sCmp (l:Bool) (op:BinOp) (a b:Int):Option Bool:=
 match op with
 | .eql=>some (if l then decide (a=b)else bEq a b)
 | .neq=>some (if l then !decide (a=b)else bNe a b)
 | .lss=>some (if l then decide (a<b)else bLt a b)
 | .leq=>some (if l then decide (a<=b)else bLe a b)
 | .gtr=>some (if l then decide (b<a)else bLt b a)
 | .geq=>some (if l then decide (b<=a)else bLe b a)
 |_=>none
def sArith (op:BinOp) (k:IntKind) (a b:Int):Option (Q×Int):=
 match op with
 | .add=>some (some (InR k (iAdd a b)),iAdd a b)
 | .sub=>some (some (InR k (iSub a b)),iSub a b)
 | .mul=>some (some (InR k (iMul a b)),iMul a b)
 | .quo=>some (some (pNe b 0/\InR k (iQuo a b)),iQuo a b)
 | .rem=>some (some (pNe b 0),iRem a b)
 |_=>none
def Ag2 (op:BinOp) (k:IntKind) (a b:Int):Option (Q×Int):=
 match op with
 | .add=>if inRb k (a+b)=true then some (none,a+b)else none
 | .sub=>if inRb k (a-b)=true then some (none,a-b)else none
 | .mul=>if inRb k (a*b)=true then some (none,a*b)else none
 | .quo=>if b≠0/\inRb k (a.tdiv b)=true then some (none,a.tdiv b)else none
 | .rem=>if b≠0 then some (none,a.tmod b)else none
 |_=>none
def sArithW (op:BinOp) (k:IntKind) (a b:Int):Option (Q×Int):=
 match op with
 | .add=>some (none,k.wrap (iAdd a b))
 | .sub=>some (none,k.wrap (iSub a b))
 | .mul=>some (none,k.wrap (iMul a b))
 | .quo=>some (some (pNe b 0),k.wrap (iQuo a b))
 | .rem=>some (some (pNe b 0),iRem a b)
 |_=>none
abbrev pSh (n:Nat) (b:Int):Prop:=0<=b/\b.toNat<=n
def Agg (op:BinOp) (k:IntKind) (a b:Int):Option (Q×Int):=
 match op with
 | .shl=>some (some (pSh k.bits b/\InR k (iShl a b)),iShl a b)
 | .shr=>some (some (pSh k.bits b),iShr a b)
 |_=>none
def isBoo (P:Program) (t:TypeId):Bool:=match P.underlying t with|some .bool=>true|_=>false
def sBin (wr isB:Bool) (op:BinOp) (x y:SV):Option (Q×SV):=
 match numOf x,numOf y with
 |some (k,a,la),some (j,b,lb)=>
  (match op with
  | .shl| .shr=>(Agg op k a b).map fun(c,n)=>(c,mkNum k n (la&&lb))
  |_=>
   if k=j then
    (match sCmp (la&&lb) op a b with
    |some r=>some (none,mkBoo r (la&&lb))
    |none=>(if la&&lb then Ag2 op k a b else if wr then sArithW op k a b else sArith op k a b).map fun(c,n)=>(c,mkNum k n (la&&lb)))
   else none)
 |_,_=>
  (match booOf x,booOf y with
  |some (a,la),some (b,lb)=>
   (match op with
   | .eql=>if isB then some (none,if la&&lb then .blit (a==b)else .bool (Ahl a b))else none
   | .neq=>if isB then some (none,if la&&lb then .blit (!(a==b))else .bool (Akb a b))else none
   |_=>none)
  |_,_=>
   (match x,y with
   | .str a,.str b=>
    (match op with
    | .eql=>some (none,.bool (Alg a b))
    | .neq=>some (none,.bool (AkA a b))
    |_=>none)
   |_,_=>none))
def sUn (op:UnOp) (x:SV):Option (Q×SV):=
 match op with
 | .not=>(booOf x).map fun(b,l)=>(True,if l then .blit (!b)else .bool (bNot b))
 | .neg=>(numOf x).bind fun(k,n,l)=>if l then(if inRb k (0-n)=true then some (none,.lit k (0-n))else none)else some (some (InR k (iSub 0 n)),.int k (iSub 0 n))
 |_=>none
def Aiw (c a b:SV):Option SV:=
 match c with
 | .blit true=>some a
 | .blit false=>some b
 | .bool c=>
  (match booOf a,booOf b with
  |some (x,_),some (y,_)=>some (.bool (bIf c x y))
  |_,_=>
   (match numOf a,numOf b with
   |some (k,x,_),some (j,y,_)=>if k=j then some (.int k (iIf c x y))else none
   |_,_=>none))
 |_=>none
def AiA (P:Program) (dst:TypeId) (x:SV):Option SV:=
 match P.underlying dst,numOf x with
 |some (.int j),some (k,n,l)=>if widens k j then some (mkNum j n l)else some (.int j (j.wrap n))
 |some .string,none=>match x with| .str s=>some (.str s)|_=>none
 |_,_=>none
def Aly:SV->Option Sh
 | .int k _| .lit k _=>some (.int k)
 | .bool _| .blit _=>some .bool
 | .str _=>some .str
 | .sl e _=>some (.sl e)
 |_=>none
def Alv (cs:List SV):Option (List Sh):=cs.mapM Aly
def Ack (n sz:Nat) (cs:List SV):Option (List Sh×List (List C)):=
 match Alv (cs.take sz)with
 |some e=>if e.length=sz then(toRows (toCs e) n cs).map λr=>(e,r)else none
 |none=>none
def cutRows {α:Type} (xs:List α):Option Int->Option Int->List α
 |none,none=>xs
 |some l,none=>xs.drop l.toNat
 |none,some h=>xs.take h.toNat
 |some l,some h=>(xs.take h.toNat).drop l.toNat
def sIdx (P:Program) (t:TypeId) (x i:SV):Option (Q×SV):=
 match numOf i with
 |none=>none
 |some (_,n,l)=>
  match P.underlying t with
  |some (.slice elem)=>
   (match szTy P elem,x with
   |some size,.sl e xs=>if e.length=size then some (some (pIn 0 (iLen xs) n),.cref (ofCs e (rGet xs n)))else none
   |some size,.slit m sz cs=>
    if sz=size then
     (if l then(if 0<=n/\n<(m:Int)then some (none,.cref (cs.drop (n.toNat*sz)))else none)
     else(match Ack m sz cs with
      |some (e,xs)=>some (some (pIn 0 (m:Int) n),.cref (ofCs e (rGet xs n)))
      |none=>none))
    else none
   |_,_=>none)
  |some (.array m elem)=>
   (match szTy P elem,x with
   |some size,.ref k off=>if l then(if 0<=n/\n<(m:Int)then some (none,.ref k (off+n.toNat*size))else none)else none
   |some size,.cref cs=>if l then(if 0<=n/\n<(m:Int)then some (none,.cref (cs.drop (n.toNat*size)))else none)else none
   |_,_=>none)
  |_=>none
def sField (P:Program) (t:TypeId) (f:Nat):Option Field:=
 match P.underlying t with
 |some (.struct fs)=>fs[f]?
 |_=>none
def Abx:Option SV->Option (Option Int)
 |none=>some none
 |some x=>(numOf x).map fun(_,n,_)=>some n
def geB:Option Int->Option Int->Int->Prop
 |none,none,_=>True
 |some l,none,n=>0<=l/\l<=n
 |none,some h,n=>0<=h/\h<=n
 |some l,some h,n=>0<=l/\l<=h/\h<=n
def Ae8 (P:Program) (t:TypeId) (x:SV) (lo hi:Option SV):Option (Q×SV):=
 match Abx lo,Abx hi,P.underlying t with
 |some l,some h,some (.slice elem)=>
  (match szTy P elem,x with
  |some size,.sl e xs=>if e.length=size then some (some (geB l h (iLen xs)),.sl e (cutRows xs l h))else none
  |some size,.slit m sz cs=>if sz=size then
   (match Ack m sz cs with
   |some (e,xs)=>some (some (geB l h (iLen xs)),.sl e (cutRows xs l h))
   |none=>none)
   else none
  |_,_=>none)
 |_,_,_=>none
abbrev iAnd (k:IntKind) (a b:Int):Int:=k.wrap (BitVec.ofInt k.bits a&&&BitVec.ofInt k.bits b).toNat
abbrev iOr (k:IntKind) (a b:Int):Int:=k.wrap (BitVec.ofInt k.bits a|||BitVec.ofInt k.bits b).toNat
abbrev iXor (k:IntKind) (a b:Int):Int:=k.wrap (BitVec.ofInt k.bits a ^^^ BitVec.ofInt k.bits b).toNat
abbrev Ac5 (k:IntKind) (a b:Int):Int:=k.wrap (BitVec.ofInt k.bits a&&& ~~~ (BitVec.ofInt k.bits b)).toNat
abbrev bAnd (a b:Bool):Bool:=a&&b
def sAt (s:ByteArray) (i:Int):Int:=match s[i.toNat]? with|some b=>(b.toNat:Int)|none=>0
def sBits (op:BinOp) (k:IntKind) (a b:Int):Option Int:=
 match op with
 | .and=>some (iAnd k a b)
 | .or=>some (iOr k a b)
 | .xor=>some (iXor k a b)
 | .andNot=>some (Ac5 k a b)
 |_=>none
def sEqFs (P:Program) (g:TypeId->SV->SV->Option Bool) (cs ds:List SV):List Field->Option Bool
 |[]=>some true
 |f::fs=>
  if f.name= "_" then none
  else match Adx P f.type cs f.offset,Adx P f.type ds f.offset with
   |some x,some y=>(match g f.type x y with
    |some b=>(match fs with
     |[]=>some b
     |_=>(sEqFs P g cs ds fs).map λr=>bAnd b r)
    |none=>none)
   |_,_=>none
def sEqAt (P:Program):Nat->TypeId->SV->SV->Option Bool
 |0,_,_,_=>none
 |d+1,t,x,y=>
  match P.underlying t with
  |some (.int _)=>(match numOf x,numOf y with
   |some (k,a,_),some (j,b,_)=>if k=j then some (bEq a b)else none
   |_,_=>none)
  |some .bool=>(match booOf x,booOf y with
   |some (a,_),some (b,_)=>some (Ahl a b)
   |_,_=>none)
  |some .string=>(match x,y with
   | .str a,.str b=>some (Alg a b)
   |_,_=>none)
  |some (.struct fs)=>(match x,y with
   | .agg cs,.agg ds=>if P.stoodInHeld t then none else sEqFs P (sEqAt P d) cs ds fs.toList
   |_,_=>none)
  |_=>none
def sExt (P:Program) (wr:Bool) (op:BinOp) (t:TypeId) (x y:SV):Option (Q×SV):=
 match numOf x,numOf y with
 |some (k,a,la),some (j,b,lb)=>
  (match op with
  | .shl=>if wr then some (some (pSh k.bits b),mkNum k (k.wrap (iShl a b)) (la&&lb))else none
  |_=>if k=j then(sBits op k a b).map λn=>(none,mkNum k n (la&&lb))else none)
 |_,_=>
  (match x,y with
  | .agg _,.agg _=>
   if P.eqGuardType P.depth t then none
   else(match op with
    | .eql=>(sEqAt P 8 t x y).map λb=>(none,.bool b)
    | .neq=>(sEqAt P 8 t x y).map λb=>(none,.bool (bNot b))
    |_=>none)
  | .sl _ xs,.nils=>(match op,P.underlying t with
   | .eql,some (.slice _)=>some (none,.nilq xs)
   |_,_=>none)
  |_,_=>none)
def AiE (P:Program) (wr:Bool) (op:BinOp) (t:TypeId) (x y:SV):Option (Q×SV):=
 match sExt P wr op t x y with
 |some r=>some r
 |none=>sBin wr (isBoo P t) op x y
def sUnX (wr:Bool) (op:UnOp) (x:SV):Option (Q×SV):=
 match op,numOf x with
 | .xor,some (k,n,l)=>some (none,mkNum k (iXor k (if k.signed then-1 else k.max) n) l)
 | .neg,some (k,n,false)=>if wr then some (none,.int k (k.wrap (iSub 0 n)))else sUn .neg x
 |_,_=>sUn op x
def Agi (P:Program) (t:TypeId) (x i:SV):Option (Q×SV):=
 match P.underlying t,x,numOf i with
 |some .string,.str s,some (_,n,_)=>some (some (pIn 0 (Abs s) n),.int .u8 (sAt s n))
 |_,_,_=>none
def curOf (heap:List HB) (k:Nat):Option (List Sh×Nat×List (List C)):=
 match heap[k]? with
 |some (.row e _ c xs)=>some (e,c,xs)
 |some (.froz e c xs)=>some (e,c,xs)
 |_=>none
def thaw1 (heap:List HB) (x:SV):SV:=
 match x with
 | .own k c=>(match curOf heap k with
  |some (e,d,xs)=>if c=d then .sl e xs else .any
  |none=> .any)
 |x=>x
def thaw (heap:List HB) (x:SV):SV:=
 match x with
 | .agg cs=> .agg (cs.map (thaw1 heap))
 |x=>thaw1 heap x
def AeY (heap:List HB) (x:SV):SV:=
 match x with
 | .tup cs=> .tup (cs.map (thaw heap))
 |x=>thaw heap x
def ids1 (x:SV):List Nat:=match x with| .own k _=>[k]|_=>[]
def idsOf (x:SV):List Nat:=match x with| .agg cs=>cs.flatMap ids1|x=>ids1 x
def frz1 (heap:List HB) (k:Nat):List HB:=
 match heap[k]? with
 |some (.row e _ c xs)=>heap.set k (.froz e c xs)
 |_=>heap
def frzH (heap:List HB):List Nat->List HB
 |[]=>heap
 |k::r=>frzH (frz1 heap k) r
def shFs (g:TypeId->Option (List Sh)):List Field->Nat->Option (List Sh)
 |[],_=>some []
 |f::fs,off=>if f.offset=off then
  (match g f.type with
  |some e=>(shFs g fs (off+e.length)).map (e++ ·)
  |none=>none)
  else none
def shTy (P:Program):Nat->TypeId->Option (List Sh)
 |0,_=>none
 |d+1,t=>
  match P.underlying t with
  |some (.int k)=>some [.int k]
  |some .bool=>some [.bool]
  |some .string=>some [.str]
  |some (.slice e)=>(shTy P d e).map λs=>[.sl s]
  |some (.struct fs)=>shFs (shTy P d) fs.toList 0
  |_=>none
def kGet:List (Int×List C)->Int->List C->List C
 |[],_,z=>z
 |x::r,n,z=>bif decide (x.1=n)then x.2 else kGet r n z
def kHas:List (Int×List C)->Int->Bool
 |[],_=>false
 |x::r,n=>decide (x.1=n)||kHas r n
def kPut:List (Int×List C)->Int->List C->List (Int×List C)
 |[],n,y=>[(n,y)]
 |x::r,n,y=>bif decide (x.1=n)then(n,y)::r else x::kPut r n y
def zAgg (P:Program) (t:TypeId):Bool:=match(P.info? t).bind (·.zero)with|some (.agg _)=>true|_=>false
def Aie (P:Program) (t:TypeId):Option (IntKind×Bool×List Sh×List C):=
 match P.underlying t with
 |some (.map key elem)=>
  (match P.underlying key,shTy P 12 elem,agTy P elem,AbJ P elem with
  |some (.int kt),some e,some g,some z=>(match toCs e (ofVs z)with
   |some (zs,[])=>if z.length=e.length/\szTy P elem=some e.length/\(g=true∨e.length=1)/\zAgg P elem=g then some (kt,g,e,zs)else none
   |_=>none)
  |_,_,_,_=>none)
 |_=>none
def rSet (xs:List (List C)) (i:Int) (y:List C):List (List C):=xs.set i.toNat y
abbrev Abb (bytes:Nat) (n:Int):Prop:=n*(bytes:Int)<=140737488355328
def byTy (P:Program) (t:TypeId):Option Nat:=(P.info? t).map (·.bytes)
inductive Fm where
 |mp (kt:IntKind) (g:Bool) (ks:List (List C)->List Int)
 |bx
def isBx:Option Fm->Bool|some .bx=>true|_=>false
structure Ct where
 ps:List (Bool×List Sh)
 rs:List (Bool×List Sh)
 pre:List (List C)->Prop:=λ_=>True
 out:List (List C)->List (List C)
 bx:Option (TypeId×List Sh):=none
 ow:Option (TypeId×List Sh×Bool):=none
 fr:Option (TypeId×List Sh):=none
 fm:Option Fm:=none
def Ct.aps (c:Ct):List (Bool×List Sh):=match c.bx with|none=>(match c.ow with|none=>c.ps|some (_,e,_)=>(false,[.sl e])::c.ps)|some (_,e)=>(true,e)::c.ps
def Ct.ars (c:Ct):List (Bool×List Sh):=match c.bx with|none=>(match c.ow with|none=>(match c.fr with|none=>c.rs|some (_,e)=>[(false,[.sl e])])|some (_,e,_)=>(false,[.sl e])::c.rs)|some (_,e)=>(true,e)::c.rs
def Ct.outs (c:Ct) (args:List (List C)):List (List C):=match c.bx with|none=>c.out args|some _=>(c.out args).tail
def Ahb:SV->Bool| .agg _=>true|_=>false
def Ahr (p:Bool×List Sh) (x:SV):Option (List C):=
 match svCells x with
 |some cs=>
  if p.1=Ahb x then
   (match toCs p.2 cs with
   |some (ys,[])=>some ys
   |_=>none)
  else none
 |none=>none
def Ae2:Bool×List Sh->Bool|(false,_::_::_)=>true|_=>false
def AdU (p:Bool×List Sh) (x:SV):Option (List C):=
 if Ae2 p then(match x with
  | .cref cs=>(match toCs p.2.tail cs with
   |some (ys,[])=>some ys
   |_=>none)
  |_=>none)else Ahr p x
def Abq:List (Bool×List Sh)->List SV->Option (List (List C))
 |[],[]=>some []
 |p::ps,x::xs=>match AdU p x,Abq ps xs with
  |some y,some ys=>some (y::ys)
  |_,_=>none
 |_,_=>none
def Abg (p:Bool×List Sh) (cs:List C):SV:=
 match p with
 |(true,e)=> .agg (ofCs e cs)
 |(false,_::t::r)=> .cref (ofCs (t::r) cs)
 |(false,e)=>(ofCs e cs).headD .any
def ofRess:List (Bool×List Sh)->List (List C)->List SV
 |[],_=>[]
 |p::ps,cs=>Abg p (cs.headD [])::ofRess ps cs.tail
def Ct.sv (c:Ct) (args:List (List C)):SV:=
 match ofRess c.rs (c.outs args)with
 |[x]=>x
 |l=> .tup l
def Ct.hb (c:Ct) (t:TypeId) (e:List Sh) (args:List (List C)):HB:= .box (ofCs e ((c.out args).headD [])) t
def sLen (P:Program) (t:TypeId) (heap:List HB) (x:SV):Option (Q×SV×List Nat):=
 match P.underlying t,x with
 |some (.slice _),.sl _ xs=>some (some (pLe (iLen xs) 9223372036854775807),.int .i64 (iLen xs),[])
 |some (.slice _),.slit n _ _=>some (none,.lit .i64 n,[])
 |some (.slice _),.nils=>some (none,.lit .i64 0,[])
 |some (.slice _),.emp=>some (none,.lit .i64 0,[])
 |some (.slice _),.own k c=>(match curOf heap k with
  |some (_,d,xs)=>if c=d then some (some (pLe (iLen xs) 9223372036854775807),.int .i64 (iLen xs),[k])else none
  |none=>none)
 |some .string,.str s=>some (some (pLe (Abs s) 9223372036854775807),.int .i64 (Abs s),[])
 |_,_=>none
def sMin (b:Builtin) (x y:SV):Option SV:=
 match numOf x,numOf y with
 |some (k,a,la),some (j,c,lc)=>
  if k=j then
   (match b with
   | .min=>some (if la&&lc then .lit k (min a c)else .int k (iMin a c))
   | .max=>some (if la&&lc then .lit k (max a c)else .int k (iMax a c))
   |_=>none)
  else none
 |_,_=>none
def AdE (_:SV):List Nat:=[]
def okIf (r:Option (Q×SV)) (heap:List HB):OpR:=match r with|some (c,r)=> .ok none c r heap [] []|none=> .fail
def Acw (r:Option SV) (heap:List HB) (R:List Nat):OpR:=match r with|some r=> .ok none none r heap R []|none=> .fail
def AhA (P:Program) (t:TypeId) (heap:List HB):OpR:=
 match AbJ P t with|some z=> .ok none none (.ref heap.length 0) (heap++[.box (ofVs z) t]) [] []|none=> .fail
def sBox (t:TypeId) (x:SV) (heap:List HB):OpR:=
 match svCells x with|some cs=> .ok none none (.ref heap.length 0) (heap++[.box cs t]) (cs.flatMap AdE) []|none=> .fail
def AjO (x:SV) (heap:List HB):OpR:=
 match svCells x with|some cs=> .ok none none (.cref cs) heap (cs.flatMap AdE) []|none=> .fail
def AhC (P:Program) (fs:Array Field) (i:Nat):Option (Nat×Nat):=
 match fs[i]? with
 |some f=>(szTy P f.type).map λn=>(f.offset,n)
 |none=>none
def Agm (P:Program) (t:TypeId) (parts:List (Nat×SV)):Option (List SV):=
 match AbJ P t with
 |none=>none
 |some z=>
  match P.underlying t with
  |some (.struct fs)=>if fs.toList.all (λf=>(szTy P f.type).isSome)then sFill (AhC P fs) (ofVs z) parts else none
  |some (.array _ elem)=>(match szTy P elem with|some n=>sFill (λi=>some (i*n,n)) (ofVs z) parts|none=>none)
  |_=>none
def AbA (P:Program) (t:TypeId) (len:Nat) (parts:List (Nat×SV)):Option (Nat×List SV):=
 match P.underlying t with
 |some (.slice elem)=>
  (match szTy P elem,AbJ P elem with
  |some n,some z=>
   if len*n<=16777216/\z.length=n/\len<=16777216 then
    (sFill (λi=>some (i*n,n)) ((List.replicate len (ofVs z)).flatten) parts).map λcs=>(n,cs)
   else none
  |_,_=>none)
 |_=>none
def AjI (P:Program) (t:TypeId) (x:SV) (heap:List HB):OpR:=
 match x with
 | .ref k off=>
  (match heap[k]? with
  |some (.box cells _)=>Acw (Adx P t cells off) heap [k]
  |_=> .fail)
 | .cref cs=>(match Adx P t cs 0 with|some r=> .ok (wfQ r) none r heap [] []|none=> .fail)
 | .rref k c sz i off=>
  (match heap[k]? with
  |some (.row e _ d xs)=>if c=d/\e.length=sz then(match Adx P t (ofCs e (rGet xs i)) off with|some r=> .ok (wfQ r) none r heap [k] []|none=> .fail)else .fail
  |some (.hrow _ d _ i0 x0 _)=>if c=d/\sz=1/\off=0 then(match Adx P t [x0] 0 with|some r=> .ok none (some (i=i0)) r heap [k] []|none=> .fail)else .fail
  |_=> .fail)
 |_=> .fail
def Ahw (P:Program) (t:TypeId) (a x:SV) (heap:List HB):OpR:=
 match a,svCells x with
 | .ref k off,some cs=>
  (match heap[k]? with
  |some (.box cells ty)=>
   if szTy P t=some cs.length/\off+cs.length<=cells.length then .ok none none .undef (heap.set k (.box (cells.take off++cs++cells.drop (off+cs.length)) ty)) [k] [k]else .fail
  |_=> .fail)
 | .rref k c sz i off,some cs=>
  (match heap[k]? with
  |some (.row e ty d xs)=>
   if c=d/\e.length=sz/\szTy P t=some cs.length/\off+cs.length<=sz/\(idsOf x).contains k=false then
    (match toCs e ((ofCs e (rGet xs i)).take off++cs.map (thaw1 heap)++(ofCs e (rGet xs i)).drop (off+cs.length))with
    |some (y,[])=> .ok none none .undef ((frzH heap (idsOf x)).set k (.row e ty d (rSet xs i y))) (k::idsOf x) (k::idsOf x)
    |_=> .fail)
   else .fail
  |some (.hrow ty d m i0 _ f)=>
   (match cs with
   |[y]=>if c=d/\sz=1/\off=0/\szTy P t=some 1 then .ok none (some (i=i0)) .undef (heap.set k (.hrow ty d m i0 y f)) [k] [k]else .fail
   |_=> .fail)
  |_=> .fail)
 |_,_=> .fail
def AcA (P:Program) (t:TypeId) (f:Nat) (x:SV):Option SV:=
 match sField P t f with
 |some fd=>
  (match szTy P fd.type with
  |some n=>
   if n=0 then none else
   (match x with
   | .ref k off=>some (.ref k (off+fd.offset))
   | .cref cs=>some (.cref (cs.drop fd.offset))
   | .rref k c sz i off=>some (.rref k c sz i (off+fd.offset))
   |_=>none)
  |none=>none)
 |none=>none
def noSl1:Sh->Bool| .sl _=>false|_=>true
def noSl (rs:List (Bool×List Sh)):Bool:=rs.all λp=>p.2.all noSl1&& !Ae2 p
def Ahz (ct:Ct) (o:TypeId×List Sh×Bool) (args:List SV) (heap:List HB):OpR:=
 match args with
 | .own k c::rest=>
  (match heap[k]? with
  |some (.row f ty d xs)=>
   if c=d/\shEqs f o.2.1=true/\ty=o.1/\(rest.flatMap idsOf).contains k=false then
    (match Abq ct.ps (rest.map (thaw heap))with
    |some ds=> .ok none (some (ct.pre ([.l xs]::ds))) (bif o.2.2 then .own k (c+1)else .tup [])
     ((frzH heap (rest.flatMap idsOf)).set k (.row o.2.1 o.1 (bif o.2.2 then c+1 else c) (((ct.out ([.l xs]::ds)).headD []).headD default).list)) (k::rest.flatMap idsOf) (k::rest.flatMap idsOf)
    |none=> .fail)
   else .fail
  |_=> .fail)
 |_=> .fail
def Ct.frHB (ct:Ct) (t:TypeId) (e:List Sh) (ds:List (List C)):HB:=
 match ct.fm with
 |none=> .row e t 0 (((ct.out ds).headD []).headD default).list
 |some (.mp kt g ks)=> .mp kt g e 0 ((ks ds).zip (((ct.out ds).headD []).headD default).list)
 |some .bx=> .box (ofCs e ((((ct.out ds).headD []).headD default).list.headD [])) t
def Ct.frSV (ct:Ct) (n:Nat):SV:=bif isBx ct.fm then .ref n 0 else .own n 0
def AjN (G:Nat->Option Ct) (f:FuncId) (args:List SV) (heap:List HB):OpR:=
 match G f with
 |some ct=>
  (match ct.bx with
  |none=>(match ct.ow with
   |none=>(match ct.fr with
    |none=>(match Abq ct.ps (args.map (thaw heap))with
     |some ds=>if noSl ct.rs then .ok (wfQ (ct.sv ds)) (some (ct.pre ds)) (ct.sv ds) heap (args.flatMap idsOf) []
      else .ok (wfQ (ct.sv ds)) (some (ct.pre ds)) (ct.sv ds) (frzH heap (args.flatMap idsOf)) (args.flatMap idsOf) (args.flatMap idsOf)
     |none=> .fail)
    |some (t,e)=>(match Abq ct.ps (args.map (thaw heap))with
     |some ds=>if(e.all noSl1&& !isBx ct.fm)=true then .ok none (some (ct.pre ds)) (.own heap.length 0) (heap++[ct.frHB t e ds]) (args.flatMap idsOf) []
      else .ok none (some (ct.pre ds)) (ct.frSV heap.length) (frzH heap (args.flatMap idsOf)++[ct.frHB t e ds]) (args.flatMap idsOf) (args.flatMap idsOf)
     |none=> .fail))
   |some o=>Ahz ct o args heap)
  |some (t,e)=>
   (match args with
   | .ref k 0::rest=>
    (match heap[k]? with
    |some (.box cells ty)=>
     if ty=t then
      (match Abq ((true,e)::ct.ps) ((SV.agg cells::rest).map (thaw heap))with
      |some ds=> .ok (wfQ (ct.sv ds)) (some (ct.pre ds)) (ct.sv ds) ((frzH heap ((SV.agg cells::rest).flatMap idsOf)).set k (ct.hb t e ds)) (k::(SV.agg cells::rest).flatMap idsOf) (k::(SV.agg cells::rest).flatMap idsOf)
      |none=> .fail)
     else .fail
    |_=> .fail)
   |_=> .fail))
 |none=> .fail
def Alk:SV->Bool| .own _ _=>true|_=>false
def viewN (l h:Option Int) (n:Int):Int:=
 match l,h with
 |none,none=>n
 |none,some h=>h
 |some l,none=>iSub n l
 |some l,some h=>iSub h l
def offI (l:Option Int) (i:Int):Int:=match l with|none=>i|some l=>iAdd l i
def AjF (P:Program) (t:TypeId) (heap:List HB) (x:SV) (lo hi:Option SV):OpR:=
 match x,Abx lo,Abx hi,P.underlying t with
 | .own k v,some l,some h,some (.slice elem)=>
  (match heap[k]?,szTy P elem with
  |some (.row e ty w xs),some sz=>if v=w/\ty=elem/\sz=e.length then .ok none (some (geB l h (iLen xs))) (.ownv k w sz l (viewN l h (iLen xs))) heap [k] []else .fail
  |_,_=> .fail)
 |_,_,_,_=> .fail
def Aiz (P:Program) (t:TypeId) (heap:List HB) (x i:SV):Option (Q×SV×List Nat):=
 match x with
 | .ownv k c sz lo m=>
  (match numOf i,P.underlying t with
  |some (_,n,_),some (.slice elem)=>
   (match heap[k]?,szTy P elem with
   |some (.row e _ d _),some size=>if c=d/\e.length=size/\sz=size then some (some (pIn 0 m n),.rref k c size (offI lo n) 0,[k])else none
   |_,_=>none)
  |_,_=>none)
 | .own k c=>
  (match numOf i,P.underlying t with
  |some (_,n,_),some (.slice elem)=>
   (match heap[k]?,szTy P elem with
   |some (.row e _ d xs),some size=>if c=d/\e.length=size then some (some (pIn 0 (iLen xs) n),.rref k c size n 0,[k])else none
   |some (.froz e d xs),some size=>if c=d/\e.length=size then some (some (pIn 0 (iLen xs) n),.cref (ofCs e (rGet xs n)),[k])else none
   |some (.hrow _ d m _ _ _),some size=>if c=d/\size=1 then some (some (pIn 0 (m:Int) n),.rref k c 1 n 0,[k])else none
   |_,_=>none)
  |_,_=>none)
 |x=>(sIdx P t x i).map fun(q,r)=>(q,r,[])
def AgM (x:Option SV):Bool:=match x with|some x=>(match numOf x with|some (_,n,true)=>decide (n=0)|_=>false)|none=>false
def slicey:SV->Bool| .emp| .nils| .sl _ _| .slit _ _ _=>true|_=>false
def AgX (P:Program) (elem:TypeId) (x:SV) (lo hi:Option SV) (m:SV) (heap:List HB):OpR:=
 match x,Abx lo,hi.bind numOf,numOf m,szTy P elem with
 | .sl e xs,some l,some (_,h,_),some (_,k,_),some size=>if size=e.length then .ok none (some (geB l (some h) (iLen xs)/\h=k)) (.slc e (cutRows xs l (some h))) heap [] []else .fail
 |_,_,_,_,_=> .fail
def AdW (P:Program) (t:TypeId) (heap:List HB) (x:SV) (lo hi mx:Option SV):OpR:=
 match mx with
 |some m=>
  (match P.underlying t with
  |some (.slice elem)=>if(szTy P elem).isSome&&slicey x&&(lo.isNone||AgM lo)&&AgM hi&&AgM (some m)then .ok none none .emp heap [] []else AgX P elem x lo hi m heap
  |_=> .fail)
 |none=>
  (match x with
  | .own k c=>
   (match curOf heap k,Abx lo,Abx hi,P.underlying t with
   |some (e,d,xs),some l,some h,some (.slice elem)=>
    if c=d/\szTy P elem=some e.length then .ok none (some (geB l h (iLen xs))) (.sl e (cutRows xs l h)) (frz1 heap k) [k] [k]else .fail
   |_,_,_,_=> .fail)
  | .emp| .nils=>
   (match Abx lo,Abx hi,P.underlying t with
   |some l,some h,some (.slice elem)=>if(szTy P elem).isSome then .ok none (some (geB l h 0)) .emp heap [] []else .fail
   |_,_,_=> .fail)
  |x=>okIf (Ae8 P t x lo hi) heap)
def Ahx (P:Program) (t:TypeId) (heap:List HB) (x y:SV):OpR:=
 match P.underlying t,numOf x,numOf y with
 |some (.slice elem),some (_,l,_),some (_,c,_)=>
  (match AbJ P elem,szTy P elem,byTy P elem with
  |some [.slice none 0 0],some 1,some by_=>
   if 0<by_ then .ok none (some (pLe 0 l/\pLe l c/\Abb by_ c)) (.own heap.length 0) (heap++[.hrow elem 0 l.toNat (-1) .any λ_=> .slice none 0 0]) [] []else .fail
  |_,_,_=> .fail)
 |_,_,_=> .fail
def Aix (P:Program) (t:TypeId) (heap:List HB) (x y:SV):OpR:=
 match P.underlying t,numOf x,numOf y with
 |some (.slice elem),some (_,l,_),some (_,c,_)=>
  (match shTy P 12 elem,AbJ P elem,szTy P elem,byTy P elem with
  |some e,some z,some size,some by_=>
   (match toCs e (ofVs z)with
   |some (zs,[])=>if size=e.length/\z.length=size/\0<size/\0<by_ then
    .ok none (some (pLe 0 l/\pLe l c/\Abb by_ c)) (.own heap.length 0) (heap++[.row e elem 0 (List.replicate l.toNat zs)]) [] []
    else .fail
   |_=> .fail)
  |_,_,_,_=> .fail)
 |_,_,_=> .fail
def AcH (e:List Sh) (heap:List HB) (x:SV):Option (List (List C)×List Nat×List Nat):=
 match x with
 | .slit m sz cs=>if sz=e.length then(toRows (toCs e) m (cs.map (thaw1 heap))).map λr=>(r,cs.flatMap ids1,[])else none
 | .sl f ys=>if shEqs e f then some (ys,[],[])else none
 | .own k c=>(match curOf heap k with
  |some (f,d,ys)=>if c=d&&shEqs e f then some (ys,[],[k])else none
  |none=>none)
 | .nils| .emp=>some ([],[],[])
 |_=>none
def AdA (P:Program) (t:TypeId) (heap:List HB) (f:List Sh) (xs:List (List C)) (x:SV):OpR:=
 match P.underlying t with
 |some (.slice elem)=>
  (match shTy P 12 elem,AbJ P elem,szTy P elem,byTy P elem with
  |some e,some z,some size,some by_=>
   if size=e.length/\z.length=size/\shEqs e f=true then
    (match x with
    | .slit m sz cs=>
     if 0<m/\sz=e.length then
      (match toRows (toCs e) m (cs.map (thaw1 heap))with
      |some ys=> .ok none (some (Abb by_ (iLen (xs++ys))/\pLe (iLen (xs++ys)) 9223372036854775807)) (.own heap.length 0) (frzH heap (cs.flatMap ids1)++[.row e elem 0 (xs++ys)]) (cs.flatMap ids1) (cs.flatMap ids1)
      |none=> .fail)
     else .fail
    |_=> .fail)
   else .fail
  |_,_,_,_=> .fail)
 |_=> .fail
def Ac9 (P:Program) (t:TypeId) (heap:List HB) (s x:SV):OpR:=
 match P.underlying t with
 |some (.slice elem)=>
  (match shTy P 12 elem,AbJ P elem,szTy P elem,byTy P elem with
  |some e,some z,some size,some by_=>
   if size=e.length/\z.length=size/\0<size/\0<by_ then
    (match AcH e heap x with
    |some (ys,ids,rd)=>
     (match s with
     | .own k c=>
      (match heap[k]? with
      |some (.row f ty d xs)=>
       if c=d/\shEqs e f=true/\ty=elem/\ids.contains k=false/\rd.contains k=false then
        .ok none (some (Abb by_ (iLen (xs++ys)))) (.own k (c+1)) ((frzH heap ids).set k (.row e elem (c+1) (xs++ys))) (k::ids++rd) (k::ids)
       else .fail
      |_=> .fail)
     | .nils| .emp=> .ok none (some (Abb by_ (iLen ys))) (.own heap.length 0) (frzH heap ids++[.row e elem 0 ys]) (ids++rd) ids
     |_=> .fail)
    |none=> .fail)
   else .fail
  |_,_,_,_=> .fail)
 |_=> .fail
def Aet (P:Program) (t:TypeId) (heap:List HB) (k c sz:Nat) (n:Int) (x:SV):OpR:=
 match heap[k]?,P.underlying t with
 |some (.row e ty w xs),some (.slice elem)=>if c=w/\ty=elem/\sz=e.length then
  (match Ac9 P t (heap.set k (.row e ty (w+1) (cutRows xs none (some n)))) (.own k (w+1)) x with
  | .ok hyp chk sv heap' R W=>if W.contains k then .ok hyp chk sv heap' (k::R) W else .fail
  | .fail=> .fail)
  else .fail
 |_,_=> .fail
def Adz (P:Program) (t t':TypeId) (heap:List HB) (s x:SV):OpR:=
 match P.underlying t,P.underlying t',numOf x with
 |some (.slice elem),some (.int _),some (_,n,_)=>
  (match shTy P 12 elem,AbJ P elem,szTy P elem,byTy P elem with
  |some e,some z,some size,some by_=>
   (match toCs e (ofVs z)with
   |some (zs,[])=>
    if size=e.length/\z.length=size/\0<size/\0<by_ then
     (match s with
     | .own k c=>(match heap[k]? with
      |some (.row f ty d xs)=>if c=d/\shEqs e f=true/\ty=elem then
       .ok none (some (pLe 0 n/\Abb by_ (iAdd (iLen xs) n))) (.own k (c+1)) (heap.set k (.row e elem (c+1) (xs++List.replicate n.toNat zs))) [k] [k]
       else .fail
      |_=> .fail)
     | .nils| .emp=> .ok none (some (pLe 0 n/\Abb by_ n)) (.own heap.length 0) (heap++[.row e elem 0 (List.replicate n.toNat zs)]) [] []
     |_=> .fail)
    else .fail
   |_=> .fail)
  |_,_,_,_=> .fail)
 |_,_,_=> .fail
def AeF (P:Program) (t:TypeId) (heap:List HB) (s x:SV):OpR:=
 match s with
 | .slc f xs=>AdA P t heap f xs x
 | .ownv k c sz none n=>Aet P t heap k c sz n x
 |s=>Ac9 P t heap s x
def Aer (P:Program) (t:TypeId) (heap:List HB):OpR:=
 match Aie P t with
 |some (kt,g,e,_)=> .ok none none (.own heap.length 0) (heap++[.mp kt g e 0 []]) [] []
 |none=> .fail
def AfP (P:Program) (t:TypeId) (heap:List HB) (x i:SV) (ck:Bool):OpR:=
  match Aie P t,x,numOf i with
  |some (kt,g,e,zs),.own k c,some (kj,n,_)=>
    (match heap[k]? with
    |some (.mp kt' g' e' c' xs)=>if c=c'/\kt'=kt/\kj=kt/\g'=g/\shEqs e' e=true then
        (if ck then .ok (wfQ (Abg (g,e) (kGet xs n zs))) none (.tup [Abg (g,e) (kGet xs n zs),.bool (kHas xs n)]) heap [k] []
         else .ok (wfQ (Abg (g,e) (kGet xs n zs))) none (Abg (g,e) (kGet xs n zs)) heap [k] [])
      else .fail
    |_=> .fail)
  |_,_,_=> .fail
def Aca (P:Program) (t:TypeId) (heap:List HB) (x i y:SV):OpR:=
 match Aie P t,x,numOf i with
 |some (kt,g,e,_),.own k c,some (kj,n,_)=>
  (match heap[k]? with
  |some (.mp kt' g' e' c' xs)=>if c=c'/\kt'=kt/\kj=kt/\g'=g/\shEqs e' e=true then
   (match AdU (g,e) y with
   |some ys=> .ok none none .undef (heap.set k (.mp kt g e c (kPut xs n ys))) [k] [k]
   |none=> .fail)
   else .fail
  |_=> .fail)
 |_,_,_=> .fail
def Ady (P:Program) (t:TypeId) (len n:Nat) (cs:List SV) (heap:List HB):OpR:=
 match P.underlying t with
 |some (.slice elem)=>
  (match shTy P 12 elem with
  |some e=>if n=e.length/\0<len then
   (match toRows (toCs e) len cs with
   |some rows=> .ok none none (.own heap.length 0) (heap++[.row e elem 0 rows]) [] []
   |none=> .fail)
   else .fail
  |none=> .fail)
 |_=> .fail
def Ahv (P:Program) (t:TypeId) (heap:List HB) (x y:SV):OpR:=
 match x,numOf y,P.underlying t with
 | .own k v,some (_,l,_),some (.slice elem)=>
  (match heap[k]?,szTy P elem with
  |some (.row e ty w xs),some sz=>
   if v=w/\ty=elem/\sz=e.length then .ok none (some (pLe 0 l/\pLe l (iLen xs))) (.own k (w+1)) (heap.set k (.row e ty (w+1) (xs.take l.toNat))) [k] [k]else .fail
  |_,_=> .fail)
 |_,_,_=> .fail
def unl:SV->SV| .ownl k c _=> .own k c|x=>x
def sop (P:Program) (G:Nat->Option Ct) (wr:Bool) (o:Oper) (ev:Operand->SV) (heap:List HB):OpR:=
 match o.op with
 | .move x| .assign x=> .ok none none (ev x) heap (AdE (ev x)) []
 | .pick c a b=>Acw (Aiw (ev c) (ev a) (ev b)) heap (AdE (ev a)++AdE (ev b))
 | .alloc t=>AhA P t heap
 | .box t x=>if(G (4000000+t)).isSome then AjO (ev x) heap else sBox t (ev x) heap
 | .build t parts=>(match Agm P t (parts.toList.map fun(i,x)=>(i,ev x))with|some cs=> .ok none none (.agg cs) heap (cs.flatMap AdE) []|none=> .fail)
 | .buildSlice t len parts=>(match AbA P t len (parts.toList.map fun(i,x)=>(i,ev x))with|some (n,cs)=>if(G (1000000+t)).isSome&&decide (0<len)then Ady P t len n cs heap else .ok none none (if len=0 then .emp else .slit len n cs) heap (cs.flatMap AdE) []|none=> .fail)
 | .makeSlice t x y=>if(G (3000000+t)).isSome then Ahx P t heap (ev x) (ev y)else Aix P t heap (ev x) (ev y)
 | .makeMap t r=>(match r with|none=>Aer P t heap|some _=> .fail)
 | .lookup t x i ck=>AfP P t heap (ev x) (ev i) ck
 | .mapUpdate t x i y=>Aca P t heap (ev x) (ev i) (ev y)
 | .insert t x i y=>Aca P t heap (ev x) (ev i) (ev y)
 | .load t x=>AjI P t (ev x) heap
 | .store t a x=>Ahw P t (ev a) (ev x) heap
 | .nilCheck x=>(match ev x with| .ref k off=> .ok none none (.ref k off) heap [] []| .cref cs=> .ok none none (.cref cs) heap [] []| .rref k c sz i off=> .ok none none (.rref k c sz i off) heap [] []|_=> .fail)
 | .binOp op t x y _=>okIf (AiE P wr op t (ev x) (ev y)) heap
 | .unOp op _ x=>okIf (sUnX wr op (ev x)) heap
 | .index t x i=>okIf (Agi P t (ev x) (ev i)) heap
 | .convert src dst x=>(match P.underlying src with|some _=>Acw (AiA P dst (ev x)) heap []|none=> .fail)
 | .makeFunc (.func f) first cap=>if first.isEmpty then .ok none none (.fn f (cap.toList.map ev)) heap [] []else .fail
 | .slice t x lo hi mx=>if(G (5000000+t)).isSome&&Alk (ev x)&&mx.isNone&& !((G (2000000+t)).isSome&&lo.isNone)then AjF P t heap (ev x) (lo.map ev) (hi.map ev)else(match lo,hi,mx with
  |none,some y,none=>if(G (2000000+t)).isSome&&Alk (ev x)then Ahv P t heap (ev x) (ev y)else AdW P t heap (ev x) none (some (ev y)) none
  |lo,hi,mx=>AdW P t heap (ev x) (lo.map ev) (hi.map ev) (mx.map ev))
 | .fieldAddr t x f=>Acw (AcA P t f (ev x)) heap []
 | .field t x f=>(match sField P t f,ev x with
  |some fd,.agg cs=>Acw (Adx P fd.type cs fd.offset) heap (cs.flatMap AdE)
  |_,_=> .fail)
 | .indexAddr t x i=>(match Aiz P t heap (ev x) (ev i)with|some (q,r,R)=> .ok none q r heap R []|none=> .fail)
 | .extract x i=>(match ev x with| .tup cs=>Acw cs[i]? heap (cs.flatMap AdE)|_=> .fail)
 | .call c=>
  (match c.callee with
  | .builtin .len=>
   (match c.args.toList,c.argTypes.toList with
   |[x],[t]=>(match ev x with
    | .ownl _ _ xs=>(match P.underlying t with
     |some (.slice _)=> .ok none (some (pLe (iLen xs) 9223372036854775807)) (.int .i64 (iLen xs)) heap [] []
     |_=> .fail)
    | .ownv k c _ _ n=>(match P.underlying t,heap[k]? with
     |some (.slice _),some (.row _ _ d _)=>if c=d then .ok none (some (InR .i64 n)) (.int .i64 n) heap [k] []else .fail
     |_,_=> .fail)
    |_=>(match sLen P t heap (ev x)with|some (h,r,R)=> .ok h none r heap R []|none=> .fail))
   |_,_=> .fail)
  | .builtin .append=>
   (match c.args.toList,c.argTypes.toList with
   |[s,x],[t,t']=>if t=t' then AeF P t heap (unl (ev s)) (ev x)else Adz P t t' heap (unl (ev s)) (ev x)
   |_,_=> .fail)
  | .builtin .cap=>
   (match c.args.toList,c.argTypes.toList with
   |[x],[t]=>(match ev x,P.underlying t with
    | .nils,some (.slice _)=> .ok none none (.lit .i64 0) heap [] []
    |_,_=> .fail)
   |_,_=> .fail)
  | .builtin b=>(match c.args.toList with
   |[x,y]=>Acw (sMin b (ev x) (ev y)) heap []
   |_=> .fail)
  | .value x=>(match ev x with| .fn f caps=>AjN G f (c.args.toList.map ev++caps) heap|_=> .fail)
  |_=> .fail)
 |_=> .fail
end Go.Sx

