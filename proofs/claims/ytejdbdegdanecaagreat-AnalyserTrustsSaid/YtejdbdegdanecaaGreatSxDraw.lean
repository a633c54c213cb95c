import Derived.Test.YtejdbdegdanecaaGreatSxPure
set_option linter.unusedVariables false
set_option linter.unusedSimpArgs false
namespace Go.Sx
open Go.RowKit
def Agw (ms:List Nat) (es:List Edge):Nat:=es.foldl (λs e=>if Region.binds .any e then s|||2 ^ e.on|||ms.getD e.on 0 else s) 0
def Ace:List Oper->List Nat->List Nat
 |[],ms=>ms
 |o::r,ms=>Ace r (ms++[Agw ms o.after.toList])
def looks (ops:List Oper) (o:Oper):List Tmp:=
  (o.op.operands.toList.filterMap fun| .tmp t=>some t|_=>none)++
  (match o.guard with
   |some (j,_)=>((ops[j]?).bind (·.dst)).toList
   |none=>[])
def Ab4 (ms:List Nat) (i j:Nat):Bool:=if i<j then(ms.getD j 0).testBit i else if j<i then(ms.getD i 0).testBit j else false
def Ab5:List Oper->Nat->Bool
 |[],_=>true
 |o::r,i=>(o.after.toList.all λe=> !Region.binds .any e||decide (e.on<i))&&Ab5 r (i+1)
def Aib:List Oper->Bool
 |[]=>true
 |o::r=>(match o.dst with|some d=>r.all λp=> !(p.dst==some d)|none=>true)&&Aib r
def Acx (ops:List Oper) (ms:List Nat):List Oper->Nat->Bool
 |[],_=>true
 |o::r,i=>((looks ops o).all λt=>okW t i ops 0)&&Acx ops ms r (i+1)
where okW (t:Tmp) (i:Nat):List Oper->Nat->Bool
 |[],_=>true
 |p::r,j=>(!(p.dst==some t)||Ab4 ms i j)&&okW t i r (j+1)
def meet (a b:List Nat):Bool:=a.any λk=>b.contains k
def okRW (ms:List Nat):List (List Nat×List Nat)->Nat->Bool
 |[],_=>true
 |p::r,i=>go p i r (i+1)&&okRW ms r (i+1)
where go (p:List Nat×List Nat) (i:Nat):List (List Nat×List Nat)->Nat->Bool
 |[],_=>true
 |q::r,j=>(!(meet p.2 q.2||meet p.1 q.2||meet p.2 q.1)||Ab4 ms i j)&&go p i r (j+1)
def AcD (n m:Nat):List Nat:=List.range' n (m-n)
def Ad3 (ms:List Nat) (N b:Nat):Bool:=decide (b<N)&&(List.range b).all (λj=>(ms.getD b 0).testBit j)&&(List.range N).all (λj=> !decide (b<j)||(ms.getD j 0).testBit b)
def vcD (P:Program) (G:Nat->Option Ct) (wr:Bool) (inl:Inl) (ops:List Oper) (ms:List Nat):List Oper->Nat->St->List (List Nat×List Nat)->(St->Prop)->Prop
 |[],n,s,acc,K=>if okRW ms acc n then K s else False
 |o::r,n,s,acc,K=>
  let run (s:St):Prop:=
   match AfB G o s with
   |some (f,args)=>if okRW ms acc n&&Ad3 ms ops.length (n+acc.length)then inl f args s.heap λsv heap=>vcD P G wr inl ops ms r (n+acc.length+1) (St.put ⟨s.tmps,heap⟩ o.dst sv) [] K else False
   |none=>
    match sop P G wr o s.ev s.heap with
    | .ok none none sv heap R W=>vcD P G wr inl ops ms r n (St.put ⟨s.tmps,heap⟩ o.dst sv) (acc++[(R,W++AcD s.heap.length heap.length)]) K
    | .ok none (some chk) sv heap R W=>chk/\vcD P G wr inl ops ms r n (St.put ⟨s.tmps,heap⟩ o.dst sv) (acc++[(R,W++AcD s.heap.length heap.length)]) K
    | .ok (some hyp) none sv heap R W=>hyp->vcD P G wr inl ops ms r n (St.put ⟨s.tmps,heap⟩ o.dst sv) (acc++[(R,W++AcD s.heap.length heap.length)]) K
    | .ok (some hyp) (some chk) sv heap R W=>chk/\(hyp->vcD P G wr inl ops ms r n (St.put ⟨s.tmps,heap⟩ o.dst sv) (acc++[(R,W++AcD s.heap.length heap.length)]) K)
    | .fail=>False
  match guardOf ops s o.guard with
  | .run=>run s
  | .skip=>vcD P G wr inl ops ms r n (s.put o.dst .undef) (acc++[([],[])]) K
  | .ask t b want=>Cw want b (run (s.put (some t) (.blit want)))
   (vcD P G wr inl ops ms r n ((s.put (some t) (.blit (!want))).put o.dst .undef) (acc++[([],[])]) K)
  | .bad=>False
def Af7 (P:Program) (G:Nat->Option Ct) (wr:Bool) (inl:Inl) (ops:Array Oper) (s:St) (K:St->Prop):Prop:=
 if Ab5 ops.toList 0&&Aib ops.toList&&Acx ops.toList (Ace ops.toList []) ops.toList 0 then vcD P G wr inl ops.toList (Ace ops.toList []) ops.toList 0 s [] K else False
end Go.Sx

